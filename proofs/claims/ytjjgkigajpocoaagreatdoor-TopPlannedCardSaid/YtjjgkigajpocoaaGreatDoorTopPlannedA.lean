/- Part 1 of the proof of TopPlanned: shallow programs of Go functions, and what they compute. No condition. -/
import Derived.Below
import Derived.OrdersIn
import Derived.RangeFuncCalls
import Derived.RangeFuncSeq
import Derived.Laws.StructEq
import Derived.Laws.Tables
import Derived.ChangeMaps3
noncomputable section
abbrev amj:=@Option.bind_eq_some_iff
abbrev amk:=@List.getElem_mem
abbrev aml:=@Bool.false_eq_true
abbrev amm:=@Bool.and_eq_true
abbrev amn:=@Nat.le_refl
abbrev amo:=@Option.some.injEq
abbrev amp:=@decide_eq_true_eq
abbrev amq:=@List.getD_eq_getElem?_getD
abbrev amr:=@List.mem_cons_of_mem
abbrev ams:=@List.getElem?_eq_getElem
abbrev amt:=@Nat.mul_le_mul_right
abbrev amu:=@List.getElem?_append_right
abbrev amx:=@Option.getD_some
abbrev aPG:=@Nat.lt_of_lt_of_le
abbrev aPH:=@if_false
abbrev aPI:=@Array.getD_eq_getD_getElem?
abbrev aPJ:=@List.getElem_range
abbrev aPK:=@Prod.mk.injEq
abbrev aPL:=@Nat.le_trans
abbrev aPM:=@List.drop_eq_getElem_cons
abbrev aPN:=@List.map_congr_left
abbrev aPO:=@Bool.not_eq_true'
abbrev aPP:=@Int.le_refl
abbrev aPQ:=@List.cons.inj
abbrev aPR:=@Nat.zero_le
abbrev aPS:=@Option.isSome_some
abbrev aPT:=@List.append_nil
abbrev aPU:=@Bool.or_eq_true
abbrev aPV:=@Int.toNat_natCast
abbrev aPW:=@List.length_map
abbrev aPX:=@decide_eq_false_iff_not
abbrev aPY:=@Array.length_toList
abbrev aPZ:=@List.all_eq_true
abbrev aP0:=@List.mem_of_mem_take
abbrev aP1:=@List.getElem?_append_left
abbrev aP2:=@Array.getElem?_toList
abbrev aP3:=@List.foldl_cons
abbrev aP4:=@of_decide_eq_true
abbrev aP5:=@decide_eq_true
abbrev aP6:=@List.eq_nil_of_length_eq_zero
abbrev aP7:=@List.map_append
abbrev aP8:=@List.length_append
abbrev aP9:=@Option.map_eq_some_iff
abbrev aP':=@List.mem_append_right
abbrev aQa:=@implies_true
abbrev aQb:=@List.map_cons
abbrev aQc:=@List.take_length
abbrev aQd:=@decide_eq_false
abbrev aQe:=@List.length_filter_le
abbrev aQf:=@List.flatMap_cons
abbrev aQg:=@decide_eq_true_iff
abbrev aQh:=@Option.some.inj
abbrev aQi:=@Nat.add_mul
abbrev aQj:=@decide_false
abbrev aQk:=@List.nil_append
abbrev aQl:=@List.length_take
abbrev aQm:=@Bool.not_true
abbrev aQn:=@List.all_cons
abbrev aQo:=@Bool.or_eq_false_iff
abbrev aQp:=@List.mem_of_find?_eq_some
abbrev aQq:=@Nat.lt_succ_self
abbrev aQr:=@List.getElem_map
abbrev aQs:=@List.mem_map_of_mem
abbrev aQt:=@List.length_replicate
abbrev aQu:=@Bool.not_false
abbrev aQv:=@List.getElem?_cons_succ
abbrev aQw:=@List.filter_append
abbrev aQx:=@List.length_set
abbrev aQy:=@List.append_assoc
abbrev aQz:=@Array.getElem?_eq_getElem
abbrev aQA:=@Bool.false_or
abbrev aQB:=@List.getElem?_toArray
abbrev aQC:=@List.getElem?_drop
abbrev aQD:=@List.range_eq_range'
abbrev aQE:=@List.any_cons
abbrev aQF:=@Nat.lt_or_ge
abbrev aQG:=@Nat.zero_add
abbrev aQH:=@List.take_add_one
abbrev aQI:=@List.take_of_length_le
abbrev aQJ:=@List.pairwise_lt_range
abbrev aQK:=@and_self
abbrev aQL:=@List.perm_ext_iff_of_nodup
abbrev aQM:=@List.mem_cons_self
abbrev aQN:=@List.mem_singleton
abbrev aQO:=@List.mem_cons
abbrev aQP:=@List.getElem_append_right
abbrev aQQ:=@List.mem_append_left
abbrev aQR:=@List.mem_of_getElem?
abbrev aQS:=@Nat.pow_le_pow_right
abbrev aQT:=@List.filter_congr
abbrev aQU:=@Array.getElem?_replicate
abbrev aQV:=@List.getElem?_map
abbrev aQW:=@List.getElem?_cons_zero
abbrev aQX:=@Bool.true_and
abbrev aQY:=@List.not_mem_nil
abbrev aQZ:=@Nat.pos_of_ne_zero
abbrev aQ0:=@List.getElem?_take
abbrev aQ1:=@List.take_append_drop
abbrev aQ2:=@List.range_succ
abbrev aQ3:=@List.length_singleton
abbrev aQ4:=@List.map_map
abbrev aQ5:=@List.ext_getElem?
abbrev aQ6:=@List.length_range
abbrev aQ7:=@List.pairwise_map
abbrev aQ8:=@List.Pairwise.filter
abbrev aQ9:=@List.mem_range
abbrev aQ':=@List.length_cons
abbrev aRa:=@List.ext_getElem
abbrev aRb:=@List.mem_map
abbrev aRc:=@Nat.le_of_eq
abbrev aRd:=@Int.le_trans
abbrev aRe:=@and_true
abbrev aRf:=@Option.map_some
abbrev aRg:=@Option.toList_some
abbrev aRh:=@Bool.true_eq_false
abbrev aRi:=@List.flatten_cons
abbrev aRj:=@decide_true
abbrev aRk:=@Bool.false_and
abbrev aRl:=@Nat.add_zero
abbrev aRm:=@Int.zero_add
abbrev aRn:=@List.range'_succ
abbrev aRo:=@Nat.le_of_not_lt
abbrev aRp:=@Nat.succ_lt_succ
abbrev aRq:=@Nat.zero_lt_succ
abbrev aRr:=@List.mem_flatMap
abbrev aRs:=@true_and
abbrev z1':=List Int
abbrev z2':=List (List UInt8)
abbrev z12':=Int×Int
abbrev z15':=Int×z12'
abbrev z28':=Int×z15'
abbrev z3':=List (z28')
abbrev z4':=List (z12')
abbrev z5':=List (z15')
abbrev z21':=Nat×Nat
abbrev z6':=List (Nat×z21')
abbrev z7':=List ((z15')×Int)
abbrev z8':=List (Nat×(z21'))
abbrev z9':=List (z21')
abbrev z10':=List (Option Nat)
abbrev z11':=z3'×List (List (Int×z1'×Int×Int))×Int×z3'
abbrev z13':=List (Nat×z1')×Unit
abbrev z14':=z1'×Unit
abbrev z16':=(z12')×(Nat×Nat×Nat)×z13'
abbrev z17':=Int×z1'×z12'
abbrev z18':=z1'×Int
abbrev z19':=Int×Int×Int×z15'
abbrev z20':=Int×z14'
abbrev z22':=(z12')×Int
abbrev z23':=Int×Int×Int×Int×z1'
abbrev z24':=z1'×(Int×Int)×z15'
abbrev z25':=Int×Unit
abbrev z26':=List (z1')×Unit
abbrev z27':=Int×Bool
abbrev z29':=z6'×Int×Int×(z12')×z1'×z1'×z13'
abbrev z30':=List (z2')×z2'×Unit
abbrev z31':=List (z6')×z13'
abbrev z32':=List UInt8×Int
abbrev z33':=Int×z20'
set_option linter.unusedVariables false
set_option linter.unusedSimpArgs false
namespace Go.Fer
@[ext] structure M (ag:Type):Type where
 e3:Prop
 a_:ag->Prop
section
variable {ag bet hh A rho:Type}
def mpure(x:ag):M ag:=⟨True,λy=>y=x⟩
def aq(m:M ag)(f:ag->M bet):M bet:=⟨m.e3/\∀ x,m.a_ x->(f x).e3,λy=>∃ x,m.a_ x/\(f x).a_ y⟩
def ae(p:Prop)(m:M ag):M ag:=⟨p/\m.e3,m.a_⟩
def eE(p:Prop)(x:ag):M ag:=⟨p,λy=>y=x⟩
def mN(p:ag->Prop):M ag:=⟨∃ x,p x,p⟩
variable {m:M ag}
theorem zS{n:M ag}(E:m.e3<->n.e3)(L:∀ x,m.a_ x<->n.a_ x):m=n:=by
 cases m;cases n;simp only[M.mk.injEq];grind
@[simp] theorem tK (x:ag):(mpure x).e3=True:=rfl
@[simp] theorem aLj (x y:ag):(mpure x).a_ y=(y=x):=rfl
@[simp] theorem aN (x:ag) (f:ag->M bet):aq (mpure x) f=f x:=zS (by simp[aq,mpure]) (by simp[aq,mpure])
@[simp] theorem aLk (m:M ag):aq m mpure=m:=zS (by simp[aq,mpure]) (by simp[aq,mpure])
variable {p:Prop}
theorem bc(h:p)(m:M ag):ae p m=m:=zS (by simp[ae,h]) (by simp[ae])
@[simp] theorem cp (m:M ag):ae True m=m:=bc trivial m
theorem Fz(p:Prop)(m:M ag)(f:ag->M bet):aq (ae p m) f=ae p (aq m f):=zS (by simp[aq,ae,and_assoc]) (by simp[aq,ae])
@[simp] theorem sE (x:ag):eE True x=mpure x:=rfl
theorem bP(h:p)(x:ag):eE p x=mpure x:=zS (by simp_all) (by simp_all)
theorem e4(p:Prop)(x:ag)(f:ag->M bet):aq (eE p x) f=ae p (f x):=by
 apply zS
 ·simp[aq,eE,ae]
 ·simp[aq,eE,ae]
theorem Pz{c:Prop}[Decidable c](m n:M ag)(f:ag->M bet):aq (if c then m else n) f=if c then aq m f else aq n f:=by grind
def a8(n m:M ag):Prop:=m.e3->n.e3/\∀ y,n.a_ y->m.a_ y
theorem wR(m:M ag):a8 m m:=λh=>⟨h,λ_ h=>h⟩
theorem FA{a b c:M ag}(h:a8 a b)(k:a8 b c):a8 a c:=λaz=>⟨(h (k az).1).1,λy ba=>(k az).2 y ((h (k az).1).2 y ba)⟩
theorem FB{a b:M ag}(h:a=b):a8 a b:=h ▸ wR a
def c'(m:M ag)(p:ag->Prop):Prop:=m.e3/\∀ y,m.a_ y->p y
variable {p:ag->Prop}
theorem c'.mono{q:ag->Prop}(h:c' m p)(k:∀ y,p y->q y):c' m q:=⟨h.1,λy ba=>k y (h.2 y ba)⟩
theorem dO{x:ag}:c' (mpure x) p<->p x:=⟨λh=>h.2 x rfl,λh=>⟨trivial,λ_ e=>e ▸ h⟩⟩
theorem fN{f:ag->M bet}{p:bet->Prop}:c' (aq m f) p<->c' m λx=>c' (f x) p:=
 ⟨λh=>⟨h.1.1,λx al=>⟨h.1.2 x al,λy ba=>h.2 y ⟨x,al,ba⟩⟩⟩,λh=>⟨⟨h.1,λx al=>(h.2 x al).1⟩,λy ⟨x,al,ba⟩=>(h.2 x al).2 y ba⟩⟩
theorem h5{q:Prop}:c' (ae q m) p<->q/\c' m p:=by
 simp[c',ae,and_assoc]
inductive aJ(A rho:Type) where
 | aw (s:A)
 | aV (r:rho)
inductive FC(body:A->M (aJ A rho)):A->Prop where
 | mk (s:A) (h:(body s).e3) (k:∀ s',(body s).a_ (.aw s')->FC body s'):FC body s
inductive CC(body:A->M (aJ A rho)):A->rho->Prop where
 | aV (s:A) (r:rho) (h:(body s).a_ (.aV r)):CC body s r
 | aw (s s':A) (r:rho) (h:(body s).a_ (.aw s')) (k:CC body s' r):CC body s r
def dA(body:A->M (aJ A rho))(s:A):M rho:=⟨FC body s,CC body s⟩
theorem zT(body:A->M (aJ A rho))(s:A) :
  dA body s=aq (body s) fun | .aw s'=>dA body s' | .aV r=>mpure r:=by
 apply zS
 ·constructor
  ·rintro⟨_,h,k⟩;refine⟨h,λx al=>?_⟩;cases x with
   | aw s'=>exact k s' al
   | aV r=>trivial
  ·rintro⟨h,k⟩;exact⟨s,h,λs' az=>k _ az⟩
 ·intro r;constructor
  ·rintro (⟨_,_,h⟩ | ⟨_,s',_,h,k⟩)
   ·exact⟨.aV r,h,rfl⟩
   ·exact⟨.aw s',h,k⟩
  ·rintro⟨x,al,D⟩;cases x with
   | aw s'=>exact .aw s s' r al D
   | aV jM=>cases D;exact .aV s _ al
theorem CD{body:A->M (aJ A rho)}{s s':A}(h:body s=mpure (.aw s')):dA body s=dA body s':=by
 rw[zT,h,aN]
theorem u7{body:A->M (aJ A rho)}{s:A}{r:rho}(h:body s=mpure (.aV r)):dA body s=mpure r:=by
 rw[zT,h,aN]
theorem amC{body:A->M (aJ A rho)}{res:rho}(I:A->Prop)(zU:A->Nat)
  (round:∀ s,I s->(∃ s',body s=mpure (.aw s')/\I s'/\zU s'<zU s)\/body s=mpure (.aV res)) (s:A) (h:I s) :
  dA body s=mpure res:=by
 have key:∀ n s,zU s=n->I s->dA body s=mpure res:=by
  intro n;induction n using Nat.strongRecOn with
  | _ n aP=>
   intro s aC az;rcases round s az with⟨s',e,fk,dv⟩ | e
   ·rw[CD e];grind
   ·exact u7 e
 grind
theorem zV{body:A->M (aJ A rho)}{p:rho->Prop}(I:A->Prop)(zU:A->Nat)
  (round:∀ s,I s->c' (body s) fun | .aw s'=>I s'/\zU s'<zU s | .aV r=>p r) (s:A) (h:I s):c' (dA body s) p:=by
 have key:∀ n s,zU s=n->I s->c' (dA body s) p:=by
  intro n;induction n using Nat.strongRecOn with
  | _ n aP=>
   intro s aC az;rw[zT,fN];refine (round s az).mono λy ba=>?_;cases y with
   | aw s'=>grind
   | aV r=>exact dO.2 ba
 grind
end
end Go.Fer
namespace Go.Fer
def X1(b:Nat)(c:Nat->Option Value):Prop:=
 match b with
 | 0=>∃ m,c 0=some (.int .i64 m)
 | 1 | 2=>∃ v,c 0=some v/\(v=.nilIface\/∃ nW oB,v=.iface nW oB)
 | 5=>∀ i,c i=if i<20 then some (.int .u64 (10 ^ i)) else none
 | _=>True
end Go.Fer
namespace Go.Fer
open Go.RowKit
inductive V where
 | bool | int (k:IntKind) | str | dc
 | ad (t:V) | ar (a b:V)
 | slice (e:V) | array (n:Nat) (e:V) | bO (e:V) | map (k v:V) | fn (a b:V) | cG (a:V) | eW | cM (e:V)
 deriving DecidableEq
@[reducible] def V.aj:V->Type
 | .bool=>Bool
 | .int _=>Int
 | .str=>List UInt8
 | .dc=>Unit
 | .ad t=>t.aj
 | .ar a b=>a.aj×b.aj
 | .slice e=>List e.aj
 | .array _ e=>List e.aj
 | .bO e=>Option e.aj
 | .map k v=>List (k.aj×v.aj)
 | .fn a b=>a.aj->M b.aj
 | .cG a=>List a.aj->Prop
 | .eW=>Option Nat
 | .cM _=>Nat×z21'
def V.dU:(t:V)->t.aj
 | .bool=>false
 | .int _=>(0:Int)
 | .str=>[]
 | .dc=>()
 | .ad t=>t.dU
 | .ar a b=>(a.dU,b.dU)
 | .slice _=>[]
 | .array n e=>List.replicate n e.dU
 | .bO _=>none
 | .map _ _=>[]
 | .fn _ _=>λ_=>⟨False,λ_=>False⟩
 | .cG _=>λ_=>False
 | .eW=>none
 | .cM _=>(0,0,0)
def V.size:V->Nat
 | .dc=>0
 | .ad t=>t.size
 | .ar a b=>a.size+b.size
 | .array n e=>n*e.size
 | _=>1
def V.fY:V->Bool
 | .dc | .ad _ | .ar _ _ | .array _ _=>false
 | _=>true
def gM(k:IntKind)(n:Int):Prop:=k.min<=n/\n<=k.max
instance (k:IntKind) (n:Int):Decidable (gM k n):=inferInstanceAs (Decidable (_/\_))
def Holds(F:Nat->Prop)(w:World)(p:Addr)(cs:List Value):Prop:=
 F p.block/\p.spot=none/\∀ j (h:j<cs.length),w.cell? ⟨p.block,p.off+j,none⟩=some cs[j]
def di(F:Nat->Prop)(w w':World):Prop:=w.heap.size<=w'.heap.size/\∀ r,F r->w'.heap[r]?=w.heap[r]?
theorem di.refl(F:Nat->Prop)(w:World):di F w w:=⟨amn _,λ_ _=>rfl⟩
theorem di.trans{F F':Nat->Prop}{a b c:World}(h:di F a b)(bp:∀ r,F r->F' r)(k:di F' b c):di F a c:=
 ⟨aPL h.1 k.1,λr D=>(k.2 r (bp r D)).trans (h.2 r D)⟩
theorem di.cell{F:Nat->Prop}{w w':World}(h:di F w w'){a:Addr}(aY:F a.block):w'.cell? a=w.cell? a:=by
 simp  [World.cell?,h.2 _ aY]
def pa(P:Program)(F:Nat->Prop)(w:World):Prop:=∀ b,b<P.globals.size->F b/\X1 b λi=>w.cell? ⟨b,i,none⟩
variable {P:Program}{F:Nat->Prop}{F':Nat->Prop}{w:World}{w':World}
theorem pa.mono(h:pa P F w)(bp:∀ r,F r->F' r)(he:di F w w'):pa P F' w':=λb U=>by
 obtain⟨E,L⟩:=h b U;have e:=funext λi=>he.cell (a:=⟨b,i,none⟩) E;grind
theorem Holds.mono{p:Addr}{cs:List Value}(h:Holds F w p cs)(bp:∀ r,F r->F' r)(he:di F w w'):Holds F' w' p cs:=
 ⟨bp _ h.1,h.2.1,λj aK=>(he.cell (a:=⟨p.block,p.off+j,none⟩) h.1).trans (h.2.2 j aK)⟩
def l1:V->Value->Prop
 | .ad t,v=>∃ cs:Array Value,v=.agg cs/\cs.size=t.size
 | .array n e,v=>∃ cs:Array Value,v=.agg cs/\cs.size=n*e.size
 | .dc,_=>False
 | .ar _ _,_=>False
 | _,v=>v.cells=#[v]
def fG(aG:List Value):List Value:=aG.flatMap (·.cells.toList)
@[simp] theorem aLl:fG []=[]:=rfl
@[simp] theorem amD (v:Value) (aG:List Value):fG (v::aG)=v.cells.toList++fG aG:=rfl
def wS:V->List Value->Prop
 | .ar a b,v::aG=>l1 a v/\wS b aG
 | .ar _ _,[]=>False
 | .dc,aG=>aG=[]
 | t,aG=>∃ v,aG=[v]/\l1 t v
def JS:V->Value->List Value->Prop
 | .ar _ _,v,aG=>v=.tuple aG.toArray
 | .dc,v,aG=>v=.tuple #[]/\aG=[]
 | _,v,aG=>aG=[v]
def wT(F:Nat->Prop)(w w':World):Nat->Prop:=λr=>F r\/(w.heap.size<=r/\r<w'.heap.size)
structure JT(P:Program){ag:Type}(R:(Nat->Prop)->World->List Value->ag->Prop)(l:Nat)(S:List ag->Prop)(I:List ag->Bool->(Nat->Prop)->(Nat->Prop)->World->Prop):Prop where
 FD:∀ {pre ad} {F F' Y:Nat->Prop} {w w':World},I pre ad F Y w->(∀ r,F r->F' r)->(∀ r,F r\/Y r->w'.heap[r]?=w.heap[r]?)->w.heap.size<=w'.heap.size->w'.os=w.os/\w'.tape=w.tape/\w'.output=w.output->(∀ r,F' r->r<w'.heap.size)->(∀ r,F' r->¬Y r)->I pre ad F' Y w'
 yield:∀ {pre} {F Y:Nat->Prop} {w:World} {args:List Value} {x:ag},I pre false F Y w->(∀ r,F r->r<w.heap.size)->(∀ r,Y r->r<w.heap.size/\¬F r)->(∃ T,S (pre++x::T))->R F w args x->
  YieldAt Fence.wide 0 P l args.toArray w λe w'=>∃ (b:Bool) (F' jg:Nat->Prop),e=.returned (.bool b)/\(∀ r,F r->F' r)/\(∀ r,F' r->F r\/Y r\/w.heap.size<=r)/\(∀ r,F' r->r<w'.heap.size)/\
   (∀ r,r<w.heap.size->¬Y r->w'.heap[r]?=w.heap[r]?)/\(∀ r,jg r->(Y r\/w.heap.size<=r)/\r<w'.heap.size/\¬F' r)/\w.heap.size<=w'.heap.size/\(w'.os=w.os/\w'.tape=w.tape/\w'.output=w.output)/\I (pre++[x]) (!b) F' jg w'
def X2{ag:Type}(S:List ag->Prop)(I:List ag->Bool->(Nat->Prop)->(Nat->Prop)->World->Prop)(F Y:Nat->Prop)(w:World)(e:Ending)(w':World):Prop:=
 ∃ v pre ad F' jg,e=.returned v/\(ad=false->S pre)/\I pre ad F' jg w'/\(∀ r,F r->F' r)/\(∀ r,F' r->F r\/Y r\/w.heap.size<=r)/\(∀ r,F' r->r<w'.heap.size)/\
  (∀ r,r<w.heap.size->¬Y r->w'.heap[r]?=w.heap[r]?)/\(∀ r,jg r->(Y r\/w.heap.size<=r)/\r<w'.heap.size/\¬F' r)/\w.heap.size<=w'.heap.size/\(w'.os=w.os/\w'.tape=w.tape/\w'.output=w.output)
def amE:Option Nat->Value
 | none=>.nilFunc
 | some k=>.func (.func k) #[] #[]
def cw(P:Program):(t:V)->(Nat->Prop)->World->List Value->t.aj->Prop
 | .bool,_,_,cs,x=>cs=[.bool x]
 | .int k,_,_,cs,x=>cs=[.int k x]/\gM k x
 | .str,_,_,cs,x=>cs=[.string ⟨x.toArray⟩]/\x.length<2 ^ 63
 | .dc,_,_,cs,_=>cs=[]
 | .ad t,F,w,cs,x=>cw P t F w cs x
 | .ar a b,F,w,cs,x=>∃ c d,cs=c++d/\cw P a F w c x.1/\cw P b F w d x.2
 | .slice e,F,w,cs,xs=>∃ a cap,cs=[.slice a xs.length cap]/\xs.length<=cap/\cap<2 ^ 63/\(a=none->cap=0)/\
   ∀ p,a=some p->0<cap->F p.block/\p.spot=none/\∀ i (h:i<xs.length),∃ bC,Holds F w ⟨p.block,p.off+i*e.size,none⟩ bC/\cw P e F w bC xs[i]
 | .array n e,F,w,cs,xs=>∃ gN:List (List Value),cs=gN.flatten/\gN.length=n/\xs.length=n/\∀ i (h:i<xs.length) (e0:i<gN.length),cw P e F w gN[i] xs[i]
 | .bO e,F,w,cs,x=>(cs=[.pointer none]/\x=none)\/∃ p y bC,cs=[.pointer (some p)]/\x=some y/\Holds F w p bC/\cw P e F w bC y
 | .map k v,F,w,cs,xs=>(cs=[.map none]/\xs=[])\/∃ r es clk,cs=[.map (some r)]/\F r/\w.heap[r]?=some (.map es clk)/\es.size=xs.length/\(xs.map (·.1)).Nodup/\
   (∀ i (h:i<xs.length) (e0:i<es.size),l1 k es[i].key/\cw P k F w es[i].key.cells.toList xs[i].1/\l1 v es[i].val/\cw P v F w es[i].val.cells.toList xs[i].2/\es[i].born<clk)/\
   (∀ i j (h:i<es.size) (e0:j<es.size),es[i].born=es[j].born->i=j)
 | .fn a b,F,w,cs,f=>∃ u,cs=[u]/\(u.cells=#[u]/\u.oneCell'=true)/\∀ (F':Nat->Prop) (w':World),(∀ r,F r->F' r)->di F w w'->(∀ r,F' r->r<w'.heap.size)->pa P F' w'->
   ∀ args x,wS a args->cw P a F' w' (fG args) x->(f x).e3->∃ g dP,u=.func (.func g) #[] dP/\(∀ as w,(callFunc g as).run P w=.ok (.enter g as) w)/\
    Calls P g (args.toArray++dP) w' λe wU=>∃ v y aG,e=.returned v/\(f x).a_ y/\JS b v aG/\wS b aG/\cw P b (wT F' w' wU) wU (fG aG) y/\Below w'.heap.size w' wU
 | .cG a,F,w,cs,S=>∃ u,cs=[u]/\(u.cells=#[u]/\u.oneCell'=true)/\∀ (F':Nat->Prop) (w':World),(∀ r,F r->F' r)->di F w w'->(∀ r,F' r->r<w'.heap.size)->pa P F' w'->
   (∃ ab,S ab)->∃ g dP,u=.func (.func g) #[] dP/\(∀ as w,(callFunc g as).run P w=.ok (.enter g as) w)/\
    ∀ (l:Nat) (I:List a.aj->Bool->(Nat->Prop)->(Nat->Prop)->World->Prop) (Y:Nat->Prop),(∀ r,Y r->r<w'.heap.size/\¬F' r)->
     JT P (λF w args x=>wS a args/\cw P a F w (fG args) x) l S I->I [] false F' Y w'->Calls P g (#[Value.func (.yield l) #[] #[]]++dP) w' (X2 S I F' Y w')
 | .eW,_,_,cs,x=>cs=[amE x]
 | .cM e,_,_,cs,x=>(cs=[.slice none 0 0]/\x.2.2=0)\/∃ o c,cs=[.slice (some ⟨x.1,o,none⟩) x.2.2 c]/\x.2.2<=c/\c<2 ^ 63/\(0<c->o=x.2.1*e.size)
theorem jN:∀ (t:V) {F:Nat->Prop} {w:World} {cs:List Value} {x:t.aj},cw P t F w cs x->cs.length=t.size:=by
 intro t;induction t with
 | bool=>grind [cw,V.size]
 | int k=>intro F w cs x h;simp[h.1,V.size]
 | str=>intro F w cs x h;simp[h.1,V.size]
 | dc=>grind [cw,V.size]
 | ad t aP=>intro F w cs x h;exact aP h
 | ar a b hi gj=>
  intro F w cs x h;obtain⟨c,d,rfl,aY,U⟩:=h;grind [V.size]
 | slice e aP=>intro F w cs x h;obtain⟨a,cap,rfl,_⟩:=h;rfl
 | array n e aP=>
  intro F w cs x h;obtain⟨gN,rfl,E,L,an⟩:=h;have:∀ l∈gN,l.length=e.size:=by
   grind [List.mem_iff_getElem]
  have a6:gN.map List.length=List.replicate n e.size:=by
   simp_all[List.eq_replicate_iff]
  simp[a6,V.size]
 | bO e aP=>intro F w cs x h;rcases h with⟨rfl,_⟩ | ⟨p,y,bC,rfl,_⟩<;>rfl
 | map k v zW zX=>intro F w cs x h;rcases h with⟨rfl,_⟩ | ⟨r,es,clk,rfl,_⟩<;>rfl
 | fn a b hi gj=>intro F w cs x h;obtain⟨u,rfl,_⟩:=h;rfl
 | cG a aP=>intro F w cs x h;obtain⟨u,rfl,_⟩:=h;rfl
 | eW=>intro F w cs x h;subst h;rfl
 | cM e aP=>intro F w cs x h;rcases h with⟨rfl,_⟩ | ⟨o,c,rfl,_⟩<;>rfl
theorem fH:∀ (t:V) {F F':Nat->Prop} {w w':World} {cs:List Value} {x:t.aj},(∀ r,F r->F' r)->di F w w'->cw P t F w cs x->cw P t F' w' cs x:=by
 intro t;induction t with
 | bool=>intro F F' w w' cs x _ _ h;exact h
 | int k=>intro F F' w w' cs x _ _ h;exact h
 | str=>intro F F' w w' cs x _ _ h;exact h
 | dc=>intro F F' w w' cs x _ _ h;exact h
 | ad t aP=>grind [cw]
 | ar a b hi gj=>
  grind [cw]
 | slice e aP=>
  intro F F' w w' cs x bp he h;obtain⟨a,cap,rfl,E,L,an,a6⟩:=h;refine⟨a,cap,rfl,E,L,an,λp ai hc=>?_⟩;obtain⟨aM,aT,b5⟩:=a6 p ai hc;refine⟨bp _ aM,aT,λi G=>?_⟩;obtain⟨bC,m1,m2⟩:=b5 i G;exact⟨bC,m1.mono bp he,aP bp he m2⟩
 | array n e aP=>
  grind [cw]
 | bO e aP=>
  intro F F' w w' cs x bp he h;simp  [cw]at h ⊢;rcases h with h | ⟨p,y,bC,E,L,an,a6⟩
  ·grind
  ·exact .inr ⟨p,y,bC,E,L,an.mono bp he,aP bp he a6⟩
 | map k v zW zX=>
  intro F F' w w' cs x bp he h;simp only[cw]at h ⊢;rcases h with h | ⟨r,es,clk,E,L,an,a6,bS,ek,iQ⟩
  ·grind
  ·refine .inr ⟨r,es,clk,E,bp _ L,(he.2 _ L).trans an,a6,bS,λi G d_=>?_,iQ⟩;grind
 | fn a b hi gj=>
  intro F F' w w' cs x bp he h;obtain⟨u,rfl,hu,E⟩:=h;exact⟨u,rfl,hu,λPA wU yc zY az=>E PA wU (λr D=>yc r (bp r D)) (he.trans bp zY) az⟩
 | cG a aP=>
  intro F F' w w' cs x bp he h;obtain⟨u,rfl,hu,E⟩:=h;exact⟨u,rfl,hu,λPA wU yc zY az=>E PA wU (λr D=>yc r (bp r D)) (he.trans bp zY) az⟩
 | eW=>intro F F' w w' cs x _ _ h;exact h
 | cM e aP=>intro F F' w w' cs x _ _ h;exact h
def fr(P:Program)(t:V)(F:Nat->Prop)(w:World)(v:Value)(x:t.aj):Prop:=l1 t v/\cw P t F w v.cells.toList x
def gv(P:Program)(t:V)(F:Nat->Prop)(w:World)(aG:List Value)(x:t.aj):Prop:=wS t aG/\cw P t F w (fG aG) x
def tL(P:Program)(t:V)(F:Nat->Prop)(w:World)(v:Value)(x:t.aj):Prop:=∃ aG,JS t v aG/\gv P t F w aG x
variable {t:V}{v:Value}
theorem fr.mono{x:t.aj}(h:fr P t F w v x)(bp:∀ r,F r->F' r)(he:di F w w'):fr P t F' w' v x:=
 ⟨h.1,fH t bp he h.2⟩
theorem JU(h:v.oneCell'=true):v.cells=#[v]:=by
 cases v<;>first | rfl | cases h
theorem X3(h:v.cells=#[v]):v.cells.toList=[v]:=by rw[h]
theorem l1.len(h:l1 t v):v.cells.toList.length=t.size:=by
 cases t<;>simp  [l1]at h<;>first
  | (obtain⟨cs,rfl,h⟩:=h;grind [Value.cells,V.size])
  | (rw[X3 h];rfl)
  | exact h.elim
variable {aG:List Value}
theorem zZ{a b:V}{x:a.aj}{y:b.aj} :
  gv P (.ar a b) F w (v::aG) (x,y)<->fr P a F w v x/\gv P b F w aG y:=by
 constructor
 ·rintro⟨⟨E,L⟩,c,d,e,hc,ax⟩;have ah:=jN a hc;have:=List.append_inj e (by rw[ah];exact E.len);obtain⟨aE,bz⟩:=this;subst aE;subst bz;exact⟨⟨E,hc⟩,L,ax⟩
 ·rintro⟨⟨E,L⟩,an,a6⟩;exact⟨⟨E,an⟩,_,_,rfl,L,a6⟩
theorem FE{a b:V}{x:(V.ar a b).aj}(h:gv P (.ar a b) F w aG x) :
  ∃ v us,aG=v::us/\fr P a F w v x.1/\gv P b F w us x.2:=by
 cases aG with
 | nil=>exact h.1.elim
 | cons v us=>grind [zZ]
def V.hK:V->Bool
 | .ar _ _ | .dc=>false
 | _=>true
theorem pb(aH:t.hK=true){x:t.aj} :
  gv P t F w aG x<->∃ v,aG=[v]/\fr P t F w v x:=by
 have key:wS t aG<->∃ v,aG=[v]/\l1 t v:=by cases t<;>simp[V.hK,wS]at aH ⊢
 unfold gv fr;constructor<;>simp_all
section
variable {P:Program} {F:Nat->Prop} {w:World} {v:Value}
@[simp] theorem hV {x:Bool}:fr P .bool F w v x<->v=.bool x:=by
 constructor
 ·rintro⟨E,L⟩;simp only[l1]at E;simp only[cw]at L;rw[X3 E]at L;simpa using L
 ·rintro rfl;exact⟨by simp[l1,Value.cells],by simp[cw,Value.cells]⟩
theorem hL{k:IntKind}{x:Int}:fr P (.int k) F w v x<->v=.int k x/\gM k x:=by
 constructor
 ·rintro⟨E,L⟩;grind [l1,cw]
 ·rintro⟨rfl,h⟩;exact⟨by rfl,by grind [cw,Value.cells]⟩
theorem k7{x:List UInt8}:fr P .str F w v x<->v=.string ⟨x.toArray⟩/\x.length<2 ^ 63:=by
 constructor
 ·rintro⟨E,L⟩;grind [l1,cw]
 ·rintro⟨rfl,h⟩;exact⟨by rfl,by grind [cw,Value.cells]⟩
theorem ee(aH:t.fY=true){x:t.aj}:fr P t F w v x<->v.cells=#[v]/\cw P t F w [v] x:=by
 have E:l1 t v<->v.cells=#[v]:=by cases t<;>simp[V.fY,l1]at aH ⊢
 unfold fr;grind
theorem PB(aH:t.fY=true){F:Nat->Prop}{w:World}{u:Value}{x:t.aj}(h:cw P t F w [u] x):u.oneCell'=true:=by
 cases t<;>simp only[cw]at aH h<;>try contradiction
 ·obtain rfl:=(aPQ h).1;rfl
 ·obtain rfl:=(aPQ h.1).1;rfl
 ·obtain rfl:=(aPQ h.1).1;rfl
 ·obtain⟨a,cap,h,_⟩:=h;obtain rfl:=(aPQ h).1;rfl
 ·rcases h with⟨h,_⟩ | ⟨p,y,bC,h,_⟩<;>(obtain rfl:=(aPQ h).1;rfl)
 ·rcases h with⟨h,_⟩ | ⟨r,es,clk,h,_⟩<;>(obtain rfl:=(aPQ h).1;rfl)
 ·grind
 ·grind
 ·obtain rfl:=(aPQ h).1;cases x<;>rfl
 ·rcases h with⟨h,_⟩ | ⟨o,c,h,_⟩<;>(obtain rfl:=(aPQ h).1;rfl)
theorem JV(aH:t.fY=true){F:Nat->Prop}{w:World}{cs:List Value}{x:t.aj}(h:cw P t F w cs x):∃ u,cs=[u]/\u.cells=#[u]:=by
 cases t<;>simp only[cw]at aH h<;>try contradiction
 ·exact⟨_,h,rfl⟩
 ·exact⟨_,h.1,rfl⟩
 ·exact⟨_,h.1,rfl⟩
 ·obtain⟨a,cap,rfl,_⟩:=h;exact⟨_,rfl,rfl⟩
 ·rcases h with⟨rfl,_⟩ | ⟨p,y,bC,rfl,_⟩<;>exact⟨_,rfl,rfl⟩
 ·rcases h with⟨rfl,_⟩ | ⟨r,es,clk,rfl,_⟩<;>exact⟨_,rfl,rfl⟩
 ·grind
 ·grind
 ·exact⟨_,h,by cases x<;>rfl⟩
 ·rcases h with⟨rfl,_⟩ | ⟨o,c,rfl,_⟩<;>exact⟨_,rfl,rfl⟩
end
structure hA(P:Program)(k:FuncId)(ts aS:V)(sh:ts.aj->M aS.aj):Prop where
 enter:∀ args w,(callFunc k args).run P w=.ok (.enter k args) w
 ik:∀ (F:Nat->Prop) (w:World) (args:List Value) (x:ts.aj),(∀ r,F r->r<w.heap.size)->pa P F w->gv P ts F w args x->(sh x).e3->
  Calls P k args.toArray w λe w'=>∃ v y,e=.returned v/\(sh x).a_ y/\tL P aS (wT F w w') w' v y/\Below w.heap.size w w'
structure FF(P:Program)(k:FuncId)(ts aS:V)(sh:ts.aj->M aS.aj):Prop where
 ik:∀ (F:Nat->Prop) (w:World) (args:List Value) (x:ts.aj),(∀ r,F r->r<w.heap.size)->pa P F w->gv P ts F w args x->(sh x).e3->
  Calls P k args.toArray w λe w'=>∃ v y,e=.returned v/\(sh x).a_ y/\tL P aS (λr=>w.heap.size<=r/\r<w'.heap.size) w' v y/\Below w.heap.size w w'
def hW:List V->V
 | []=>.dc
 | [t]=>t
 | t::u::l=>.ar t (hW (u::l))
def JW:(as dB:List V)->(hW as).aj->(hW dB).aj->(hW (as++dB)).aj
 | [],_,_,y=>y
 | [_],[],x,_=>x
 | [_],_::_,x,y=>(x,y)
 | _::u::l,dB,x,y=>(x.1,JW (u::l) dB x.2 y)
theorem X4{P:Program}{F:Nat->Prop}{w:World}:∀ (as dB:List V),as.all V.hK=true->∀ {aG us:List Value} {x:(hW as).aj} {y:(hW dB).aj},gv P (hW as) F w aG x->gv P (hW dB) F w us y->gv P (hW (as++dB)) F w (aG++us) (JW as dB x y)
 | [],dB,_,aG,us,x,y,E,L=>by
  obtain rfl:=E.1;exact L
 | [t],[],_,aG,us,x,y,E,L=>by
  obtain rfl:=L.1;have e:=aPT aG;rw[e];exact E
 | [t],b::dB,h,aG,us,x,y,E,L=>by
  have aH:t.hK=true:=by grind
  obtain⟨v,rfl,af⟩:=(pb aH).1 E;exact zZ.2 ⟨af,L⟩
 | t::u::l,dB,h,aG,us,x,y,E,L=>by
  obtain⟨v,tM,rfl,an,a6⟩:=FE     E;have ah:(u::l).all V.hK=true:=by
   grind
  have:=X4 (u::l) dB ah a6 L;exact zZ.2 ⟨an,this⟩
structure amF where
 ts:V
 aS:V
 sh:ts.aj->M aS.aj
structure JX where
 as:List V
 cs:List V
 aS:V
 sh:(hW (as++cs.map .bO)).aj->M aS.aj
structure z1 where
 cs:List V
 aI:V
 S:(hW (cs.map .bO)).aj->List aI.aj->Prop
structure yd(P:Program)(k:FuncId)(v:z1):Prop where
 enter:∀ args w,(callFunc k args).run P w=.ok (.enter k args) w
 ik:∀ (F:Nat->Prop) (w:World) (dP:List Value) (x:(hW (v.cs.map .bO)).aj),(∀ r,F r->r<w.heap.size)->pa P F w->gv P (hW (v.cs.map .bO)) F w dP x->(∃ ab,v.S x ab)->
  ∀ (l:Nat) (I:List v.aI.aj->Bool->(Nat->Prop)->(Nat->Prop)->World->Prop) (Y:Nat->Prop),(∀ r,Y r->r<w.heap.size/\¬F r)->
   JT P (gv P v.aI) l (v.S x) I->I [] false F Y w->Calls P k (#[Value.func (.yield l) #[] #[]]++dP.toArray) w (X2 (v.S x) I F Y w)
def V.iI:V->V
 | .cM e=>.slice e
 | .ad t=>.ad t.iI
 | .ar a b=>.ar a.iI b.iI
 | .slice t=>.slice t.iI
 | t=>t
structure X5 where
 nX:V
 e:V
 aS:V
 pre:nX.iI.aj->Prop
 g:nX.iI.aj->aS.aj
 tN:Bool
structure dV where
 tO:Nat->Option amF
 tP:Nat->Option JX
 z6:Nat->Option z1:=λ_=>none
 z7:Nat->Option X5:=λ_=>none
structure qR(P:Program)(aQ:dV):Prop where
 tO:∀ k v,aQ.tO k=some v->hA P k v.ts v.aS v.sh
 tP:∀ k v,aQ.tP k=some v->v.as.all V.hK=true/\hA P k (hW (v.as++v.cs.map .bO)) v.aS v.sh
 z6:∀ k v,aQ.z6 k=some v->yd P k v:=by intro k v h;cases h
 z7:∀ k v,aQ.z7 k=some v->hA P k v.nX.iI v.aS (λx=>eE (v.pre x) (v.g x))/\(v.tN=true->FF P k v.nX.iI v.aS (λx=>eE (v.pre x) (v.g x))):=by intro k v h;cases h
theorem amG{k:FuncId}{ts aS:V}{sh:ts.aj->M aS.aj}(h:hA P k ts aS sh)(F:Nat->Prop)(w:World):cw P (.fn ts aS) F w [.func (.func k) #[] #[]] sh:=by
 refine⟨_,rfl,⟨rfl,rfl⟩,λF' w' _ _ az aD args x E L an=>⟨k,#[],rfl,h.enter,?_⟩⟩;have:=h.ik F' w' args x az aD ⟨E,L⟩ an;exact this.mono λe wU ⟨v,y,aE,bz,⟨aG,c_,bV,ey⟩,mq⟩=>⟨v,y,aG,aE,bz,c_,bV,ey,mq⟩
end Go.Fer
namespace Go.Fer
open Go.RowKit
inductive aL where
 | undef
 | val (t:V) (x:t.aj)
 | ks (b:Bool) (a:aL)
 | eX (b g off:Nat)
 | own (b g:Nat)
 | qS (b g i off:Nat)
 | eL (t:V) (x:t.aj)
 | hj (b g:Nat)
 | jh (k:FuncId) (n:Nat) (dP:Nat->aL)
 | u9 (k:FuncId) (n:Nat) (first:Nat->aL)
 | sF (n:Nat) (f:Nat->aL)
 | agg (n:Nat) (f:Nat->aL)
 | dW
 | k8 (v:Value)
 | l2 (b g:Nat)
 | aS (l:Nat) (aI:V) (S:List aI.aj->Prop) (pre:List aI.aj) (ad:Bool)
 | il (l:Nat)
 | sub (b g a7 G:Nat)
 | u_ (e:V) (xs:List e.aj)
 | ye (e:V) (id i:Nat)
 | z8 (b g:Nat)
 | hM (b g:Nat)
 | kM (b g i:Nat)
inductive b' where
 | ev
 | cells (t:V) (f:Nat->aL)
 | bn (e:V) (xs:List e.aj)
 | jz (e:V) (xs:List e.aj)
 | mp (k v:V) (es:List (k.aj×v.aj))
 | im (t:V) (x:t.aj)
 | k9 (k v:V) (es:List (k.aj×v.aj))
 | bR (e:V) (m:List (Nat×List e.aj))
 | cG (k v:V) (cur:Option (k.aj×v.aj)) (b8:List (k.aj×v.aj))
 | h6 (e:V) (xs:List e.aj) (i:Nat) (v:aL)
structure b9 where
 gen:Nat
 body:b'
structure bL where
 aa:Nat
 off:Nat
 cap:Nat
 fO:Bool
structure aB where
 aA:Nat->aL
 aa:Nat->b9
def b'.hk:b'->Bool | .cells _ _=>true | .im _ _=>true | _=>false
def b'.gO:b'->Bool | .bn _ _=>true | .jz _ _=>true | .h6 _ _ _ _=>true | _=>false
def b'.l3:b'->Bool | .bR _ _=>true | _=>false
def b'.iR:b'->Bool | .mp _ _ _=>true | .k9 _ _ _=>true | _=>false
def b'.qT:b'->Bool | .cG _ _ _ _=>true | _=>false
def b'.len:b'->Nat | .bn _ xs=>xs.length | .jz _ xs=>xs.length | .h6 _ xs _ _=>xs.length | _=>0
def b'.gP:b'->Nat | .bn e _=>e.size | .jz e _=>e.size | .h6 e _ _ _=>e.size | _=>0
def b'.ch(k:bL):b'->Bool | .cells _ _=>true | .bn _ _=>!k.fO | .mp _ _ _=>true | .cG _ _ _ _=>true | .h6 _ _ _ _=>!k.fO | _=>false
def bL.slice(k:bL)(n:Nat):Value:=if k.fO then .slice none 0 0 else .slice (some ⟨k.aa,k.off,none⟩) n k.cap
def JY(k:bL)(gP a7 G:Nat)(v:Value):Prop:=
 (k.fO=true/\v=.slice none 0 0)\/(k.fO=false/\∃ o,v=.slice (some ⟨k.aa,o,none⟩) (G - a7) (k.cap - a7)/\o<=k.off+a7*gP/\(a7<k.cap->o=k.off+a7*gP))
def bM(P:Program)(H:Nat->b9)(kap:Nat->bL)(F:Nat->Prop)(w:World):aL->Value->Prop
 | .undef,_=>True
 | .val t x,v=>fr P t F w v x
 | .ks b a,v=>(b=true->bM P H kap F w a v)/\(b=false->v=Go.undef)
 | .eX b g off,v=>(g<=(H b).gen/\v.oneCell'=true)/\(g=(H b).gen->(H b).body.hk=true->v=.pointer (some ⟨(kap b).aa,off,none⟩))
 | .own b g,v=>(g<=(H b).gen/\v.oneCell'=true)/\(g=(H b).gen->(H b).body.gO=true->v=(kap b).slice (H b).body.len)
 | .qS b g i off,v=>(g<=(H b).gen/\v.oneCell'=true)/\(g=(H b).gen->(H b).body.gO=true->i<(H b).body.len/\(kap b).fO=false/\v=.pointer (some ⟨(kap b).aa,(kap b).off+i*(H b).body.gP+off,none⟩))
 | .kM b g i,v=>(g<=(H b).gen/\v.oneCell'=true)/\(g=(H b).gen->(H b).body.gO=true->i<(H b).body.len/\(kap b).fO=false/\v=.pointer (some ⟨(kap b).aa,(kap b).off+i*(H b).body.gP,none⟩))
 | .eL t x,v=>∃ p bC,v=.pointer (some p)/\Holds F w p bC/\cw P t F w bC x
 | .hj b g,v=>(g<=(H b).gen/\v.oneCell'=true)/\(g=(H b).gen->(H b).body.iR=true->v=.map (some (kap b).aa))
 | .jh k n dP,v=>∃ aG:List Value,v=.func (.func k) #[] aG.toArray/\aG.length=n/\∀ i,i<n->bM P H kap F w (dP i) (aG.getD i Go.undef)
 | .u9 k n f,v=>∃ aG:List Value,v=.func (.func k) aG.toArray #[]/\aG.length=n/\∀ i,i<n->bM P H kap F w (f i) (aG.getD i Go.undef)
 | .sF n f,v=>∃ aG:List Value,v=.tuple aG.toArray/\aG.length=n/\∀ i,i<n->bM P H kap F w (f i) (aG.getD i Go.undef)
 | .agg n f,v=>∃ aG:List Value,v=.agg aG.toArray/\aG.length=n/\∀ i,i<n->bM P H kap F w (f i) (aG.getD i Go.undef)/\(aG.getD i Go.undef).oneCell'=true
 | .dW,v=>v=.slice none 0 0
 | .k8 u,v=>v=u
 | .l2 b g,v=>(g<=(H b).gen/\v.oneCell'=true)/\(g=(H b).gen->(H b).body.qT=true->v=.pointer (some ⟨(kap b).aa,0,none⟩))
 | .aS _ _ _ _ _,_=>True
 | .il l,v=>v=.func (.yield l) #[] #[]
 | .u_ e xs,v=>fr P (.slice e) F w v xs/\∃ q,v=.slice q xs.length xs.length
 | .ye e id i,v=>v=.pointer (some ⟨id,i*e.size,none⟩)
 | .z8 b g,v=>(g<=(H b).gen/\∃ p,v=.pointer p)/\(g=(H b).gen->(H b).body.gO=true->0<(H b).body.len->v=.pointer (some ⟨(kap b).aa,(kap b).off,none⟩))
 | .hM b g,v=>(g<=(H b).gen/\v.oneCell'=true)/\(g=(H b).gen->(H b).body.hk=true->v=.pointer none\/v=.pointer (some ⟨(kap b).aa,0,none⟩))
 | .sub b g a7 G,v=>(g<=(H b).gen/\v.oneCell'=true)/\(g=(H b).gen->(H b).body.gO=true->(a7<=G/\G<=(H b).body.len)/\JY (kap b) (H b).body.gP a7 G v)
def fI(H:Nat->b9)(kap:Nat->bL)(H':Nat->b9)(bT:Nat->bL):Prop:=
 ∀ b,(H b).gen<=(H' b).gen/\((H b).gen=(H' b).gen->
  ((H' b).body.hk=true->(H b).body.hk=true/\(bT b).aa=(kap b).aa)/\
  ((H' b).body.gO=true->(H b).body.gO=true/\bT b=kap b/\(H' b).body.len=(H b).body.len/\(H' b).body.gP=(H b).body.gP)/\
  ((H' b).body.iR=true->(H b).body.iR=true/\(bT b).aa=(kap b).aa)/\
  ((H' b).body.qT=true->(H b).body.qT=true/\(bT b).aa=(kap b).aa))
theorem fI.refl(H:Nat->b9)(kap:Nat->bL):fI H kap H kap:=λ_=>⟨amn _,λ_=>⟨λh=>⟨h,rfl⟩,λh=>⟨h,rfl,rfl,rfl⟩,λh=>⟨h,rfl⟩,λh=>⟨h,rfl⟩⟩⟩
def tQ(x y:b9)(k k':bL):Prop:=
 x.gen<=y.gen/\(x.gen=y.gen->
  (y.body.hk=true->x.body.hk=true/\k'.aa=k.aa)/\
  (y.body.gO=true->x.body.gO=true/\k'=k/\y.body.len=x.body.len/\y.body.gP=x.body.gP)/\
  (y.body.iR=true->x.body.iR=true/\k'.aa=k.aa)/\
  (y.body.qT=true->x.body.qT=true/\k'.aa=k.aa))
theorem tQ.refl(x:b9)(k:bL):tQ x x k k:=⟨amn _,λ_=>⟨λh=>⟨h,rfl⟩,λh=>⟨h,rfl,rfl,rfl⟩,λh=>⟨h,rfl⟩,λh=>⟨h,rfl⟩⟩⟩
variable {H:Nat->b9}{kap:Nat->bL}{H':Nat->b9}{bT:Nat->bL}
theorem X6:fI H kap H' bT<->∀ b,tQ (H b) (H' b) (kap b) (bT b):=Iff.rfl
variable {P:Program}{F:Nat->Prop}{F':Nat->Prop}{w:World}{w':World}
theorem bM.later(ah:fI H kap H' bT)(bp:∀ r,F r->F' r)(he:di F w w') :
  ∀ {a:aL} {v:Value},bM P H kap F w a v->bM P H' bT F' w' a v:=by
 intro a;induction a with
 | undef=>intro v h;trivial
 | val t x=>intro v h;exact fr.mono h bp he
 | ks b a aP=>intro v h;exact⟨λU=>aP (h.1 U),h.2⟩
 | eX b g off=>
  intro v h;obtain⟨E,L⟩:=h;obtain⟨aM,aT⟩:=ah b;refine⟨⟨aPL E.1 aM,E.2⟩,λaD hc=>?_⟩;grind
 | own b g=>
  intro v h;obtain⟨E,L⟩:=h;obtain⟨aM,aT⟩:=ah b;refine⟨⟨aPL E.1 aM,E.2⟩,λaD hc=>?_⟩;grind
 | qS b g i off=>
  intro v h;obtain⟨E,L⟩:=h;obtain⟨aM,aT⟩:=ah b;refine⟨⟨aPL E.1 aM,E.2⟩,λaD hc=>?_⟩;grind
 | kM b g i=>
  intro v h;obtain⟨E,L⟩:=h;obtain⟨aM,aT⟩:=ah b;refine⟨⟨aPL E.1 aM,E.2⟩,λaD hc=>?_⟩;grind
 | eL t x=>
  intro v h;obtain⟨p,bC,E,L,an⟩:=h;exact⟨p,bC,E,L.mono bp he,fH t bp he an⟩
 | hj b g=>
  intro v h;obtain⟨E,L⟩:=h;obtain⟨aM,aT⟩:=ah b;refine⟨⟨aPL E.1 aM,E.2⟩,λaD hc=>?_⟩;grind
 | l2 b g=>
  intro v h;obtain⟨E,L⟩:=h;obtain⟨aM,aT⟩:=ah b;refine⟨⟨aPL E.1 aM,E.2⟩,λaD hc=>?_⟩;grind
 | sub b g a7 G=>
  intro v h;obtain⟨E,L⟩:=h;obtain⟨aM,aT⟩:=ah b;refine⟨⟨aPL E.1 aM,E.2⟩,λaD hc=>?_⟩;grind
 | aS l aI ab n ad=>intro v _;trivial
 | il l=>intro v h;exact h
 | u_ e xs=>intro v h;exact⟨fr.mono h.1 bp he,h.2⟩
 | ye e id i=>intro v h;exact h
 | z8 b g=>
  intro v h;obtain⟨E,L⟩:=h;obtain⟨aM,aT⟩:=ah b;refine⟨⟨aPL E.1 aM,E.2⟩,λaD hc aC=>?_⟩;grind
 | hM b g=>
  intro v h;obtain⟨E,L⟩:=h;obtain⟨aM,aT⟩:=ah b;refine⟨⟨aPL E.1 aM,E.2⟩,λaD hc=>?_⟩;grind
 | jh k n dP aP=>
  intro v h;obtain⟨aG,E,L,an⟩:=h;exact⟨aG,E,L,λi G=>aP i (an i G)⟩
 | u9 k n f aP=>
  intro v h;obtain⟨aG,E,L,an⟩:=h;exact⟨aG,E,L,λi G=>aP i (an i G)⟩
 | sF n f aP=>
  intro v h;obtain⟨aG,E,L,an⟩:=h;exact⟨aG,E,L,λi G=>aP i (an i G)⟩
 | agg n f aP=>
  intro v h;obtain⟨aG,E,L,an⟩:=h;exact⟨aG,E,L,λi G=>⟨aP i (an i G).1,(an i G).2⟩⟩
 | dW=>intro v h;exact h
 | k8 u=>intro v h;exact h
def yf(P:Program)(k v:V)(F:Nat->Prop)(w:World)(es:Array MapEntry)(clk:Nat)(xs:List (k.aj×v.aj)):Prop:=
 es.size=xs.length/\(xs.map (·.1)).Nodup/\
 (∀ i (h:i<xs.length) (e0:i<es.size),l1 k es[i].key/\cw P k F w es[i].key.cells.toList xs[i].1/\l1 v es[i].val/\cw P v F w es[i].val.cells.toList xs[i].2/\es[i].born<clk)/\
 (∀ i j (h:i<es.size) (e0:j<es.size),es[i].born=es[j].born->i=j)
theorem yf.mono{k v:V}{es:Array MapEntry}{clk:Nat}{xs:List (k.aj×v.aj)}(h:yf P k v F w es clk xs)(bp:∀ r,F r->F' r)(he:di F w w') :
  yf P k v F' w' es clk xs:=
 ⟨h.1,h.2.1,λi G d_=>let ⟨a,b,c,d,e⟩:=h.2.2.1 i G d_;⟨a,fH k bp he b,c,fH v bp he d,e⟩,h.2.2.2⟩
def ns(P:Program)(e:V)(F:Nat->Prop)(w:World)(cs:Array Value)(off:Nat)(xs:List e.aj):Prop:=
 ∀ i (h:i<xs.length),∃ bC,(∀ j (h:j<bC.length),cs[off+i*e.size+j]?=some bC[j])/\cw P e F w bC xs[i]
theorem ns.mono{e:V}{cs:Array Value}{off:Nat}{xs:List e.aj}(h:ns P e F w cs off xs)(bp:∀ r,F r->F' r)(he:di F w w') :
  ns P e F' w' cs off xs:=λi G=>let ⟨bC,a,b⟩:=h i G;⟨bC,a,fH e bp he b⟩
def CE(P:Program)(k v:V)(F:Nat->Prop)(w:World)(e:MapEntry)(x:k.aj×v.aj):Prop:=
 l1 k e.key/\cw P k F w e.key.cells.toList x.1/\l1 v e.val/\cw P v F w e.val.cells.toList x.2
theorem CE.mono{k v:V}{e:MapEntry}{x:k.aj×v.aj}(h:CE P k v F w e x)(bp:∀ r,F r->F' r)(he:di F w w'):CE P k v F' w' e x:=
 ⟨h.1,fH k bp he h.2.1,h.2.2.1,fH v bp he h.2.2.2⟩
def z_(P:Program)(k v:V)(F:Nat->Prop)(w:World)(rF:Nat)(cur:Option (k.aj×v.aj))(b8:List (k.aj×v.aj)):Prop:=
 (w.heap[rF]?=some (.mapIter none 0 #[] 0)/\b8=[]/\cur=none)\/
 ∃ oC es clk hl,F oC/\w.heap[oC]?=some (.map es clk)/\w.heap[rF]?=some (.mapIter (some oC) clk hl clk)/\
  (∀ i (h:i<es.size),es[i].born<clk)/\(∀ i j (h:i<es.size) (e0:j<es.size),es[i].born=es[j].born->i=j)/\
  (∃ ids:List Nat,ids.length=b8.length/\ids.Nodup/\(∀ i,i∈ids<->∃ h:i<es.size,hl.contains es[i].born=false)/\
   (∀ j (h:j<ids.length) (e0:j<b8.length),∃ G:ids[j]<es.size,CE P k v F w es[ids[j]] b8[j]))/\
  (∀ c,cur=some c->∃ i,∃ h:i<es.size,hl.back?=some es[i].born/\CE P k v F w es[i] c)
theorem z_.mono{P:Program}{k v:V}{F F':Nat->Prop}{w w':World}{rF:Nat}{cur:Option (k.aj×v.aj)}{b8:List (k.aj×v.aj)}(h:z_ P k v F w rF cur b8)(bp:∀ r,F r->F' r)(he:di F w w')
  (G:w'.heap[rF]?=w.heap[rF]?):z_ P k v F' w' rF cur b8:=by
 rcases h with⟨E,L⟩ | ⟨oC,es,clk,hl,E,L,an,a6,bS,⟨ids,i1,i2,i3,i4⟩,iQ⟩
 ·exact .inl ⟨G.trans E,L⟩
 ·exact .inr ⟨oC,es,clk,hl,bp _ E,(he.2 _ E).trans L,G.trans an,a6,bS,⟨ids,i1,i2,i3,λj aK gQ=>let ⟨a,b⟩:=i4 j aK gQ;⟨a,b.mono bp he⟩⟩,λc hc=>let ⟨i,a,b,d⟩:=iQ c hc;⟨i,a,b,d.mono bp he⟩⟩
def wV(P:Program)(e:V)(T:TypeId):Prop:=∀ k,e=.int k->P.underlying T=some (.int k)/\P.cellsOf T=1
def PC(P:Program)(t:V)(T:TypeId):Prop:=∀ n s,t=.ad (.ar (.bO (.array n .dc)) s)->P.underlying n=some (.pointer T)
def mr(P:Program)(H:Nat->b9)(kap:Nat->bL)(F:Nat->Prop)(w:World)(k:bL):b'->Prop
 | .ev=>True
 | .cells t f=>∃ cs T,w.heap[k.aa]?=some (.cells cs T (0,0))/\(cs.size=t.size/\PC P t T)/\∀ i,i<t.size->bM P H kap F w (f i) (cs.getD i Go.undef)/\(cs.getD i Go.undef).oneCell'=true
 | .bn e xs=>(k.fO=true->xs=[])/\(k.fO=false->∃ cs T,w.heap[k.aa]?=some (.cells cs T (0,0))/\k.off+k.cap*e.size<=cs.size/\xs.length<=k.cap/\(k.cap<2 ^ 63/\wV P e T)/\ns P e F w cs k.off xs)
 | .jz e xs=>cw P (.slice e) F w [k.slice xs.length] xs
 | .mp oD rG es=>∃ ms clk,w.heap[k.aa]?=some (.map ms clk)/\yf P oD rG F w ms clk es
 | .im t x=>∃ bC,Holds F w ⟨k.aa,0,none⟩ bC/\cw P t F w bC x
 | .k9 oD rG es=>cw P (.map oD rG) F w [.map (some k.aa)] es
 | .cG oD rG cur b8=>z_ P oD rG F w k.aa cur b8
 | .bR _ _=>True
 | .h6 e xs i v=>k.fO=false/\∃ cs T,w.heap[k.aa]?=some (.cells cs T (0,0))/\k.off+k.cap*e.size<=cs.size/\xs.length<=k.cap/\(k.cap<2 ^ 63/\wV P e T)/\(e.size=1/\i<xs.length)/\
   (∀ j (h:j<xs.length),j≠i->∃ bC,(∀ q (h:q<bC.length),cs[k.off+j*e.size+q]?=some bC[q])/\cw P e F w bC xs[j])/\bM P H kap F w v (cs.getD (k.off+i) Go.undef)/\(cs.getD (k.off+i) Go.undef).oneCell'=true
def c6(P:Program)(H:Nat->b9)(kap:Nat->bL)(F:Nat->Prop)(w:World)(b:Nat):Prop:=mr P H kap F w (kap b) (H b).body
variable {b:Nat}
theorem c6.k_(h:c6 P H kap F w b)(ah:fI H kap H' bT)(bp:∀ r,F r->F' r)(he:di F w w')
  (U:(H' b).body=(H b).body) (ak:bT b=kap b) (hw:(H b).body.ch (kap b)=true->w'.heap[(kap b).aa]?=w.heap[(kap b).aa]?):c6 P H' bT F' w' b:=by
 unfold c6 at *
 rw[U,ak];cases cm:(H b).body with
 | ev=>trivial
 | cells n f=>
  rw[cm]at h hw;obtain⟨cs,T,E,L,an⟩:=h;exact⟨cs,T,(hw rfl).trans E,L,λi G=>⟨bM.later ah bp he (an i G).1,(an i G).2⟩⟩
 | bn e xs=>
  rw[cm]at h hw;refine⟨h.1,λaC=>?_⟩;obtain⟨cs,T,E,L,an,a6,bS⟩:=h.2 aC;exact⟨cs,T,(hw (by grind [b'.ch])).trans E,L,an,a6,bS.mono bp he⟩
 | jz e xs=>
  rw[cm]at h;exact fH _ bp he h
 | mp oD rG es=>
  rw[cm]at h hw;obtain⟨ms,clk,E,L⟩:=h;exact⟨ms,clk,(hw rfl).trans E,L.mono bp he⟩
 | im t x=>
  rw[cm]at h;obtain⟨bC,E,L⟩:=h;exact⟨bC,E.mono bp he,fH t bp he L⟩
 | k9 oD rG es=>
  rw[cm]at h;exact fH (.map oD rG) bp he h
 | cG oD rG cur b8=>
  rw[cm]at h hw;exact z_.mono h bp he (hw rfl)
 | bR e m=>trivial
 | h6 e xs i v=>
  rw[cm]at h hw;obtain⟨aW,cs,T,E,L,an,a6,bS,ek,iQ,k6⟩:=h;refine⟨aW,cs,T,(hw (by grind [b'.ch])).trans E,L,an,a6,bS,λj aK wW=>?_,bM.later ah bp he iQ,k6⟩;obtain⟨bC,d1,d2⟩:=ek j aK wW;exact⟨bC,d1,fH e bp he d2⟩
structure dL(w w':World):Prop where
 os:w'.os=w.os
 tape:w'.tape=w.tape
 output:w'.output=w.output
theorem dL.refl(w:World):dL w w:=⟨rfl,rfl,rfl⟩
theorem dL.trans{a b c:World}(h:dL a b)(k:dL b c):dL a c:=⟨k.os.trans h.os,k.tape.trans h.tape,k.output.trans h.output⟩
structure nY where
 l:Nat
 aI:V
 S:List aI.aj->Prop
 I:List aI.aj->Bool->(Nat->Prop)->(Nat->Prop)->World->Prop
structure nY.jZ(P:Program)(p:nY):Prop where
 FD:∀ {pre ad} {F F' Y:Nat->Prop} {w w':World},p.I pre ad F Y w->(∀ r,F r->F' r)->(∀ r,F r\/Y r->w'.heap[r]?=w.heap[r]?)->w.heap.size<=w'.heap.size->dL w w'->(∀ r,F' r->r<w'.heap.size)->(∀ r,F' r->¬Y r)->p.I pre ad F' Y w'
 yield:∀ {pre} {F Y:Nat->Prop} {w:World} {args:List Value} {x:p.aI.aj},p.I pre false F Y w->(∀ r,F r->r<w.heap.size)->(∀ r,Y r->r<w.heap.size/\¬F r)->(∃ T,p.S (pre++x::T))->gv P p.aI F w args x->
  YieldAt Fence.wide 0 P p.l args.toArray w λe w'=>∃ (b:Bool) (F' jg:Nat->Prop),e=.returned (.bool b)/\(∀ r,F r->F' r)/\(∀ r,F' r->F r\/Y r\/w.heap.size<=r)/\(∀ r,F' r->r<w'.heap.size)/\
   (∀ r,r<w.heap.size->¬Y r->w'.heap[r]?=w.heap[r]?)/\(∀ r,jg r->(Y r\/w.heap.size<=r)/\r<w'.heap.size/\¬F' r)/\w.heap.size<=w'.heap.size/\dL w w'/\p.I (pre++[x]) (!b) F' jg w'
def nY.at(p:nY)(aI:V)(pre:List aI.aj)(ad:Bool)(F Y:Nat->Prop)(w:World):Prop:=∃ h:aI=p.aI,p.I (h ▸ pre) ad F Y w
theorem nY.CF{l:Nat}{aI:V}{S:List aI.aj->Prop}{I}{pre:List aI.aj}{ad:Bool}{Y:Nat->Prop}:(nY.mk l aI S I).at aI pre ad F Y w<->I pre ad F Y w:=⟨λ⟨_,h⟩=>h,λh=>⟨rfl,h⟩⟩
theorem nY.jZ.JZ{p:nY}(h:p.jZ P){aI:V}{pre:List aI.aj}{ad}{Y:Nat->Prop}:p.at aI pre ad F Y w->(∀ r,F r->F' r)->(∀ r,F r\/Y r->w'.heap[r]?=w.heap[r]?)->w.heap.size<=w'.heap.size->dL w w'->(∀ r,F' r->r<w'.heap.size)->(∀ r,F' r->¬Y r)->p.at aI pre ad F' Y w':=
 λ⟨e,E⟩ L an a6 bS ek iQ=>⟨e,h.FD E L an a6 bS ek iQ⟩
def cd:Nat:=1000000
def fz:Nat:=100000
def z':Nat:=200000
structure cH where
 P:Program
 ep:World
 jA:Nat->Prop
 K0:Nat->Prop
 bZ:Nat
 r:Option Nat
 dj:List Deferred
 j':Nat->Option Nat
 cI:nY
 aX:dV
 PD:Nat->Option (bL×Nat):=λ_=>none
def amH(C:cH)(s:aB)(w:World)(kap:Nat->bL)(F:Nat->Prop):Prop:=
 ∀ l aI ab n ad,s.aA cd=.aS l aI ab n ad->(∃ I,C.cI=⟨l,aI,ab,I⟩)/\C.cI.jZ C.P/\
  ∃ Y:Nat->Prop,(∀ r,Y r->r<w.heap.size/\¬F r/\¬C.K0 r)/\(∀ b,(s.aa b).body.ch (kap b)=true->¬Y (kap b).aa)/\C.cI.at aI n ad F Y w
def cF:Nat:=140000
def Aa(P:Program)(e:V)(F:Nat->Prop)(w:World)(id:Nat)(xs:List e.aj):Prop:=
 ∃ cs T a7 G,w.heap[id]?=some (.cells cs T (a7,G))/\xs.length*e.size<=cs.size/\(G<=a7\/xs.length*e.size<=a7)/\ns P e F w cs 0 xs
theorem Aa.mono{P:Program}{e:V}{F F':Nat->Prop}{w w':World}{id:Nat}{xs:List e.aj}(h:Aa P e F w id xs)(bp:∀ r,F r->F' r)(he:di F w w')(G:w'.heap[id]?=w.heap[id]?):Aa P e F' w' id xs:=by
 obtain⟨cs,T,a7,d_,E,L,an,a6⟩:=h;exact⟨cs,T,a7,d_,G.trans E,L,an,a6.mono bp he⟩
def wX(C:cH)(s:aB)(w:World)(kap:Nat->bL)(F:Nat->Prop):Prop:=
 ∀ e m,(s.aa cF).body=.bR e m->(m.map (·.1)).Nodup/\
  ∀ id xs,(id,xs)∈m->(∀ l aI ab n ad,s.aA cd≠.aS l aI ab n ad)/\id<w.heap.size/\¬F id/\¬C.K0 id/\(∀ b,(s.aa b).body.ch (kap b)=true->(kap b).aa≠id)/\Aa C.P e F w id xs
variable {s:aB}
theorem wX.b1{C:cH}{s':aB}(h:wX C s w kap F)(U:s'.aa=s.aa)(aH:∀ l aI ab n ad,s'.aA cd=.aS l aI ab n ad->s.aA cd=.aS l aI ab n ad):wX C s' w kap F:=by
 intro e m hm;rw[U]at hm;obtain⟨E,L⟩:=h e m hm;grind
def la(H:Nat->b9)(r:Nat):Prop:=∃ (e:V) (m:List (Nat×List e.aj)) (xs:List e.aj),(H cF).body=.bR e m/\(r,xs)∈m
theorem wX.nZ{C:cH}(h:wX C s w kap F){r:Nat}(D:la s.aa r):(∀ l aI ab n ad,s.aA cd≠.aS l aI ab n ad)/\r<w.heap.size/\¬F r/\¬C.K0 r/\∀ b,(s.aa b).body.ch (kap b)=true->(kap b).aa≠r:=by
 obtain⟨e,m,xs,E,L⟩:=D;obtain⟨_,an⟩:=h e m E;grind
def yg(H H':Nat->b9):Prop:=∀ e m,(H' cF).body=.bR e m->(H cF).body=.bR e m
theorem yg.refl(H:Nat->b9):yg H H:=λ_ _ h=>h
variable {x:b9}
theorem J0(h:x.body.l3=false):yg H (λi=>if i=b then x else H i):=λe m hm=>by
 by_cases k:cF=b
 ·simp  [if_pos k]at hm;rw[hm]at h;cases h
 grind
structure bu(C:cH)(s:aB)(a:Act)(w:World)(kap:Nat->bL)(F:Nat->Prop):Prop where
 dX:a.tmps.size=C.bZ
 dj:a.defers=C.dj
 b1:∀ i,bM C.P s.aa kap F w (s.aA i) (a.tmps.getD i Go.undef)
 bF:∀ b,c6 C.P s.aa kap F w b
 own:∀ b,(s.aa b).body.ch (kap b)=true->(kap b).aa<w.heap.size/\¬F (kap b).aa/\¬C.K0 (kap b).aa
 inj:∀ b bj,(s.aa b).body.ch (kap b)=true->(s.aa bj).body.ch (kap bj)=true->(kap b).aa=(kap bj).aa->b=bj
 ds:∀ r,F r->r<w.heap.size
 hN:∀ r,F r->C.jA r\/¬C.K0 r
 iq:∀ r,C.jA r->F r
 ir:∀ r,C.K0 r->r<C.ep.heap.size
 e5:∀ r,C.K0 r->w.heap[r]?=C.ep.heap[r]?
 size:C.ep.heap.size<=w.heap.size
 eN:dL C.ep w
 hB:C.bZ<=fz
 lb:∀ b r,C.j' b=some r->fz<=b
 iS:∀ b r,C.j' b=some r->(s.aa b).body.hk=true\/(s.aa b).body.iR=true->(kap b).aa=r
 ld:∀ b k,C.PD b=some k->z'<=b
 jB:∀ b k,C.PD b=some k->(s.aa b).gen=0->(s.aa b).body.gO=true->kap b=k.1/\(s.aa b).body.len=k.2
 e7:amH C s w kap F
 bR:wX C s w kap F
 j1:qR C.P C.aX
 hX:pa C.P F w
def dd(C:cH)(s:aB)(a:Act)(w:World):Prop:=∃ kap F,bu C s a w kap F
def aB.set(s:aB)(d:Option Nat)(v:aL):aB:=
 match d with
 | none=>s
 | some d=>{ s with aA:=λi=>if i=d then v else s.aA i }
def aB.ct(s:aB)(b:Nat)(x:b9):aB:={ s with aa:=λi=>if i=b then x else s.aa i }
variable {a:Act}
theorem amI{d:Nat}{v:Value}(ax:d<a.tmps.size)(i:Nat):(a.put (some d) v).tmps.getD i Go.undef=if i=d then v else a.tmps.getD i Go.undef:=by
 simp  [Act.put];grind
theorem bu.set{C:cH}{s:aB}{a:Act}{w:World}{kap:Nat->bL}{F:Nat->Prop}(h:bu C s a w kap F){d:Option Nat}(ax:∀ i,d=some i->i<C.bZ){av:aL}{v:Value}
  (af:bM C.P s.aa kap F w av v):bu C (s.set d av) (a.put d v) w kap F:=by
 cases d with
 | none=>exact h
 | some d=>
  have J1:=ax d rfl;have aC:=h.hB;refine { h with dX:=by simpa [Act.put]using h.dX,dj:=h.dj,b1:=λi=>?_,e7:=λl aI ab n ad e=>?_,bR:=λe m hm=>⟨(h.bR e m hm).1,λid xs al=>⟨λl aI ab n ad=>?_,((h.bR e m hm).2 id xs al).2⟩⟩ }
  ·rw[amI (by rw[h.dX];omega)];simp only[aB.set];by_cases G:i=d
   ·grind
   ·rw[if_neg G,if_neg G];exact h.b1 i
  ·simp  [aB.set]at e;rw[if_neg (by grind [cd,fz])]at e;exact h.e7 l aI ab n ad e
  ·simp  [aB.set];rw[if_neg (by grind [cd,fz])];exact ((h.bR e m hm).2 id xs al).1 l aI ab n ad
theorem bu.move{C:cH}(h:bu C s a w kap F)
  (ah:fI s.aa kap H' bT) (bp:∀ r,F r->F' r) (yc:∀ r,F' r->F r\/(∃ b,(s.aa b).body.ch (kap b)=true/\(kap b).aa=r)\/w.heap.size<=r)
  (cN:w.heap.size<=w'.heap.size) (hw:∀ r,r<w.heap.size->(∀ b,(s.aa b).body.ch (kap b)=true->(kap b).aa≠r)->w'.heap[r]?=w.heap[r]?) (hc:dL w w')
  (U:di F w w'->∀ b,c6 C.P H' bT F' w' b)
  (au:∀ b,(H' b).body.ch (bT b)=true->(bT b).aa<w'.heap.size/\¬F' (bT b).aa/\((∃ b0,(s.aa b0).body.ch (kap b0)=true/\(kap b0).aa=(bT b).aa)\/w.heap.size<=(bT b).aa))
  (G:∀ b bj,(H' b).body.ch (bT b)=true->(H' bj).body.ch (bT bj)=true->(bT b).aa=(bT bj).aa->b=bj)
  (az:∀ r,F' r->r<w'.heap.size)
  (amJ:∀ b,fz<=b->(H' b).body.hk=true\/(H' b).body.iR=true->bT b=kap b/\((s.aa b).body.hk=true\/(s.aa b).body.iR=true)) (u':yg s.aa H':=by first | exact yg.refl _ | exact J0 rfl):bu C ⟨s.aA,H'⟩ a w' bT F':=by
 have amK:∀ r,C.K0 r->(∀ b,(s.aa b).body.ch (kap b)=true->(kap b).aa≠r):=λr D b U e=>(h.own b U).2.2 (e ▸ D);have ak:=λr D=>hw r (aPG (h.ir r D) h.size) (amK r D);have he:di F w w':=⟨cN,λr D=>hw r (h.ds r D) λb U e=>(h.own b U).2.1 (e ▸ D)⟩
 refine { dX:=h.dX,dj:=h.dj,b1:=λi=>bM.later ah bp he (h.b1 i),bF:=U he,own:=λb U=>?_,inj:=G,ds:=az,hN:=λr D=>?_,iq:=λr D=>bp r (h.iq r D),ir:=h.ir,e5:=λr D=>(ak r D).trans (h.e5 r D),size:=aPL h.size cN,eN:=h.eN.trans hc,hB:=h.hB,lb:=h.lb,iS:=λb r D hc=>?_,ld:=h.ld,jB:=λb k ak aW aY=>?_,e7:=λl aI ab n ad e=>?_,bR:=λe m hm=>?_,j1:=h.j1,hX:=h.hX.mono bp he }
 ·grind
 ·rcases yc r D with E | ⟨b,E,rfl⟩ | E
  ·exact h.hN r E
  ·grind
  grind
 ·obtain⟨aM,aT⟩:=amJ b (h.lb b r D) hc;rw[aM];exact h.iS b r D aT
 ·obtain⟨dt,ei⟩:=ah b;have aW:(H' b).gen=0:=aW;obtain⟨cr,b4,eh,_⟩:=(ei (by omega)).2.1 aY;obtain⟨aM,aT⟩:=h.jB b k ak (by omega) cr;grind
 ·obtain⟨E,L,Y,an,a6,bS⟩:=h.e7 l aI ab n ad e;have FG:∀ r,Y r->¬F' r:=λr D ay=>by
   grind
  refine⟨E,L,Y,λr D=>⟨aPG (an r D).1 cN,FG r D,(an r D).2.2⟩,λb U ba=>?_,L.JZ bS bp (λr D=>?_) cN hc az λr ay ba=>FG r ba ay⟩
  ·grind
  ·rcases D with D | D
   ·exact he.2 r D
   grind
 ·obtain⟨fs,mu⟩:=h.bR e m (u' e m hm);refine⟨fs,λid xs al=>?_⟩;obtain⟨nt,cU,cO,hO,lE,cv⟩:=mu id xs al;refine⟨nt,aPG cU cN,λay=>?_,hO,λb U e=>?_,cv.mono bp he (hw id cU lE)⟩<;>grind
theorem rH(w:World)(o:Obj){r:Nat}(h:r<w.heap.size):(w.alloc o).heap[r]?=w.heap[r]?:=Below.heap_alloc w o r h
theorem tR(w:World)(o:Obj):(w.alloc o).heap[w.heap.size]?=some o:=by
 show (w.heap.push o)[w.heap.size]?=_;simp
theorem di.alloc{F:Nat->Prop}{w:World}(az:∀ r,F r->r<w.heap.size)(o:Obj):di F w (w.alloc o):=
 ⟨by simp,λr D=>rH w o (az r D)⟩
theorem CG(aD:(H b).gen<x.gen)(J2:∀ bj,bj≠b->bT bj=kap bj) :
  fI H kap (λi=>if i=b then x else H i) bT:=by
 intro i;by_cases G:i=b
 ·subst G;simp;exact⟨by omega,λh=>by omega⟩
 grind [tQ.refl]
theorem CH(U:b<fz\/(x.body.hk=false/\x.body.iR=false))(J2:∀ bj,bj≠b->bT bj=kap bj) :
  ∀ i,fz<=i->(if i=b then x else H i).body.hk=true\/(if i=b then x else H i).body.iR=true->bT i=kap i/\((H i).body.hk=true\/(H i).body.iR=true):=by
 grind
theorem bu.alloc{C:cH}{s:aB}{a:Act}{w:World}{kap:Nat->bL}{F:Nat->Prop}(h:bu C s a w kap F){b:Nat}{x:b9}(FH:b<fz)(aD:(s.aa b).gen<x.gen)
  {o:Obj} {k:bL} (ak:k.aa=w.heap.size)
  (al:∀ (H:Nat->b9) (bT:Nat->bL),H=(λi=>if i=b then x else s.aa i)->bT=(λi=>if i=b then k else kap i)->fI s.aa kap H bT->mr C.P H bT F (w.alloc o) k x.body) (J3:x.body.l3=false:=by rfl) :
  bu C (s.ct b x) a (w.alloc o) (λi=>if i=b then k else kap i) F:=by
 have ah:fI s.aa kap (λi=>if i=b then x else s.aa i) (λi=>if i=b then k else kap i):=CG aD λbj ef=>by grind
 refine h.move   ah (λ_ D=>D) (λ_ D=>.inl D) (by simp) (λr D _=>rH w o D) ⟨rfl,rfl,rfl⟩ (λhe=>?_) ?_ ?_ ?_ (CH (.inl FH) λbj ef=>by grind) (J0 J3)
 ·intro i;by_cases G:i=b
  ·grind [c6]
  ·refine c6.k_ (h.bF i) ah (λ_ D=>D) he (by grind) (by grind) λau=>?_;exact rH w o (h.own i au).1
 ·intro i G;by_cases bD:i=b
  ·subst bD;simp  at G ⊢;refine⟨by omega,λay=>?_,.inr (by omega)⟩;have:=h.ds _ ay;omega
  ·simp only[if_neg bD]at G ⊢;have:=h.own i G;exact⟨by simp;omega,this.2.1,.inl ⟨i,G,rfl⟩⟩
 ·intro i j G aK e;by_cases bD:i=b<;>by_cases pc:j=b
  ·omega
  ·simp  [if_pos bD,if_neg pc]at G aK e;have:=(h.own j aK).1;omega
  ·simp  [if_neg bD,if_pos pc]at G aK e;have:=(h.own i G).1;omega
  ·simp  [if_neg bD,if_neg pc]at G aK e;exact h.inj i j G aK e
 ·intro r D;have:=h.ds r D;simp;omega
theorem pd(aD:x.gen=(H b).gen)(E:x.body.hk=true->(H b).body.hk=true)
  (L:x.body.gO=true->(H b).body.gO=true/\x.body.len=(H b).body.len/\x.body.gP=(H b).body.gP) (an:x.body.iR=true->(H b).body.iR=true)
  (a6:x.body.qT=true->(H b).body.qT=true) :
  fI H kap (λi=>if i=b then x else H i) kap:=by
 rw[X6];intro i;by_cases G:i=b
 ·subst G;simp;exact⟨by omega,λ_=>⟨λh=>⟨E h,rfl⟩,λh=>⟨(L h).1,rfl,(L h).2⟩,λh=>⟨an h,rfl⟩,λh=>⟨a6 h,rfl⟩⟩⟩
 grind [tQ.refl]
theorem amL(E:x.body.hk=true->(H b).body.hk=true)(an:x.body.iR=true->(H b).body.iR=true) :
  ∀ i,fz<=i->(if i=b then x else H i).body.hk=true\/(if i=b then x else H i).body.iR=true->kap i=kap i/\((H i).body.hk=true\/(H i).body.iR=true):=by
 grind
theorem bu.qU{C:cH}(h:bu C s a w kap F)
  (eJ:(s.aa b).body.ch (kap b)=true) (yh:x.body.ch (kap b)=true) (ah:fI s.aa kap (λi=>if i=b then x else s.aa i) kap)
  (E:x.body.hk=true->(s.aa b).body.hk=true) (an:x.body.iR=true->(s.aa b).body.iR=true)
  (hw:∀ r,r≠(kap b).aa->w'.heap[r]?=w.heap[r]?) (cN:w'.heap.size=w.heap.size) (hc:dL w w')
  (al:∀ (H:Nat->b9),H=(λi=>if i=b then x else s.aa i)->fI s.aa kap H kap->di F w w'->mr C.P H kap F w' (kap b) x.body) (J3:x.body.l3=false:=by rfl) :
  bu C (s.ct b x) a w' kap F:=by
 have au:=h.own b eJ;refine h.move   ah (λ_ D=>D) (λ_ D=>.inl D) (by omega) (λr _ D=>hw r λe=>D b eJ e.symm) hc (λhe=>?_) ?_ ?_ (λr D=>by rw[cN];exact h.ds r D) (amL E an) (J0 J3)
 ·intro i;by_cases G:i=b
  ·grind [c6]
  ·refine c6.k_ (h.bF i) ah (λ_ D=>D) he (by grind) rfl λamM=>hw _ λe=>G (h.inj i b amM eJ e)
 ·intro i G;by_cases bD:i=b
  ·grind
  ·simp  [if_neg bD]at G;have:=h.own i G;grind
 ·intro i j G aK e;have d_:(s.aa i).body.ch (kap i)=true:=by
   grind
  have gQ:(s.aa j).body.ch (kap j)=true:=by
   grind
  exact h.inj i j d_ gQ e
theorem bu.drew{C:cH}{s:aB}{a:Act}{w:World}{kap:Nat->bL}{F:Nat->Prop}(h:bu C s a w kap F):bu C s a w.drew kap F:=
 h.move (H':=s.aa) (fI.refl _ _) (λ_ D=>D) (λ_ D=>.inl D) (amn _) (λ_ _ _=>rfl) ⟨rfl,rfl,rfl⟩
  (λ_ b=>c6.k_ (h.bF b) (fI.refl _ _) (λ_ D=>D) ⟨amn _,λ_ _=>rfl⟩ rfl rfl λ_=>rfl) (λb U=>⟨(h.own b U).1,(h.own b U).2.1,.inl ⟨b,U,rfl⟩⟩) h.inj h.ds (λ_ _ h=>⟨rfl,h⟩) (yg.refl _)
def aB.le(s' s:aB):Prop:=(∀ i,s'.aA i=s.aA i\/s'.aA i=.undef)/\∀ b,s'.aa b=s.aa b\/s'.aa b=⟨(s.aa b).gen,.ev⟩
theorem bu.va{C:cH}{s':aB}(h:bu C s a w kap F)(az:s'.le s):bu C s' a w kap F:=by
 have eJ:∀ b,(s'.aa b).body.ch (kap b)=true->(s.aa b).body.ch (kap b)=true:=λb U=>by
  rcases az.2 b with e | e
  ·grind
  ·rw[e]at U;cases U
 have ah:fI s.aa kap s'.aa kap:=λb=>by
  rcases az.2 b with e | e
  ·grind
  ·rw[e];exact⟨amn _,λ_=>⟨λh=>(by cases h),λh=>(by cases h),λh=>(by cases h),λh=>(by cases h)⟩⟩
 have L:=h.move ah (λ_ D=>D) (λ_ D=>.inl D) (amn _) (λ_ _ _=>rfl) (dL.refl _)
  (λ_ b=>by
   rcases az.2 b with e | e
   ·exact c6.k_ (h.bF b) ah (λ_ D=>D) (di.refl _ _) (by rw[e]) rfl λ_=>rfl
   ·unfold c6;rw[e];trivial)
  (λb U=>⟨(h.own b (eJ b U)).1,(h.own b (eJ b U)).2.1,.inl ⟨b,eJ b U,rfl⟩⟩) (λb bj U ef=>h.inj b bj (eJ b U) (eJ bj ef)) h.ds (λb _ U=>⟨rfl,by
   rcases az.2 b with e | e
   ·grind
   grind [b'.hk,b'.iR]⟩) (λe m hm=>by
   rcases az.2 cF with k | k<;>grind)
 refine { L with b1:=λi=>?_,dX:=L.dX,dj:=L.dj,e7:=λl aI ab n ad e=>?_,bR:=λe m hm=>⟨(L.bR e m hm).1,λid xs al=>⟨λl aI ab n ad aH=>?_,((L.bR e m hm).2 id xs al).2⟩⟩ }
 ·rcases az.1 i with e | e
  ·rw[e];exact L.b1 i
  ·rw[e];trivial
 ·rcases az.1 cd with k | k
  ·exact L.e7 l aI ab n ad (k ▸ e)
  grind
 ·rcases az.1 cd with k | k
  ·exact ((L.bR e m hm).2 id xs al).1 l aI ab n ad (k ▸ aH)
  grind
end Go.Fer
namespace Go.Fer
inductive aF(ag:Type) where
 | ret (a:ag)
 | fl (b:Nat) (k:b9->aF ag)
def aF.run{ag:Type}(H:Nat->b9):aF ag->ag
 | .ret a=>a
 | .fl b k=>(k (H b)).run H
def aF.looks{ag:Type}(H:Nat->b9):aF ag->List Nat
 | .ret _=>[]
 | .fl b k=>b::(k (H b)).looks H
def aF.bind{ag bet:Type}:aF ag->(ag->aF bet)->aF bet
 | .ret a,f=>f a
 | .fl b k,f=>.fl b λx=>(k x).bind f
variable {ag:Type}{bet:Type}
def aF.map(f:ag->bet)(m:aF ag):aF bet:=m.bind λa=>.ret (f a)
def aF.none{ag:Type}:aF (Option ag):=.ret Option.none
def aF.eF(m:aF (Option ag))(f:ag->aF (Option bet)):aF (Option bet):=m.bind fun | some a=>f a | Option.none=>.none
@[simp] theorem aF.dC (H:Nat->b9) (a:ag):(aF.ret a).run H=a:=rfl
@[simp] theorem aF.gR (H:Nat->b9) (b:Nat) (k:b9->aF ag):(aF.fl b k).run H=(k (H b)).run H:=rfl
theorem aF.run_bind(H:Nat->b9)(m:aF ag)(f:ag->aF bet):(m.bind f).run H=(f (m.run H)).run H:=by
 induction m with
 | ret a=>rfl
 | fl b k aP=>simp[aF.bind,aP]
theorem aF.fZ(H:Nat->b9)(m:aF (Option ag))(f:ag->aF (Option bet)):(m.eF f).run H=(m.run H).bind λa=>(f a).run H:=by
 unfold aF.eF;rw[aF.run_bind];cases m.run H<;>rfl
theorem aF.X7{ag:Type}{H H':Nat->b9}:∀ (m:aF ag),(∀ b∈m.looks H,H' b=H b)->m.run H'=m.run H/\m.looks H'=m.looks H
 | .ret a,_=>⟨rfl,rfl⟩
 | .fl b k,h=>by
  have U:=h b (by simp[aF.looks]);have:=aF.X7 (k (H b)) λc hc=>h c (by simp[aF.looks,hc]);simp only[aF.run,aF.looks,U,this];simp
def fA(t dM:V)(x:t.aj):Option dM.aj:=if h:t=dM then some (h ▸ x) else none
theorem mO{t dM:V}{x:t.aj}{y:dM.aj}(h:fA t dM x=some y):∃ e:t=dM,y=e ▸ x:=by
 unfold fA at h;grind
def FI:(t:V)->Value->Option t.aj
 | .bO _,.pointer Option.none=>some Option.none
 | .map _ _,.map Option.none=>some []
 | .eW,.nilFunc=>some Option.none
 | _,_=>Option.none
def V.isAgg:V->Bool
 | .ad _ | .array _ _=>true
 | _=>false
def eK(t:V):aL->aF (Option (t.aj×List Nat))
 | .val dM x=>.ret ((fA dM t x).map (·,[]))
 | .dW=>match t with
  | .slice _=>.ret (some ([],[]))
  | .cM _=>.ret (some ((0,0,0),[]))
  | _=>.none
 | .own b g=>match t with
  | .slice e=>.fl b λx=>.ret (if x.gen=g then (match x.body with
    | .bn aZ xs=>(fA (.slice aZ) (.slice e) xs).map (·,[b])
    | .jz aZ xs=>(fA (.slice aZ) (.slice e) xs).map (·,[])
    | _=>Option.none) else Option.none)
  | _=>.none
 | .sub b g a7 G=>match t with
  | .slice e=>.fl b λx=>.ret (if x.gen=g then (match x.body with
    | .bn aZ xs=>(fA (.slice aZ) (.slice e) ((xs.take G).drop a7)).map (·,[b])
    | .jz aZ xs=>(fA (.slice aZ) (.slice e) ((xs.take G).drop a7)).map (·,[])
    | _=>Option.none) else Option.none)
  | _=>.none
 | .u_ aZ xs=>match t with
  | .slice e=>.ret ((fA (.slice aZ) (.slice e) xs).map (·,[]))
  | _=>.none
 | .hj b g=>match t with
  | .map k v=>.fl b λx=>.ret (if x.gen=g then (match x.body with
    | .mp k' iu es=>(fA (.map k' iu) (.map k v) es).map (·,[b])
    | .k9 k' iu es=>(fA (.map k' iu) (.map k v) es).map (·,[])
    | _=>Option.none) else Option.none)
  | _=>.none
 | .eL dM x=>match t with
  | .bO e=>.ret ((fA (.bO dM) (.bO e) (some x)).map (·,[]))
  | _=>.none
 | .k8 v=>.ret ((FI t v).map (·,[]))
 | .jh k n _=>match t with
  | .eW=>if n=0 then .ret (some (some k,[])) else .none
  | _=>.none
 | _=>.none
def wY(e:V)(cu:List aL->aF (Option (e.aj×List Nat×List aL)))(av:aL):aF (Option (Option e.aj×List Nat)):=
 match av with
 | .eX b g off=>.fl b λx=>if x.gen=g/\off=0 then (match x.body with
   | .im dM y=>.ret ((fA dM e y).map λz=>(some z,[]))
   | .cells dM f=>if dM=e then (cu ((List.range e.size).map f)).eF λ(y,l,r)=>.ret (if r.isEmpty then some (some y,b::l) else Option.none) else .none
   | _=>.none) else .none
 | av=>eK (.bO e) av
def lf:(t:V)->List aL->aF (Option (t.aj×List Nat×List aL))
 | .dc,cs=>.ret (some ((),[],cs))
 | .ad t,cs=>lf t cs
 | .ar a b,cs=>(lf a cs).eF λ(x,l,r)=>(lf b r).eF λ(y,m,q)=>.ret (some ((x,y),l++m,q))
 | .array n e,cs=>n.rec (motive:=λ_=>List aL->aF (Option (List e.aj×List Nat×List aL))) (λcs=>.ret (some ([],[],cs)))
   (λ_ aP cs=>(lf e cs).eF λ(x,l,r)=>(aP r).eF λ(xs,m,q)=>.ret (some (x::xs,l++m,q))) cs
 | .bool,cs=>match cs with | c::r=>(eK .bool c).map λo=>o.map λ(x,l)=>(x,l,r) | []=>.none
 | .int k,cs=>match cs with | c::r=>(eK (.int k) c).map λo=>o.map λ(x,l)=>(x,l,r) | []=>.none
 | .str,cs=>match cs with | c::r=>(eK .str c).map λo=>o.map λ(x,l)=>(x,l,r) | []=>.none
 | .slice e,cs=>match cs with | c::r=>(eK (.slice e) c).map λo=>o.map λ(x,l)=>(x,l,r) | []=>.none
 | .bO e,cs=>match cs with | c::r=>(wY e (lf e) c).map λo=>o.map λ(x,l)=>(x,l,r) | []=>.none
 | .cM e,cs=>match cs with | c::r=>(eK (.cM e) c).map λo=>o.map λ(x,l)=>(x,l,r) | []=>.none
 | .map k v,cs=>match cs with | c::r=>(eK (.map k v) c).map λo=>o.map λ(x,l)=>(x,l,r) | []=>.none
 | .fn a b,cs=>match cs with | c::r=>(eK (.fn a b) c).map λo=>o.map λ(x,l)=>(x,l,r) | []=>.none
 | .cG a,cs=>match cs with | c::r=>(eK (.cG a) c).map λo=>o.map λ(x,l)=>(x,l,r) | []=>.none
 | .eW,cs=>match cs with | c::r=>(eK .eW c).map λo=>o.map λ(x,l)=>(x,l,r) | []=>.none
def l4(t:V)(av:aL):aF (Option (t.aj×List Nat)):=
 match t with
 | .bO e=>wY e (lf e) av
 | t=>if t.fY then eK t av else .none
def ej(t:V)(av:aL):aF (Option (t.aj×List Nat)):=
 match av with
 | .val dM x=>.ret ((fA dM t x).map (·,[]))
 | .agg n f=>if t.fY then .none else (lf t ((List.range n).map f)).eF λ(x,l,r)=>.ret (if r.isEmpty&&t.isAgg then some (x,l) else Option.none)
 | _=>l4 t av
def p7:(t:V)->t.aj->List aL
 | .dc,_=>[]
 | .ad t,x=>p7 t x
 | .ar a b,x=>p7 a x.1++p7 b x.2
 | .array n e,xs=>(List.range n).flatMap λi=>p7 e (List.getD xs i e.dU)
 | .bool,x=>[.val .bool x]
 | .int k,x=>[.val (.int k) x]
 | .str,x=>[.val .str x]
 | .slice e,x=>[.val (.slice e) x]
 | .cM e,x=>[.val (.cM e) x]
 | .bO e,x=>[.val (.bO e) x]
 | .map k v,x=>[.val (.map k v) x]
 | .fn a b,x=>[.val (.fn a b) x]
 | .cG a,x=>[.val (.cG a) x]
 | .eW,x=>[.val .eW x]
def vb:V->List aL
 | .dc=>[]
 | .ad t=>vb t
 | .ar a b=>vb a++vb b
 | .array n e=>(List.range n).flatMap λ_=>vb e
 | .bool=>[.val .bool false]
 | .int k=>[.val (.int k) (0:Int)]
 | .str=>[.val .str []]
 | .cM _=>[.dW]
 | .slice _=>[.dW]
 | .bO e=>[.val (.bO e) Option.none]
 | .map k v=>[.val (.map k v) []]
 | .fn _ _=>[.k8 .nilFunc]
 | .cG _=>[.k8 .nilFunc]
 | .eW=>[.val .eW Option.none]
def hY(l:List aL)(i:Nat):aL:=l.getD i .undef
def p8:V->Nat->Option (V×Nat)
 | .ar a _,0=>some (a,0)
 | .ar a b,f+1=>(p8 b f).map λ(t,o)=>(t,a.size+o)
 | .dc,_=>Option.none
 | t,0=>some (t,0)
 | _,_+1=>Option.none
def yi:(t:V)->t.aj->Nat->Option ((s:V)×s.aj)
 | .ar a _,x,0=>some ⟨a,x.1⟩
 | .ar _ b,x,f+1=>yi b x.2 f
 | .dc,_,_=>Option.none
 | t,x,0=>some ⟨t,x⟩
 | _,_,_+1=>Option.none
def vc:(t:V)->t.aj->Nat->(s:V)->Option s.aj
 | .ad t,x,off,s=>if off=0/\V.ad t=s then fA (.ad t) s x else vc t x off s
 | .ar a b,x,off,s=>if off<a.size then vc a x.1 off s else vc b x.2 (off - a.size) s
 | .dc,_,_,_=>Option.none
 | .array _ _,_,_,_=>Option.none
 | .bool,x,off,s=>if off=0 then fA .bool s x else Option.none
 | .int k,x,off,s=>if off=0 then fA (.int k) s x else Option.none
 | .cM e,x,off,s=>if off=0 then fA (.cM e) s x else Option.none
 | .str,x,off,s=>if off=0 then fA .str s x else Option.none
 | .slice e,x,off,s=>if off=0 then fA (.slice e) s x else Option.none
 | .bO e,x,off,s=>if off=0 then fA (.bO e) s x else Option.none
 | .map k v,x,off,s=>if off=0 then fA (.map k v) s x else Option.none
 | .fn a b,x,off,s=>if off=0 then fA (.fn a b) s x else Option.none
 | .cG a,x,off,s=>if off=0 then fA (.cG a) s x else Option.none
 | .eW,x,off,s=>if off=0 then fA .eW s x else Option.none
def Ab:(t:V)->t.aj->Nat->(s:V)->s.aj->Option t.aj
 | .ad t,x,off,s,y=>if off=0/\s=V.ad t then fA s (.ad t) y else Ab t x off s y
 | .ar a b,x,off,s,y=>if off<a.size then (Ab a x.1 off s y).map (·,x.2) else (Ab b x.2 (off - a.size) s y).map (x.1,·)
 | .dc,_,_,_,_=>Option.none
 | .array _ _,_,_,_,_=>Option.none
 | .bool,_,off,s,y=>if off=0 then fA s .bool y else Option.none
 | .cM e,_,off,s,y=>if off=0 then fA s (.cM e) y else Option.none
 | .int k,_,off,s,y=>if off=0 then fA s (.int k) y else Option.none
 | .str,_,off,s,y=>if off=0 then fA s .str y else Option.none
 | .slice e,_,off,s,y=>if off=0 then fA s (.slice e) y else Option.none
 | .bO e,_,off,s,y=>if off=0 then fA s (.bO e) y else Option.none
 | .map k v,_,off,s,y=>if off=0 then fA s (.map k v) y else Option.none
 | .fn a b,_,off,s,y=>if off=0 then fA s (.fn a b) y else Option.none
 | .cG a,_,off,s,y=>if off=0 then fA s (.cG a) y else Option.none
 | .eW,_,off,s,y=>if off=0 then fA s .eW y else Option.none
def n0(k:IntKind)(a b:Int):Int:=k.wrap (BitVec.ofInt k.bits a&&& BitVec.ofInt k.bits b).toNat
def X8(k:IntKind)(a b:Int):Int:=k.wrap (BitVec.ofInt k.bits a||| BitVec.ofInt k.bits b).toNat
def X9(k:IntKind)(a b:Int):Int:=k.wrap (BitVec.ofInt k.bits a ^^^ BitVec.ofInt k.bits b).toNat
def X_(k:IntKind)(a b:Int):Int:=k.wrap (BitVec.ofInt k.bits a&&& ~~~BitVec.ofInt k.bits b).toNat
def amN(k:IntKind)(a b:Int):Int:=k.wrap (a*2 ^ (min b.toNat k.bits))
def lg(k:IntKind)(a b:Int):Int:=a.fdiv (2 ^ (min b.toNat k.bits))
def n1(t:V)(xs:List t.aj)(i:Int):t.aj:=xs.getD i.toNat t.dU
def cb(n:Nat):Prop:=n<=4294967296
def ji:(t:V)->t.aj->t.aj->Bool
 | .bool,x,y=>x == y
 | .int _,x,y=>decide ((x:Int)=y)
 | .str,x,y=>decide ((x:List UInt8)=y)
 | .ad t,x,y=>ji t x y
 | .ar a b,x,y=>ji a x.1 y.1&&ji b x.2 y.2
 | _,_,_=>false
def V.oE:V->Bool
 | .bool | .int _ | .str=>true
 | .ad t=>t.oE
 | .ar a b=>a.oE&&b.oE
 | _=>false
end Go.Fer
namespace Go.Fer
open Go.RowKit
section
variable {P:Program} {H:Nat->b9} {kap:Nat->bL} {F F':Nat->Prop} {w:World}
def ft(P:Program)(H:Nat->b9)(kap:Nat->bL)(F:Nat->Prop)(w:World):List aL->List Value->Prop
 | [],[]=>True
 | a::as,v::aG=>(bM P H kap F w a v/\v.oneCell'=true)/\ft P H kap F w as aG
 | _,_=>False
theorem ft.append:∀ {as dB:List aL} {us aG:List Value},ft P H kap F w as us->ft P H kap F w dB aG->ft P H kap F w (as++dB) (us++aG)
 | [],_,[],_,_,k=>k
 | _::_,_,_::_,_,h,k=>⟨h.1,ft.append h.2 k⟩
 | [],_,_::_,_,h,_=>h.elim
 | _::_,_,[],_,h,_=>h.elim
theorem ft.len:∀ {as:List aL} {us:List Value},ft P H kap F w as us->as.length=us.length
 | [],[],_=>rfl
 | _::_,_::_,h=>by simp[ft.len h.2]
 | [],_::_,h=>h.elim
 | _::_,[],h=>h.elim
theorem ft.n1:∀ {as:List aL} {us:List Value},ft P H kap F w as us->∀ i,i<as.length->bM P H kap F w (hY as i) (us.getD i Go.undef)/\(us.getD i Go.undef).oneCell'=true
 | a::as,v::aG,h,0,_=>h.1
 | a::as,v::aG,h,i+1,G=>by
  have:=ft.n1 h.2 i (by grind);simpa [hY]using this
 | [],[],_,i,G=>by grind
 | [],_::_,h,_,_=>h.elim
 | _::_,[],h,_,_=>h.elim
theorem ft.X':∀ {as:List aL} {us:List Value},as.length=us.length->(∀ i,i<as.length->bM P H kap F w (hY as i) (us.getD i Go.undef)/\(us.getD i Go.undef).oneCell'=true)->ft P H kap F w as us
 | [],[],_,_=>trivial
 | a::as,v::aG,ah,h=>⟨h 0 (by simp),ft.X' (by grind) λi G=>by have:=h (i+1) (by grind);simpa [hY]using this⟩
 | [],_::_,ah,_=>by grind
 | _::_,[],ah,_=>by grind
theorem CJ:∀ (t:V) {cs:List Value} {x:t.aj},cw P t F w cs x->ft P H kap F w (p7 t x) cs:=by
 have fe:∀ (t:V),t.fY=true->∀ {cs:List Value} {x:t.aj},cw P t F w cs x->ft P H kap F w [.val t x] cs:=by
  intro t aH cs x h;obtain⟨u,rfl,hu⟩:=JV aH h;exact⟨⟨(ee aH).2 ⟨hu,h⟩,PB aH h⟩,trivial⟩
 intro t;induction t with
 | bool=>intro cs x h;exact fe _ rfl h
 | int k=>intro cs x h;exact fe (.int k) rfl h
 | str=>intro cs x h;exact fe _ rfl h
 | dc=>intro cs x h;subst h;trivial
 | ad t aP=>intro cs x h;exact aP h
 | ar a b hi gj=>
  intro cs x h;obtain⟨c,d,rfl,aY,U⟩:=h;exact (hi aY).append (gj U)
 | slice e aP=>intro cs x h;exact fe (.slice e) rfl h
 | array n e aP=>
  intro cs xs h;simp  [cw]at h;simp only[p7];have key:∀ (k:Nat) (l:List (List Value)),(∀ i (G:i<l.length),ft P H kap F w (p7 e (List.getD xs (k+i) e.dU)) l[i])->ft P H kap F w ((List.range' k l.length).flatMap λi=>p7 e (List.getD xs i e.dU)) l.flatten:=by
   intro k l;induction l generalizing k with
   | nil=>intro _;trivial
   | cons c l amO=>
    intro dh;refine ft.append ?_ (amO (k+1) λi G=>?_)
    ·have:=dh 0 (by simp);grind
    ·have:=dh (i+1) (by grind);grind
  rw[aQD];grind
 | bO e aP=>intro cs x h;exact fe (.bO e) rfl h
 | map k v zW zX=>intro cs x h;exact fe (.map k v) rfl h
 | fn a b hi gj=>intro cs x h;exact fe (.fn a b) rfl h
 | cG a aP=>intro cs x h;exact fe (.cG a) rfl h
 | eW=>intro cs x h;exact fe .eW rfl h
 | cM e aP=>intro cs x h;exact fe (.cM e) rfl h
variable {e:V}{k:bL}
theorem PE{xs:List e.aj}(a1:mr P H kap F w k (.bn e xs))(bp:∀ r,F r->F' r)(ak:k.fO=false->F' k.aa):cw P (.slice e) F' w [k.slice xs.length] xs:=by
 obtain⟨E,L⟩:=a1;simp  [bL.slice];cases aC:k.fO with
 | true=>rw[E aC];exact⟨none,0,rfl,amn _,by decide,λ_=>rfl,λp ai=>by simp⟩
 | false=>
  obtain⟨cs,T,bG,c2,c3,c4,c5⟩:=L aC;refine⟨some ⟨k.aa,k.off,none⟩,k.cap,by simp,c3,c4.1,(by simp),λp ai _=>?_⟩;cases ai;refine⟨ak aC,rfl,λi G=>?_⟩;obtain⟨bC,d1,d2⟩:=c5 i G;refine⟨bC,⟨ak aC,rfl,λj aK=>?_⟩,fH e bp (di.refl F w) d2⟩;simp  [World.cell?];grind
variable {t:V}{v:Value}
theorem CK{dM:V}{x:t.aj}{y:dM.aj}(hc:fA t dM x=some y)(h:fr P t F w v x):fr P dM F w v y:=by
 obtain⟨e,rfl⟩:=mO hc;grind
theorem wZ{dM:V}{x:t.aj}{y:dM.aj}{cs:List Value}(hc:fA t dM x=some y)(h:cw P t F w cs x):cw P dM F w cs y:=by
 obtain⟨e,rfl⟩:=mO hc;grind
def kN(H:Nat->b9)(kap:Nat->bL)(F':Nat->Prop)(l:List Nat):Prop:=∀ b∈l,(H b).body.ch (kap b)=true->F' (kap b).aa
variable {l:List Nat}
theorem kN.left{m:List Nat}(h:kN H kap F' (l++m)):kN H kap F' l:=λb U=>h b (aQQ _ U)
theorem kN.right{m:List Nat}(h:kN H kap F' (l++m)):kN H kap F' m:=λb U=>h b (aP' _ U)
theorem Ya{oD rG:V}{es:List (oD.aj×rG.aj)}(a1:mr P H kap F w k (.mp oD rG es))(bp:∀ r,F r->F' r)(ak:F' k.aa):cw P (.map oD rG) F' w [.map (some k.aa)] es:=by
 obtain⟨ms,clk,E,L⟩:=a1;obtain⟨L,an,a6,bS⟩:=L.mono bp (di.refl F w);exact .inr ⟨_,ms,clk,rfl,ak,E,L,an,a6,bS⟩
theorem J4{xs:List e.aj}{a7 G:Nat}(h:cw P (.slice e) F' w [k.slice xs.length] xs)(E:a7<=G)(L:G<=xs.length)(az:JY k e.size a7 G v) :
  cw P (.slice e) F' w [v] ((xs.take G).drop a7):=by
 have hlen:((xs.take G).drop a7).length=G - a7:=by grind
 obtain⟨a,cap,aE,bG,c2,c3,c4⟩:=h;rcases az with⟨aC,rfl⟩ | ⟨aC,o,rfl,jO,gS⟩
 ·have:xs=[]:=by
   simp  [bL.slice,aRe]at aE;grind
  subst this;have bN:(([]:List e.aj).take G).drop a7=[]:=by simp
  rw[bN];exact⟨none,0,rfl,amn _,by decide,λ_=>rfl,λp ai=>by simp⟩
 ·simp  [bL.slice,aC,aRe]at aE;obtain⟨rfl,_,rfl⟩:=aE;refine⟨some ⟨k.aa,o,none⟩,k.cap - a7,by grind,by omega,by omega,(by simp),λp ai CL=>?_⟩;cases ai;obtain⟨d1,d2,d3⟩:=c4 _ rfl (by omega);refine⟨d1,rfl,λi d_=>?_⟩;obtain⟨bC,m1,m2⟩:=d3 (a7+i) (by omega);grind
theorem PF(a1:∀ b,c6 P H kap F w b)(bp:∀ r,F r->F' r)(aH:t.fY=true){av:aL}{x:t.aj}(h:(eK t av).run H=some (x,l))
  (ah:kN H kap F' l) (af:bM P H kap F w av v):fr P t F' w v x:=by
 cases av with
 | undef=>cases h
 | ks b a=>cases h
 | eX b g off=>cases h
 | qS b g i off=>cases h
 | kM b g i=>cases h
 | jh k n c=>
  cases t<;>simp  [eK,aF.none,reduceCtorEq]at h;split at h
  ·rename_i aC;subst aC;cases h;obtain⟨aG,rfl,ah,_⟩:=af;obtain rfl:=aP6 ah;exact (ee rfl).2 ⟨rfl,rfl⟩
  simp_all
 | u9 k n c=>cases h
 | sF n f=>cases h
 | agg n f=>cases h
 | l2 b g=>cases h
 | aS l aI ab n ad=>cases h
 | il l=>cases h
 | u_ aZ xs=>
  cases t<;>simp only[eK,aF.none,aF.dC,reduceCtorEq,aP9,aPK]at h;obtain⟨z,bA,rfl,rfl⟩:=h;exact (CK bA af.1).mono bp (di.refl F w)
 | ye e id i=>cases h
 | z8 b g=>cases h
 | hM b g=>cases h
 | sub b g a7 G=>
  cases t<;>simp only[eK,aF.none,aF.dC,aF.gR,reduceCtorEq]at h;split at h
  ·rename_i aD;obtain⟨rI,jP⟩:=af;have lF:=a1 b;unfold c6 at lF;cases cm:(H b).body with
   | bn aZ xs=>
    rw[cm]at h lF jP;simp  at h;obtain⟨z,bA,rfl,rfl⟩:=h;obtain⟨⟨aM,aT⟩,b5⟩:=jP aD.symm rfl;exact (ee rfl).2 ⟨JU rI.2,wZ bA (J4 (PE lF bp λaC=>ah b (by simp) (by rw[cm];simp[b'.ch,aC])) aM aT b5)⟩
   | jz aZ xs=>
    rw[cm]at h lF jP;simp  at h;obtain⟨z,bA,rfl,rfl⟩:=h;obtain⟨⟨aM,aT⟩,b5⟩:=jP aD.symm rfl;exact (ee rfl).2 ⟨JU rI.2,wZ bA (J4 (fH (.slice aZ) bp (di.refl F w) lF) aM aT b5)⟩
   | _=>rw[cm]at h;cases h
  grind
 | hj b g=>
  cases t<;>simp only[eK,aF.none,aF.dC,aF.gR,reduceCtorEq]at h;split at h
  ·rename_i aD;obtain⟨rI,jP⟩:=af;have lF:=a1 b;unfold c6 at lF;cases cm:(H b).body with
   | mp k' iu es=>
    rw[cm]at h lF jP;simp  at h;obtain⟨z,bA,rfl,rfl⟩:=h;have:=jP aD.symm rfl;subst this;exact (ee rfl).2 ⟨rfl,wZ bA (Ya lF bp (ah b (by simp) (by rw[cm];rfl)))⟩
   | k9 k' iu es=>
    rw[cm]at h lF jP;simp  at h;obtain⟨z,bA,rfl,rfl⟩:=h;have:=jP aD.symm rfl;subst this;exact (ee rfl).2 ⟨rfl,wZ bA (fH (.map k' iu) bp (di.refl F w) lF)⟩
   | _=>rw[cm]at h;cases h
  grind
 | val dM y=>
  simp  [eK,aPK]at h;obtain⟨z,bA,rfl,rfl⟩:=h;exact (CK bA af).mono bp (di.refl F w)
 | dW=>
  cases t<;>simp  [eK,aF.none,aPK]at h
  ·obtain⟨rfl,rfl⟩:=h;subst af;exact (ee rfl).2 ⟨rfl,none,0,rfl,amn _,by decide,λ_=>rfl,λp ai=>by simp⟩
  ·obtain⟨rfl,rfl⟩:=h;subst af;exact (ee rfl).2 ⟨rfl,.inl ⟨rfl,rfl⟩⟩
 | own b g=>
  cases t<;>simp only[eK,aF.none,aF.dC,aF.gR,reduceCtorEq]at h;split at h
  ·rename_i aD;obtain⟨rI,jP⟩:=af;have lF:=a1 b;unfold c6 at lF;cases cm:(H b).body with
   | bn aZ xs=>
    rw[cm]at h lF jP;simp  at h;obtain⟨z,bA,rfl,rfl⟩:=h;have:=jP aD.symm rfl;subst this;refine (ee rfl).2 ⟨by unfold bL.slice;split<;>rfl,wZ bA (PE lF bp λaC=>ah b (by simp) (by rw[cm];simp[b'.ch,aC]))⟩
   | jz aZ xs=>
    rw[cm]at h lF jP;simp  at h;obtain⟨z,bA,rfl,rfl⟩:=h;have:=jP aD.symm rfl;subst this;exact (ee rfl).2 ⟨by unfold bL.slice;split<;>rfl,wZ bA (fH _ bp (di.refl F w) lF)⟩
   | _=>rw[cm]at h;cases h
  grind
 | eL dM y=>
  cases t<;>simp  [eK,aF.none,aPK]at h;obtain⟨z,bA,rfl,rfl⟩:=h;obtain⟨p,bC,rfl,L,an⟩:=af;refine (ee rfl).2 ⟨rfl,wZ bA ?_⟩;exact .inr ⟨p,y,bC,rfl,rfl,L.mono bp (di.refl F w),fH dM bp (di.refl F w) an⟩
 | k8 u=>
  subst af;simp  [eK,aPK]at h;obtain⟨z,bA,rfl,rfl⟩:=h;unfold FI at bA;split at bA
  ·cases bA;exact (ee rfl).2 ⟨rfl,.inl ⟨rfl,rfl⟩⟩
  ·cases bA;exact (ee rfl).2 ⟨rfl,.inl ⟨rfl,rfl⟩⟩
  ·cases bA;exact (ee rfl).2 ⟨rfl,rfl⟩
  grind
theorem FJ{n:Nat}{f:Nat->aL}{aG:List Value}(ah:aG.length=n)(h:∀ i,i<n->bM P H kap F w (f i) (aG.getD i Go.undef)/\(aG.getD i Go.undef).oneCell'=true) :
  ft P H kap F w ((List.range n).map f) aG:=by
 refine ft.X' (by grind) λi G=>?_;have d_:i<n:=by grind
 have:hY ((List.range n).map f) i=f i:=by simp[hY,d_]
 grind
theorem Yb(a1:∀ b,c6 P H kap F w b)(bp:∀ r,F r->F' r){cu:List aL->aF (Option (e.aj×List Nat×List aL))}
  (fm:∀ {cs:List aL} {aG:List Value} {x:e.aj} {l:List Nat} {r:List aL},(cu cs).run H=some (x,l,r)->kN H kap F' l->ft P H kap F w cs aG->∃ c d,aG=c++d/\cw P e F' w c x/\ft P H kap F w r d)
  {av:aL} {v:Value} {x:Option e.aj} {l:List Nat} (h:(wY e cu av).run H=some (x,l)) (ah:kN H kap F' l) (af:bM P H kap F w av v):fr P (.bO e) F' w v x:=by
 have b8:(eK (.bO e) av).run H=some (x,l)->fr P (.bO e) F' w v x:=λh=>PF a1 bp rfl h ah af;cases av with
 | eX b g off=>
  simp only[wY,aF.gR]at h;split at h
  ·rename_i aD;obtain⟨aD,rfl⟩:=aD;obtain⟨rI,jP⟩:=af;have lF:=a1 b;unfold c6 at lF;cases cm:(H b).body with
   | im t y=>
    rw[cm]at h lF jP;simp  at h;obtain⟨z,bA,rfl,rfl⟩:=h;obtain⟨eq,rfl⟩:=mO bA;subst eq;obtain rfl:=jP aD.symm rfl;obtain⟨bC,E,L⟩:=lF;exact (ee rfl).2 ⟨rfl,.inr ⟨_,_,bC,rfl,rfl,E.mono bp (di.refl F w),fH t bp (di.refl F w) L⟩⟩
   | cells t f=>
    rw[cm]at h lF jP;simp only at h;split at h
    ·rename_i aH;subst aH;simp only[aF.fZ,amj,aF.dC]at h;obtain⟨⟨y,m,q⟩,E,L⟩:=h;split at L
     ·rename_i bB;obtain⟨rfl,rfl⟩:=L;obtain rfl:=jP aD.symm rfl;obtain⟨cs,T,aM,aT,b5⟩:=lF;have ka:ft P H kap F w ((List.range t.size).map f) cs.toList:=FJ (by have:=aT.1;omega) λi G=>by
       simp_all
      obtain⟨c,d,amP,bG,c2⟩:=fm E (λbj ef=>ah bj (amr _ ef)) ka;have bB:=List.isEmpty_iff.1 bB;subst bB;cases d with
      | cons _ _=>exact c2.elim
      | nil=>
       refine (ee rfl).2 ⟨rfl,.inr ⟨_,y,c,rfl,rfl,⟨ah b (by simp) (by rw[cm];rfl),rfl,λj aK=>?_⟩,bG⟩⟩;have gQ:j<cs.size:=by grind
       simp  [World.cell?,aQz gQ];grind
     grind
    ·cases h
   | _=>rw[cm]at h;cases h
  ·cases h
 | _=>exact b8 h
theorem PG(a1:∀ b,c6 P H kap F w b)(bp:∀ r,F r->F' r):∀ (t:V) {cs:List aL} {aG:List Value} {x:t.aj} {l:List Nat} {r:List aL},(lf t cs).run H=some (x,l,r)->
  kN H kap F' l->ft P H kap F w cs aG->∃ c d,aG=c++d/\cw P t F' w c x/\ft P H kap F w r d:=by
 have rJ:∀ (t:V) (g:aL->aF (Option (t.aj×List Nat))),t.fY=true->(∀ {av:aL} {v:Value} {x:t.aj} {l:List Nat},(g av).run H=some (x,l)->kN H kap F' l->bM P H kap F w av v->fr P t F' w v x)->
   ∀ {cs:List aL} {aG:List Value} {x:t.aj} {l:List Nat} {r:List aL},(match cs with | c::r=>(g c).map λo=>o.map λ(x,l)=>(x,l,r) | []=>.none:aF (Option (t.aj×List Nat×List aL))).run H=some (x,l,r)->
   kN H kap F' l->ft P H kap F w cs aG->∃ c d,aG=c++d/\cw P t F' w c x/\ft P H kap F w r d:=by
  intro t g aH aD cs aG x l r h ah aY;cases cs with
  | nil=>cases h
  | cons c cs=>
   cases aG with
   | nil=>exact aY.elim
   | cons v aG=>
    simp only[aF.map,aF.run_bind,aF.dC,aP9]at h;obtain⟨⟨y,m⟩,bA,rfl,rfl,rfl⟩:=h;refine⟨[v],aG,rfl,?_,aY.2⟩;exact ((ee aH).1 (aD bA ah aY.1.1)).2
 have fe:∀ (t:V),t.fY=true->∀ {cs:List aL} {aG:List Value} {x:t.aj} {l:List Nat} {r:List aL},(match cs with | c::r=>(eK t c).map λo=>o.map λ(x,l)=>(x,l,r) | []=>.none:aF (Option (t.aj×List Nat×List aL))).run H=some (x,l,r)->
   kN H kap F' l->ft P H kap F w cs aG->∃ c d,aG=c++d/\cw P t F' w c x/\ft P H kap F w r d:=
  λt aH=>rJ t (eK t) aH λh ah af=>PF a1 bp aH h ah af
 intro t;induction t with
 | bool=>intro cs aG x l r h ah aY;exact fe _ rfl h ah aY
 | int k=>intro cs aG x l r h ah aY;exact fe (.int k) rfl h ah aY
 | str=>intro cs aG x l r h ah aY;exact fe _ rfl h ah aY
 | dc=>
  intro cs aG x l r h ah aY;obtain⟨_,rfl,rfl⟩:=h;exact⟨[],aG,rfl,rfl,aY⟩
 | ad t aP=>intro cs aG x l r h ah aY;exact aP h ah aY
 | ar a b hi gj=>
  intro cs aG x l r h ah aY;simp only[lf,aF.fZ,amj,aPK]at h;obtain⟨⟨y,m,q⟩,E,⟨z,dw,q'⟩,L,rfl,rfl,rfl⟩:=h;obtain⟨c,d,rfl,bG,c2⟩:=hi E ah.left aY;obtain⟨gl,Ac,rfl,d1,d2⟩:=gj L ah.right c2;exact⟨c++gl,Ac,by simp,⟨c,gl,rfl,bG,d1⟩,d2⟩
 | slice e aP=>intro cs aG x l r h ah aY;exact fe (.slice e) rfl h ah aY
 | array n e aP=>
  intro cs aG xs l r h ah aY;have key:∀ (n:Nat) {cs:List aL} {aG:List Value} {xs:List e.aj} {l:List Nat} {r:List aL},(n.rec (motive:=λ_=>List aL->aF (Option (List e.aj×List Nat×List aL))) (λcs=>.ret (some ([],[],cs)))
     (λ_ aP cs=>(lf e cs).eF λ(x,l,r)=>(aP r).eF λ(xs,m,q)=>.ret (some (x::xs,l++m,q))) cs).run H=some (xs,l,r)->
    kN H kap F' l->ft P H kap F w cs aG->
    ∃ gN d,aG=List.flatten gN++d/\gN.length=n/\xs.length=n/\(∀ i (h:i<xs.length) (e0:i<gN.length),cw P e F' w gN[i] xs[i])/\ft P H kap F w r d:=by
   intro n;induction n with
   | zero=>
    intro cs aG xs l r h ah aY;cases h;exact⟨[],aG,rfl,rfl,rfl,λi G=>(by simp),aY⟩
   | succ n FK=>
    intro cs aG xs l r h ah aY;simp only[aF.fZ,amj,aPK]at h;obtain⟨⟨y,m,q⟩,E,⟨z,dw,q'⟩,L,rfl,rfl,rfl⟩:=h;obtain⟨c,d,rfl,bG,c2⟩:=aP E ah.left aY;obtain⟨gN,Ac,rfl,d1,d2,d3,d4⟩:=FK L ah.right c2;refine⟨c::gN,Ac,by simp,by grind,by grind,λi G d_=>?_,d4⟩;grind
  obtain⟨gN,d,aE,bz,c_,bV,ey⟩:=key n h ah aY;exact⟨gN.flatten,d,aE,⟨gN,rfl,bz,c_,bV⟩,ey⟩
 | bO e aP=>intro cs aG x l r h ah aY;exact rJ (.bO e) (wY e (lf e)) rfl (λh ah af=>Yb a1 bp aP h ah af) h ah aY
 | map k v zW zX=>intro cs aG x l r h ah aY;exact fe (.map k v) rfl h ah aY
 | fn a b hi gj=>intro cs aG x l r h ah aY;exact fe (.fn a b) rfl h ah aY
 | cG a aP=>intro cs aG x l r h ah aY;exact fe (.cG a) rfl h ah aY
 | eW=>intro cs aG x l r h ah aY;exact fe .eW rfl h ah aY
 | cM e aP=>intro cs aG x l r h ah aY;exact fe (.cM e) rfl h ah aY
theorem oF(a1:∀ b,c6 P H kap F w b)(bp:∀ r,F r->F' r){av:aL}{x:t.aj}(h:(ej t av).run H=some (x,l))
  (ah:kN H kap F' l) (af:bM P H kap F w av v):fr P t F' w v x:=by
 have b8:(l4 t av).run H=some (x,l)->fr P t F' w v x:=by
  intro h;unfold l4 at h;split at h
  ·exact Yb a1 bp (λh ah aY=>PG a1 bp _ h ah aY) h ah af
  ·split at h
   ·rename_i aH;exact PF a1 bp aH h ah af
   ·cases h
 cases av with
 | val dM y=>
  simp  [ej,aPK]at h;obtain⟨z,bA,rfl,rfl⟩:=h;exact (CK bA af).mono bp (di.refl F w)
 | agg n f=>
  simp  [ej]at h;split at h
  ·cases h
  ·simp only[aF.fZ,amj,aF.dC]at h;obtain⟨⟨y,m,q⟩,E,L⟩:=h;split at L
   ·rename_i hc;simp  at hc;obtain⟨rfl,rfl⟩:=L;obtain⟨aG,rfl,a6,bS⟩:=af;obtain⟨c,d,rfl,bG,c2⟩:=PG a1 bp t E ah (FJ a6 bS);rw[hc.1]at c2;cases d with
    | cons _ _=>exact c2.elim
    | nil=>
     rw[aPT]at *
     have hlen:=jN t bG;have az:=hc.2;cases t<;>simp  [V.isAgg]at az
     ·exact⟨⟨c.toArray,rfl,by simpa [V.size]using hlen⟩,by simpa [Value.cells]using bG⟩
     ·exact⟨⟨c.toArray,rfl,by simpa [V.size]using hlen⟩,by simpa [Value.cells]using bG⟩
   grind
 | undef=>exact b8 h
 | ks b a=>exact b8 h
 | eX b g off=>exact b8 h
 | own b g=>exact b8 h
 | qS b g i off=>exact b8 h
 | kM b g i=>exact b8 h
 | eL dM y=>exact b8 h
 | hj b g=>exact b8 h
 | jh k n c=>exact b8 h
 | u9 k n c=>exact b8 h
 | sF n f=>exact b8 h
 | dW=>exact b8 h
 | k8 u=>exact b8 h
 | l2 b g=>exact b8 h
 | aS l aI ab n ad=>exact b8 h
 | il l=>exact b8 h
 | u_ e xs=>exact b8 h
 | ye e id i=>exact b8 h
 | z8 b g=>exact b8 h
 | hM b g=>exact b8 h
 | sub b g a7 G=>exact b8 h
end
def V.pure:V->Bool
 | .bool | .int _ | .str | .dc | .cM _=>true
 | .ad t=>t.pure
 | .ar a b=>a.pure&&b.pure
 | .array _ e=>e.pure
 | _=>false
theorem PH{P:Program}{F F':Nat->Prop}{w w':World}:∀ (t:V) {cs:List Value} {x:t.aj},t.pure=true->cw P t F w cs x->cw P t F' w' cs x:=by
 intro t;induction t with
 | bool=>intro cs x _ h;exact h
 | int k=>intro cs x _ h;exact h
 | str=>intro cs x _ h;exact h
 | dc=>intro cs x _ h;exact h
 | ad t aP=>intro cs x aH h;exact aP aH h
 | ar a b hi gj=>
  intro cs x aH h;simp  [V.pure]at aH;obtain⟨c,d,rfl,aY,U⟩:=h;exact⟨c,d,rfl,hi aH.1 aY,gj aH.2 U⟩
 | slice e aP=>intro cs x aH;cases aH
 | array n e aP=>
  intro cs x aH h;obtain⟨gN,rfl,E,L,an⟩:=h;exact⟨gN,rfl,E,L,λi G d_=>aP aH (an i G d_)⟩
 | bO e aP=>intro cs x aH;cases aH
 | map k v zW zX=>intro cs x aH;cases aH
 | fn a b hi gj=>intro cs x aH;cases aH
 | cG a aP=>intro cs x aH;cases aH
 | eW=>intro cs x aH;cases aH
 | cM e aP=>intro cs x _ h;exact h
end Go.Fer
namespace Go.Fer
open Go.RowKit
section
variable {P:Program} {F:Nat->Prop} {w:World}
variable {t:V}
theorem amQ{x y:t.aj}(h:fA t t x=some y):y=x:=by
 obtain⟨e,rfl⟩:=mO h;rfl
theorem Yc:∀ (t:V) {f:Nat} {cs:List Value} {x:t.aj} {s:V} {y:s.aj},cw P t F w cs x->yi t x f=some ⟨s,y⟩->
  ∃ bG c2 c3,cs=bG++(c2++c3)/\cw P s F w c2 y/\p8 t f=some (s,bG.length):=by
 have fe:∀ (t:V),(∀ a b,t≠.ar a b)->t≠.dc->∀ {f:Nat} {cs:List Value} {x:t.aj} {s:V} {y:s.aj},cw P t F w cs x->yi t x f=some ⟨s,y⟩->
   ∃ bG c2 c3,cs=bG++(c2++c3)/\cw P s F w c2 y/\p8 t f=some (s,bG.length):=by
  intro t E L f cs x s y h ay;cases f with
  | zero=>
   have e:yi t x 0=some ⟨t,x⟩:=by cases t<;>first | rfl | grind | grind
   have aZ:p8 t 0=some (t,0):=by cases t<;>first | rfl | grind | grind
   rw[e]at ay;cases ay;exact⟨[],cs,[],by simp,h,aZ⟩
  | succ f=>
   have e:yi t x (f+1)=none:=by cases t<;>first | rfl | grind
   grind
 intro t;induction t with
 | ar a b hi gj=>
  intro f cs x s y h ay;obtain⟨c,d,rfl,aY,U⟩:=h;cases f with
  | zero=>
   simp  [yi,Sigma.mk.injEq]at ay;obtain⟨rfl,ay⟩:=ay;cases ay;exact⟨[],c,d,by simp,aY,rfl⟩
  | succ f=>
   obtain⟨bG,c2,c3,rfl,aM,aT⟩:=gj U ay;refine⟨c++bG,c2,c3,by simp,aM,?_⟩;simp[p8,aT,jN a aY]
 | dc=>intro f cs x s y _ ay;cases f<;>cases ay
 | bool=>grind
 | int k=>grind
 | str=>grind
 | ad t _=>grind
 | slice e _=>grind
 | array n e _=>grind
 | bO e _=>grind
 | map k v _ _=>grind
 | fn a b _ _=>grind
 | cG a _=>grind
 | eW=>grind
 | cM e _=>exact fe (.cM e) (by simp) (by simp)
theorem Yd:∀ (t:V) {off:Nat} {cs:List Value} {x:t.aj} {s:V} {y:s.aj},cw P t F w cs x->vc t x off s=some y->
  ∃ bG c2 c3,cs=bG++(c2++c3)/\bG.length=off/\cw P s F w c2 y:=by
 have fe:∀ (t:V) {off:Nat} {cs:List Value} {x:t.aj} {s:V} {y:s.aj},cw P t F w cs x->(if off=0 then fA t s x else none)=some y->
   ∃ bG c2 c3,cs=bG++(c2++c3)/\bG.length=off/\cw P s F w c2 y:=by
  intro t off cs x s y h ay;split at ay
  ·rename_i au;exact⟨[],cs,[],by simp,au.symm,wZ ay h⟩
  grind
 intro t;induction t with
 | ar a b hi gj=>
  intro off cs x s y h ay;obtain⟨c,d,rfl,aY,U⟩:=h;simp  [vc]at ay;split at ay
  ·grind
  ·have:=jN a aY;grind
 | ad t aP=>
  intro off cs x s y h ay;simp  [vc]at ay;split at ay
  ·rename_i au;exact⟨[],cs,[],by simp,au.1.symm,wZ ay h⟩
  ·simp  [cw]at h;grind
 | dc=>intro off cs x s y _ ay;cases ay
 | array n e _=>intro off cs x s y _ ay;cases ay
 | bool=>intro off cs x s y h ay;exact fe _ h ay
 | int k=>intro off cs x s y h ay;exact fe (.int k) h ay
 | str=>intro off cs x s y h ay;exact fe _ h ay
 | slice e _=>intro off cs x s y h ay;exact fe (.slice e) h ay
 | bO e _=>intro off cs x s y h ay;exact fe (.bO e) h ay
 | map k v _ _=>intro off cs x s y h ay;exact fe (.map k v) h ay
 | fn a b _ _=>intro off cs x s y h ay;exact fe (.fn a b) h ay
 | cG a _=>intro off cs x s y h ay;exact fe (.cG a) h ay
 | eW=>intro off cs x s y h ay;exact fe .eW h ay
 | cM e _=>intro off cs x s y h ay;exact fe (.cM e) h ay
theorem amR:∀ (t:V) {off:Nat} {cs bC:List Value} {x eS:t.aj} {s:V} {y:s.aj},cw P t F w cs x->Ab t x off s y=some eS->cw P s F w bC y->
  ∃ bG c2 c3,cs=bG++(c2++c3)/\bG.length=off/\c2.length=s.size/\cw P t F w (bG++(bC++c3)) eS:=by
 have fe:∀ (t:V) {off:Nat} {cs bC:List Value} {x eS:t.aj} {s:V} {y:s.aj},cw P t F w cs x->(if off=0 then fA s t y else none)=some eS->cw P s F w bC y->
   ∃ bG c2 c3,cs=bG++(c2++c3)/\bG.length=off/\c2.length=s.size/\cw P t F w (bG++(bC++c3)) eS:=by
  intro t off cs bC x eS s y h ay ax;split at ay
  ·rename_i au;obtain⟨e,rfl⟩:=mO ay;subst e;exact⟨[],cs,[],by simp,au.symm,jN s h,by grind⟩
  grind
 intro t;induction t with
 | ar a b hi gj=>
  intro off cs bC x eS s y h ay ax;obtain⟨c,d,rfl,aY,U⟩:=h;simp  [Ab]at ay;split at ay
  ·simp  at ay;obtain⟨z,bA,rfl⟩:=ay;obtain⟨bG,c2,c3,rfl,aM,aT,b5⟩:=hi aY bA ax;exact⟨bG,c2,c3++d,by simp,aM,aT,⟨_,d,by simp,b5,U⟩⟩
  ·simp  at ay;obtain⟨z,bA,rfl⟩:=ay;obtain⟨bG,c2,c3,rfl,aM,aT,b5⟩:=gj U bA ax;have:=jN a aY;exact⟨c++bG,c2,c3,by simp,by grind,aT,⟨c,_,by simp,aY,b5⟩⟩
 | ad t aP=>
  intro off cs bC x eS s y h ay ax;simp  [Ab]at ay;split at ay
  ·rename_i au;obtain⟨au,e⟩:=au;subst e;have:=amQ ay;exact⟨[],cs,[],by simp,au.symm,jN _ h,by grind⟩
  ·simp  [cw]at h ⊢;grind
 | dc=>intro off cs bC x eS s y _ ay;cases ay
 | array n e _=>intro off cs bC x eS s y _ ay;cases ay
 | bool=>intro off cs bC x eS s y h ay ax;exact fe _ h ay ax
 | int k=>intro off cs bC x eS s y h ay ax;exact fe (.int k) h ay ax
 | str=>intro off cs bC x eS s y h ay ax;exact fe _ h ay ax
 | slice e _=>intro off cs bC x eS s y h ay ax;exact fe (.slice e) h ay ax
 | bO e _=>intro off cs bC x eS s y h ay ax;exact fe (.bO e) h ay ax
 | map k v _ _=>intro off cs bC x eS s y h ay ax;exact fe (.map k v) h ay ax
 | fn a b _ _=>intro off cs bC x eS s y h ay ax;exact fe (.fn a b) h ay ax
 | cG a _=>intro off cs bC x eS s y h ay ax;exact fe (.cG a) h ay ax
 | eW=>intro off cs bC x eS s y h ay ax;exact fe .eW h ay ax
 | cM e _=>intro off cs bC x eS s y h ay ax;exact fe (.cM e) h ay ax
end
def l5:V->List Value->Option (List Value)
 | .dc,cs=>some cs
 | .ad t,cs=>l5 t cs
 | .ar a b,cs=>(l5 a cs).bind (l5 b)
 | .array n e,cs=>n.rec (motive:=λ_=>List Value->Option (List Value)) some (λ_ aP cs=>(l5 e cs).bind aP) cs
 | .bool,cs=>match cs with | .bool false::r=>some r | _=>none
 | .int k,cs=>match cs with | .int k' n::r=>if k'=k/\n=0 then some r else none | _=>none
 | .str,cs=>match cs with | .string s::r=>if s.size=0 then some r else none | _=>none
 | .slice _,cs=>match cs with | .slice none 0 0::r=>some r | _=>none
 | .bO _,cs=>match cs with | .pointer none::r=>some r | _=>none
 | .map _ _,cs=>match cs with | .map none::r=>some r | _=>none
 | .fn _ _,cs=>match cs with | .nilFunc::r=>some r | _=>none
 | .cG _,cs=>match cs with | .nilFunc::r=>some r | _=>none
 | .eW,cs=>match cs with | .nilFunc::r=>some r | _=>none
 | .cM _,cs=>match cs with | .slice none 0 0::r=>some r | _=>none
theorem Ye(k:IntKind):gM k 0:=by cases k<;>decide
variable {P:Program}
theorem yj{H:Nat->b9}{kap:Nat->bL}{F:Nat->Prop}{w:World}:∀ (t:V) {cs r:List Value},l5 t cs=some r->
  ∃ c,cs=c++r/\cw P t F w c t.dU/\ft P H kap F w (vb t) c:=by
 intro t;induction t with
 | dc=>intro cs r h;cases h;exact⟨[],by simp,rfl,trivial⟩
 | ad t aP=>intro cs r h;exact aP h
 | ar a b hi gj=>
  intro cs r h;simp  [l5,amj]at h;obtain⟨q,E,L⟩:=h;obtain⟨c,rfl,bG,c2⟩:=hi E;obtain⟨d,rfl,d1,d2⟩:=gj L;exact⟨c++d,by simp,⟨c,d,rfl,bG,d1⟩,c2.append d2⟩
 | array n e aP=>
  intro cs r h;have key:∀ (n k:Nat) {cs r:List Value},n.rec   some (λ_ aP cs=>(l5 e cs).bind aP) cs=some r->
    ∃ gN:List (List Value),cs=gN.flatten++r/\gN.length=n/\(∀ c∈gN,cw P e F w c e.dU)/\ft P H kap F w ((List.range' k n).flatMap λ_=>vb e) gN.flatten:=by
   intro n;induction n with
   | zero=>intro k cs r h;cases h;exact⟨[],by simp,rfl,by simp,trivial⟩
   | succ n FK=>
    intro k cs r h;simp  [amj]at h;obtain⟨q,E,L⟩:=h;obtain⟨c,rfl,bG,c2⟩:=aP E;obtain⟨gN,rfl,d1,d2,d3⟩:=FK (k+1) L;refine⟨c::gN,by simp,by grind,?_,?_⟩
    ·grind
    ·exact c2.append d3
  obtain⟨gN,rfl,E,L,an⟩:=key n 0 h;refine⟨gN.flatten,rfl,⟨gN,rfl,E,by simp[V.dU],λi G d_=>?_⟩,?_⟩
  ·have:(V.array n e).dU[i]=e.dU:=by simp[V.dU]
   grind
  ·simp  [vb,aQD];omega
 | bool=>
  intro cs r h;simp  [l5]at h;split at h
  ·cases h;exact⟨[.bool false],rfl,rfl,⟨hV.2 rfl,rfl⟩,trivial⟩
  grind
 | int k=>
  intro cs r h;simp  [l5]at h;split at h
  ·split at h
   ·rename_i ak;obtain⟨rfl,rfl⟩:=ak;cases h;exact⟨[.int _ 0],rfl,⟨rfl,Ye _⟩,⟨hL.2 ⟨rfl,Ye _⟩,rfl⟩,trivial⟩
   grind
  grind
 | str=>
  intro cs r h;simp only[l5]at h;split at h
  ·rename_i s jM;split at h
   ·rename_i az;cases h;have:s=⟨([]).toArray⟩:=by
     cases s with | mk d=>simp  [ByteArray.size]at az;grind
    subst this;exact⟨[.string ⟨([]).toArray⟩],rfl,⟨rfl,by decide⟩,⟨k7.2 ⟨rfl,by decide⟩,rfl⟩,trivial⟩
   grind
  grind
 | slice e _=>
  intro cs r h;simp  [l5]at h;split at h
  ·cases h;exact⟨[.slice none 0 0],rfl,⟨none,0,rfl,amn _,by decide,λ_=>rfl,λp ai=>by simp⟩,⟨rfl,rfl⟩,trivial⟩
  grind
 | bO e _=>
  intro cs r h;simp  [l5]at h;split at h
  ·cases h;exact⟨[.pointer none],rfl,.inl ⟨rfl,rfl⟩,⟨(ee rfl).2 ⟨rfl,.inl ⟨rfl,rfl⟩⟩,rfl⟩,trivial⟩
  grind
 | map k v _ _=>
  intro cs r h;simp  [l5]at h;split at h
  ·cases h;exact⟨[.map none],rfl,.inl ⟨rfl,rfl⟩,⟨(ee rfl).2 ⟨rfl,.inl ⟨rfl,rfl⟩⟩,rfl⟩,trivial⟩
  grind
 | fn a b _ _=>
  intro cs r h;simp  [l5]at h;split at h
  ·cases h;exact⟨[.nilFunc],rfl,⟨.nilFunc,rfl,⟨rfl,rfl⟩,λF' w' _ _ _ _ args x _ _ az=>(az).elim⟩,⟨rfl,rfl⟩,trivial⟩
  grind
 | cG a _=>
  intro cs r h;simp  [l5]at h;split at h
  ·cases h;exact⟨[.nilFunc],rfl,⟨.nilFunc,rfl,⟨rfl,rfl⟩,λF' w' _ _ _ _ az=>(az).elim λ_ h=>h.elim⟩,⟨rfl,rfl⟩,trivial⟩
  grind
 | eW=>
  intro cs r h;simp  [l5]at h;split at h
  ·cases h;exact⟨[.nilFunc],rfl,rfl,⟨(ee rfl).2 ⟨rfl,rfl⟩,rfl⟩,trivial⟩
  grind
 | cM e _=>
  intro cs r h;simp  [l5]at h;split at h
  ·cases h;exact⟨[.slice none 0 0],rfl,.inl ⟨rfl,rfl⟩,⟨rfl,rfl⟩,trivial⟩
  grind
def n2(P:Program)(t:V)(id:TypeId):Bool:=
 match P.info? id with
 | some i=>i.size == t.size&&decide (i.bytes<=1024)&&(match i.zero with
  | some z=>(match l5 t z.cells.toList with | some []=>true | _=>false)&&(match t,z with
   | .ad _,.agg _=>true
   | .array _ _,.agg _=>true
   | .ad _,_=>false
   | .array _ _,_=>false
   | _,.agg _=>false
   | _,_=>true)
  | none=>false)
 | none=>false
def Yf(P:Program)(t:V)(id:TypeId):Bool:=
 match t with
 | .ar (.bO (.array n .dc)) _=>(match P.underlying n with | some (.pointer i)=>i == id | _=>false)
 | _=>true
def df(P:Program):V->Sum TypeId (List Field×Nat)->Bool
 | .ar a b, .inr (f :: g :: [], off) => f.offset == off && df P a (.inl f.type) && a.size != 0 && f.name != "_" && (g.offset == off + a.size && df P b (.inl g.type) && b.size != 0 && g.name != "_")
 | .ar a b, .inr (f :: g :: h :: gw, off) => f.offset == off && df P a (.inl f.type) && a.size != 0 && f.name != "_" && df P b (.inr (g :: h :: gw, off + a.size))
 | .ad t,.inl id=>(n2 P (.ad t) id&&Yf P t id)&&!P.stoodInHeld id&&!P.eqGuardType P.depth id&&match P.underlying id with
  | some (.struct gw)=>(match gw.toList with
   | []=>decide (t=.dc)
   | [f] => f.offset == 0 && df P t (.inl f.type) && t.size != 0 && f.name != "_"
   | l=>df P t (.inr (l,0)))
  | _=>false
 | .bool,.inl id=>n2 P .bool id&&(match P.underlying id with | some .bool=>true | _=>false)
 | .int k,.inl id=>n2 P (.int k) id&&(match P.underlying id with | some (.int k')=>decide (k'=k) | _=>false)
 | .str,.inl id=>n2 P .str id&&(match P.underlying id with | some .string=>true | _=>false)
 | .slice e,.inl id=>n2 P (.slice e) id&&(match P.underlying id with | some (.slice i)=>df P e (.inl i)&&e.size != 0 | _=>false)
 | .array n e,.inl id=>n2 P (.array n e) id&&(match P.underlying id with | some (.array m i)=>decide (m=n)&&df P e (.inl i)&&e.size != 0 | _=>false)
 | .bO e,.inl id=>n2 P (.bO e) id&&(match P.underlying id with | some (.pointer i)=>(match e with | .array n .dc=>n == id | _=>false)||(df P e (.inl i)&&e.size != 0) | _=>false)
 | .map k v,.inl id=>n2 P (.map k v) id&&(match P.underlying id with | some (.map i j)=>df P k (.inl i)&&df P v (.inl j) | _=>false)
 | .fn a b,.inl id=>n2 P (.fn a b) id&&(match P.underlying id with | some (.func _ _ _)=>true | _=>false)
 | .cG a,.inl id=>n2 P (.cG a) id&&(match P.underlying id with | some (.func _ _ _)=>true | _=>false)
 | .eW,.inl id=>n2 P .eW id&&(match P.underlying id with | some (.func _ _ _)=>true | _=>false)
 | .cM e,.inl id=>n2 P (.cM e) id&&(match P.underlying id with | some (.slice i)=>df P e (.inl i)&&e.size != 0 | _=>false)
 | _,_=>false
def cx(P:Program)(t:V)(id:TypeId):Prop:=df P t (.inl id)=true
theorem cx.nu{t:V}{id:TypeId}(h:cx P t id):n2 P t id=true:=by
 unfold cx at h;cases t<;>simp  [df,aml]at h<;>first | exact h.1.1.1.1 | exact h.1
theorem nv{t:V}{id:TypeId}(h:n2 P t id=true):∃ i z,P.info? id=some i/\i.size=t.size/\i.bytes<=1024/\i.zero=some z/\
  l5 t z.cells.toList=some []/\((∃ cs,z=.agg cs)<->t.isAgg=true):=by
 unfold n2 at h;split at h
 ·rename_i i G;simp  at h;obtain⟨⟨E,L⟩,an⟩:=h;split at an
  ·rename_i z bA;refine⟨i,z,G,E,L,bA,?_,?_⟩
   ·grind
   ·cases t<;>cases z<;>simp_all[V.isAgg]
  grind
 grind
end Go.Fer
namespace Go.Fer
open Go.RowKit
structure ez where
 cy:Prop
 c:Prop
 hn:aL
 jC:List (Nat×b9)
def use:aL->Prop×aL
 | .ks b a=>(b=true,a)
 | a=>(True,a)
def Ad:Value->aL
 | .bool b=>.val .bool b
 | .int k n=>if gM k n then .val (.int k) n else .k8 (.int k n)
 | .string s=>if s.size<1048576 then .val .str s.data.toList else .k8 (.string s)
 | .slice none 0 0=>.dW
 | v=>.k8 v
def bh(aQ:dV)(s:Nat->aL):Operand->aL
 | .tmp t=>s t
 | .const v=>Ad v
 | .func f=>match aQ.tO f with
  | some v=>.val (.fn v.ts v.aS) v.sh
  | none=>.jh f 0 λ_=>.undef
 | .global _=>.undef
structure aO where
 ts:V
 aS:V
 pre:ts.aj->Prop
 g:ts.aj->aS.aj
def kc:(t:V)->t.aj->Nat->aL
 | .ar a _,x,0=>.val a x.1
 | .ar _ b,x,i+1=>kc b x.2 i
 | t,x,0=>.val t x
 | _,_,_+1=>.undef
def jQ:V->Nat
 | .ar _ b=>jQ b+1
 | .dc=>0
 | _=>1
def qV(t:V)(x:t.aj):aL:=
 match t with
 | .ar a b=>.sF (jQ (.ar a b)) (kc (.ar a b) x)
 | .dc=>.k8 (.tuple #[])
 | t=>.val t x
def kd:(t:V)->List aL->aF (Option (t.aj×List Nat))
 | .ar a b,v::aG=>(ej a v).eF λ(x,l)=>(kd b aG).eF λ(y,m)=>.ret (some ((x,y),l++m))
 | .ar _ _,[]=>.none
 | .dc,[]=>.ret (some ((),[]))
 | .dc,_::_=>.none
 | t,[v]=>ej t v
 | _,_=>.none
def ke:List Nat->aF (List (Nat×b9))
 | []=>.ret []
 | b::l=>.fl b λx=>(ke l).bind λr=>match x.body with
  | .bn e xs=>.ret ((b,⟨x.gen,.jz e xs⟩)::r)
  | .mp k v es=>.ret ((b,⟨x.gen,.k9 k v es⟩)::r)
  | .cells t f=>(lf t ((List.range t.size).map f)).bind λo=>.ret (match o with
   | some (y,_,[])=>(b,⟨x.gen,.im t y⟩)::r
   | _=>r)
  | _=>.ret r
def cellsOf(t:V)(av:aL):Option (List aL):=
 match t,av with
 | .ad t,.val (.ad dM) x=>if dM=t then some (p7 dM x) else none
 | .ad t,.agg n f=>if n=t.size then some ((List.range n).map f) else none
 | .array n e,.val (.array kt aZ) x=>if kt=n/\aZ=e then some (p7 (.array kt aZ) x) else none
 | .array n e,.agg m f=>if m=n*e.size then some ((List.range m).map f) else none
 | t,av=>if t.fY then (match av with
  | .val dM _=>if dM.fY then some [av] else none
  | .eX _ _ _ | .own _ _ | .qS _ _ _ _ | .eL _ _ | .hj _ _ | .jh _ _ _ | .dW | .sub _ _ _ _=>some [av]
  | .k8 (.agg _) | .k8 (.tuple _)=>none
  | .k8 _=>some [av]
  | _=>none) else none
def aL.n3:aL->Option (IntKind×Int)
 | .val (.int k) x=>some (k,x)
 | _=>none
def aL.w0:aL->Option (List UInt8)
 | .val .str x=>some x
 | _=>none
def CM(op:BinOp)(k:IntKind)(a b:Int):Option (Prop×aL):=
 match op with
 | .add=>some (True,.val (.int k) (k.wrap (a+b)))
 | .sub=>some (True,.val (.int k) (k.wrap (a - b)))
 | .mul=>some (True,.val (.int k) (k.wrap (a*b)))
 | .quo=>some (b≠0,.val (.int k) (k.wrap (a.tdiv b)))
 | .rem=>some (b≠0,.val (.int k) (a.tmod b))
 | .and=>some (True,.val (.int k) (n0 k a b))
 | .or=>some (True,.val (.int k) (X8 k a b))
 | .xor=>some (True,.val (.int k) (X9 k a b))
 | .andNot=>some (True,.val (.int k) (X_ k a b))
 | .eql=>some (True,.val .bool (decide (a=b)))
 | .neq=>some (True,.val .bool (decide (a≠b)))
 | .lss=>some (True,.val .bool (decide (a<b)))
 | .leq=>some (True,.val .bool (decide (a<=b)))
 | .gtr=>some (True,.val .bool (decide (a > b)))
 | .geq=>some (True,.val .bool (decide (a>=b)))
 | _=>none
def PI(op:BinOp)(k:IntKind)(a b:Int):Option (Prop×aL):=
 match op with
 | .shl=>some (0<=b,.val (.int k) (amN k a b))
 | .shr=>some (0<=b,.val (.int k) (lg k a b))
 | _=>none
def FL(op:BinOp)(a b:List UInt8):Option (Prop×aL):=
 match op with
 | .add=>some (cb (a.length+b.length),.val .str (a++b))
 | .eql=>some (True,.val .bool (decide (a=b)))
 | .neq=>some (True,.val .bool (decide (a≠b)))
 | .lss=>some (True,.val .bool (Op.bytesLess a b))
 | .geq=>some (True,.val .bool (!Op.bytesLess a b))
 | _=>none
def V.nw:V->Nat
 | .ad t=>t.nw+1
 | .ar a b=>max a.nw b.nw
 | _=>1
def FM(op:BinOp)(t:V)(x y:aL):aF (Option (Prop×aL)):=
 (match t,x,y with
 | .bO _,.val (.bO _) p,.k8 (.pointer none)=>.ret (some p.isNone)
 | .bO _,.eL _ _,.k8 (.pointer none)=>.ret (some false)
 | .bO _,.eX b g _,.k8 (.pointer none)=>.fl b λz=>.ret (if z.gen=g&&z.body.hk then some false else none)
 | t,x,y=>if t.oE&&decide (t.nw<=100) then (ej t x).eF λ(a,_)=>(ej t y).eF λ(b,_)=>.ret (some (ji t a b)) else .none:aF (Option Bool)).eF λe=>
 .ret (match op with
  | .eql=>some (True,.val .bool e)
  | .neq=>some (True,.val .bool (!e))
  | _=>none)
def da(cy c:Prop)(v:aL):aF (Option ez):=.ret (some ⟨cy,c,v,[]⟩)
def J5(t:V)(av:aL):aF (Option (Prop×Int)):=
 match t with
 | .slice _=>match av with
  | .val (.slice _) xs=>.ret (some (True,xs.length))
  | .dW=>.ret (some (True,0))
  | .own b g=>.fl b λx=>.ret (if x.gen=g&&x.body.gO then some (True,x.body.len) else none)
  | .sub b g a7 G=>.fl b λx=>.ret (if x.gen=g&&x.body.gO then some (True,((G - a7:Nat):Int)) else none)
  | _=>.none
 | .str=>match av with
  | .val .str xs=>.ret (some (True,xs.length))
  | _=>.none
 | .map _ _=>match av with
  | .val (.map _ _) xs=>.ret (some (cb xs.length,xs.length))
  | .hj b g=>.fl b λx=>.ret (if x.gen=g then (match x.body with | .mp _ _ es=>some (cb es.length,(es.length:Int)) | .k9 _ _ es=>some (cb es.length,(es.length:Int)) | _=>none) else none)
  | _=>.none
 | _=>.none
def CN(t:V):aL->aF (Option aL)
 | .eL dM x=>.ret (if dM=t/\(t.fY||t.isAgg)=true then some (.val dM x) else none)
 | .eX b g off=>.fl b λx=>.ret (if x.gen=g then (match x.body with
   | .cells t0 f=>if t.fY then (if off<t0.size then some (f off) else none) else if t.isAgg then (if off+t.size<=t0.size then some (.agg t.size λi=>f (off+i)) else none) else none
   | .im t0 y=>if t.fY||t.isAgg then (vc t0 y off t).map (.val t) else none
   | _=>none) else none)
 | .qS b g i off=>.fl b λx=>.ret (if x.gen=g then (match x.body with
   | .bn e xs=>if t.fY||t.isAgg then (vc e (xs.getD i e.dU) off t).map (.val t) else none
   | .jz e xs=>if t.fY||t.isAgg then (vc e (xs.getD i e.dU) off t).map (.val t) else none
   | _=>none) else none)
 | _=>.none
def putCells(f:Nat->aL)(off:Nat)(l:List aL):Nat->aL:=λi=>if off<=i/\i<off+l.length then l.getD (i - off) .undef else f i
def Yg(t:V)(p v:aL):aF (Option (List (Nat×b9))):=
 match p with
 | .eX b g off=>.fl b λx=>.ret (if x.gen=g then (match x.body with
   | .cells t0 f=>(cellsOf t v).bind λl=>if off+l.length<=t0.size/\l.length=t.size then some [(b,⟨x.gen,.cells t0 (putCells f off l)⟩)] else none
   | _=>none) else none)
 | .qS b g i off=>(ej t v).eF λ(y,l)=>(ke l).bind λwl=>.fl b λx=>.ret (if x.gen=g/\!l.contains b then (match x.body with
   | .bn e xs=>(Ab e (xs.getD i e.dU) off t y).map λz=>wl++[(b,⟨x.gen,.bn e (xs.set i z)⟩)]
   | _=>none) else none)
 | _=>.none
def Yh(bN:V)(x:aL)(i:Int):aF (Option (Prop×aL)):=
 match x with
 | .val (.slice e) xs=>.ret (if e=bN then some (0<=i/\i<(xs.length:Int),.eL e (n1 e xs i)) else none)
 | .own b g=>.fl b λz=>.ret (if z.gen=g then (match z.body with
   | .bn e xs=>if e=bN then some (0<=i/\i<(xs.length:Int),.qS b g i.toNat 0) else none
   | .jz e xs=>if e=bN then some (0<=i/\i<(xs.length:Int),.eL e (n1 e xs i)) else none
   | _=>none) else none)
 | .sub b g a7 G=>.fl b λz=>.ret (if z.gen=g then (match z.body with
   | .bn e _=>if e=bN then some (0<=i/\i<((G - a7:Nat):Int),.qS b g (a7+i.toNat) 0) else none
   | .jz e xs=>if e=bN then some (0<=i/\i<((G - a7:Nat):Int),.eL e (n1 e xs ((a7:Int)+i))) else none
   | _=>none) else none)
 | .dW=>.ret (some (False,.eL bN bN.dU))
 | _=>.none
def dD:Option Int->Int | some l=>l | none=>0
def fP(n:Nat):Option Int->Int | some h=>h | none=>n
def FN(a7 G:Option Int)(n m:Nat):Nat:=match a7,G with | some _,some _=>m | _,_=>n
def Yi(bN:V)(x:aL)(a7 G:Option Int):aF (Option (Prop×aL)):=
 match x with
 | .val (.slice e) xs=>.ret (if e=bN then some (0<=dD a7/\dD a7<=fP xs.length G/\fP xs.length G<=(xs.length:Int),.val (.slice e) ((xs.take (fP xs.length G).toNat).drop (dD a7).toNat)) else none)
 | .dW=>.ret (some (0<=dD a7/\dD a7<=fP 0 G/\fP 0 G<=0,.dW))
 | .own b g=>.fl b λz=>.ret (if z.gen=g&&z.body.gO&&z.body.gP == bN.size then some (0<=dD a7/\dD a7<=fP z.body.len G/\fP z.body.len G<=(z.body.len:Int),.sub b g (dD a7).toNat (fP z.body.len G).toNat) else none)
 | .sub b g fJ aW=>.fl b λz=>.ret (if z.gen=g&&z.body.gO&&z.body.gP == bN.size then some (0<=dD a7/\dD a7<=fP (aW - fJ) G/\fP (aW - fJ) G<=((FN a7 G (aW - fJ) (z.body.len - fJ):Nat):Int),.sub b g (fJ+(dD a7).toNat) (fJ+(fP (aW - fJ) G).toNat)) else none)
 | _=>.none
def Yj(x:aL)(a7 G:Option Int):Option (Prop×aL):=
 match x with
 | .val .str xs=>some (0<=dD a7/\dD a7<=fP xs.length G/\fP xs.length G<=(xs.length:Int),.val .str ((xs.take (fP xs.length G).toNat).drop (dD a7).toNat))
 | _=>none
def n5(d:Option Nat)(k:Nat->Nat->Option ez):aF (Option ez):=
 match d with
 | none=>.none
 | some d=>.fl d λx=>.ret (k d (x.gen+1))
def FO(d:Option Nat)(e:V)(x y:aL)(cy:Prop):aF (Option ez):=
 match x with
 | .own b g=>.fl b λz=>match (if z.gen=g then z.body else .ev) with
  | .bn aZ xs=>if h:aZ=e then (ej (.slice e) y).eF λ(bq,_)=>.ret (some ⟨cy,cb (xs.length+bq.length),.own b (g+1),[(b,⟨g+1,.bn e ((h ▸ xs)++bq)⟩)]⟩) else .none
  | _=>.none
 | .sub b g a7 G=>.fl b λz=>match (if z.gen=g then z.body else .ev) with
  | .bn aZ xs=>if h:aZ=e then (ej (.slice e) y).eF λ(bq,_)=>.ret (some ⟨cy,cb (((xs.take G).drop a7).length+bq.length),.own b (g+2),[(b,⟨g+2,.bn e ((h ▸ (xs.take G).drop a7)++bq)⟩)]⟩) else .none
  | _=>.none
 | .dW=>(ej (.slice e) y).eF λ(bq,_)=>n5 d λb g=>some ⟨cy,cb bq.length,.own b g,[(b,⟨g,.bn e bq⟩)]⟩
 | .u_ aZ xs=>if h:aZ=e then (ej (.slice e) y).eF λ(bq,_)=>n5 d λb g=>some ⟨cy,0<bq.length/\cb (xs.length+bq.length),.own b g,[(b,⟨g,.bn e ((h ▸ xs)++bq)⟩)]⟩ else .none
 | _=>.none
def J6(t:V):List aL->List (Nat×aL)->Option (List aL)
 | cs,[]=>some cs
 | cs,(i,av)::r=>
  match p8 t i with
  | none=>none
  | some (s,off)=>match cellsOf s av with
   | none=>none
   | some l=>if l.length=s.size/\off+s.size<=cs.length then J6 t (cs.take off++(l++cs.drop (off+s.size))) r else none
def w1(e:V)(bt:List (Nat×aL)):Nat->Nat->aF (Option (List e.aj×List Nat))
 | _,0=>.ret (some ([],[]))
 | i,n+1=>(match bt.find? (λp=>p.1 == i) with
   | some p=>ej e p.2
   | none=>.ret (some (e.dU,[])):aF (Option (e.aj×List Nat))).eF λ(x,l)=>(w1 e bt (i+1) n).eF λ(xs,m)=>.ret (some (x::xs,l++m))
def yk(bt:List (Nat×aL)):Prop:=bt.foldr (λp q=>match p.2 with | .ks b _=>b=true/\q | _=>q) True
def lG(bt:List (Nat×aL)):List (Nat×aL):=bt.map λp=>(p.1,(use p.2).2)
def kf(bt:List aL):Prop:=bt.foldr (λp q=>match p with | .ks b _=>b=true/\q | _=>q) True
def lh(rho:Operand->aL):Option Operand->Option (Prop×Option Int)
 | none=>some (True,none)
 | some x=>match use (rho x) with
  | (o,.val (.int _) n)=>some (o,some n)
  | _=>none
def J7(T:Nat->V)(rho:Operand->aL)(ty:TypeId)(x:Operand)(a7 G:Option Operand):aF (Option ez):=
 let (cz,e8):=use (rho x)
 match lh rho a7,lh rho G with
 | some (ol,l),some (sG,h)=>match T ty with
  | .slice e=>(Yi e e8 l h).eF λ(c,v)=>da (cz/\(ol/\sG)) c v
  | .str=>match Yj e8 l h with
   | some (c,v)=>da (cz/\(ol/\sG)) c v
   | none=>.none
  | _=>.none
 | _,_=>.none
def Yk(bN:V)(x:aL)(a7 G:Option Int)(m:Int):aF (Option (Prop×aL)):=
 match x with
 | .val (.slice e) xs=>.ret (if e=bN then some (0<=dD a7/\dD a7<=fP xs.length G/\fP xs.length G=m/\m<=(xs.length:Int),.u_ e ((xs.take m.toNat).drop (dD a7).toNat)) else none)
 | .dW=>.ret (some (dD a7=0/\fP 0 G=0/\m=0,.u_ bN []))
 | .own b g=>.fl b λz=>.ret (if z.gen=g&&z.body.gO then some (0<=dD a7/\dD a7<=fP z.body.len G/\fP z.body.len G<=m/\m<=(z.body.len:Int),.undef) else none)
 | _=>.none
def J8(T:Nat->V)(rho:Operand->aL)(ty:TypeId)(x:Operand)(a7 G l6:Option Operand):aF (Option ez):=
 let (cz,e8):=use (rho x)
 match lh rho a7,lh rho G,lh rho l6 with
 | some (ol,l),some (sG,some h),some (Ae,some m)=>match T ty with
  | .slice e=>(Yk e e8 l (some h) m).eF λ(c,v)=>da (cz/\(ol/\(sG/\Ae))) c v
  | _=>.none
 | _,_,_=>.none
def FP(T:Nat->V)(rho:Operand->aL)(args:List Operand)(dr:List TypeId):aF (Option ez):=
 match args,dr with
 | [x],[t]=>let (cz,e8):=use (rho x);(J5 (T t) e8).eF λ(c,n)=>da cz c (.val (.int .i64) n)
 | _,_=>.none
def de(s:List UInt8):z1':=s.map λb=>(b.toNat:Int)
def FQ(T:Nat->V)(rho:Operand->aL)(d:Option Nat)(args:List Operand)(dr:List TypeId):aF (Option ez):=
 match args,dr with
 | [x,y],[t,u]=>match T t,T u with
  | .slice e,.slice _=>let (cz,e8):=use (rho x);let (lH,kO):=use (rho y);FO d e e8 kO (cz/\lH)
  | .slice (.int .u8),.str=>let (cz,e8):=use (rho x);let (lH,kO):=use (rho y);match kO with
   | .val .str s=>FO d (.int .u8) e8 (.val (.slice (.int .u8)) (de s)) (cz/\lH)
   | _=>.none
  | _,_=>.none
 | _,_=>.none
def p9(rho:Operand->aL)(k:IntKind):List Operand->Option (Prop×z1')
 | []=>none
 | [x]=>match (use (rho x)).2.n3 with
  | some (k',n)=>if k'=k then some ((use (rho x)).1,[n]) else none
  | none=>none
 | x::l=>match (use (rho x)).2.n3,p9 rho k l with
  | some (k',n),some (cy,jD)=>if k'=k then some ((use (rho x)).1/\cy,n::jD) else none
  | _,_=>none
def Af(rho:Operand->aL)(f:Int->Int->Int)(args:List Operand):aF (Option ez):=
 match args with
 | x::y::l=>match (use (rho x)).2.n3 with
  | some (k,a)=>match p9 rho k (y::l) with
   | some (cy,jD)=>da ((use (rho x)).1/\cy) True (.val (.int k) (jD.foldl f a))
   | none=>.none
  | none=>.none
 | _=>.none
def FR(T:Nat->V)(rho:Operand->aL)(args:List Operand)(dr:List TypeId):aF (Option ez):=
 match args,dr with
 | [x],[t]=>match T t,use (rho x) with
  | .slice _,(cz,.dW)=>da cz True (.val (.int .i64) 0)
  | _,_=>.none
 | _,_=>.none
def p_(t:V):Bool:=match t with | .ar (.slice _) .dc=>true | _=>false
def FT(t:V)(y:t.aj):Option ((e:V)×List e.aj):=match t,y with | .ar (.slice e) .dc,y=>some ⟨e,y.1⟩ | _,_=>none
def J9(br:Nat->Option aO)(rho:Operand->aL)(d:Option Nat)(k:Nat)(args:List Operand):aF (Option ez):=
 let l:=args.map rho
 match br k with
 | some c=>(kd c.ts (l.map λv=>(use v).2)).eF λ(x,b_)=>match FT c.aS (c.g x) with
  | some y=>(ke b_).bind λwl=>n5 d λb g=>if b_.contains b then none else some ⟨kf l,c.pre x,.own b g,wl++[(b,⟨g,.bn y.1 y.2⟩)]⟩
  | none=>(if c.aS.pure then .ret [] else ke b_:aF (List (Nat×b9))).bind λwl=>.ret (some ⟨kf l,c.pre x,qV c.aS (c.g x),wl⟩)
 | none=>.none
def CO{k v:V}(es:List (k.aj×v.aj))(x:k.aj):Option v.aj:=(es.find? λp=>ji k x p.1).map (·.2)
def oG{k v:V}:List (k.aj×v.aj)->k.aj->v.aj->List (k.aj×v.aj)
 | [],x,y=>[(x,y)]
 | p::es,x,y=>if ji k x p.1=true then (p.1,y)::es else p::oG es x y
def yl(k:V):Bool:=k.oE&&decide (k.nw<=100)
def J_(k v:V)(m:aL):aF (Option (List (k.aj×v.aj))):=
 match m with
 | .val t es=>.ret (fA t (.map k v) es)
 | .k8 (.map none)=>.ret (some [])
 | .hj b g=>.fl b λx=>.ret (if x.gen=g then (match x.body with
   | .mp k' iu es=>fA (.map k' iu) (.map k v) es
   | .k9 k' iu es=>fA (.map k' iu) (.map k v) es
   | _=>none) else none)
 | _=>.none
def Yl(v:V)(r:Option v.aj)(ok:Bool):aL:=
 match ok with
 | true=>.sF 2 (hY [.val v (r.getD v.dU),.val .bool r.isSome])
 | false=>.val v (r.getD v.dU)
def CP(T:Nat->V)(rho:Operand->aL)(ty:TypeId)(m x:Operand)(ok:Bool):aF (Option ez):=
 match T ty with
 | .map k v=>let (Ae,PJ):=use (rho m);let (cz,e8):=use (rho x);if yl k&&(v.fY||v.isAgg) then
   (J_ k v PJ).eF λes=>(ej k e8).eF λ(y,_)=>
    da (Ae/\cz) True (Yl v (CO es y) ok)
  else .none
 | _=>.none
def vd(T:Nat->V)(rho:Operand->aL)(ty:TypeId)(m x y:Operand):aF (Option ez):=
 match T ty with
 | .map k v=>let (Ae,PJ):=use (rho m);let (cz,e8):=use (rho x);let (lH,kO):=use (rho y);if yl k then
   match PJ with
   | .hj b g=>(ej k e8).eF λ(x,sH)=>(ej v kO).eF λ(y,lj)=>(ke (sH++lj)).bind λwl=>.fl b λz=>.ret (if z.gen=g/\!(sH++lj).contains b then (match z.body with
     | .mp k' iu es=>(fA (.map k' iu) (.map k v) es).map λes=>⟨Ae/\cz/\lH,True,.undef,wl++[(b,⟨z.gen,.mp k v (oG es x y)⟩)]⟩
     | _=>none) else none)
   | _=>.none
  else .none
 | _=>.none
def J'(T:Nat->V)(rho:Operand->aL)(d:Option Nat)(ty:TypeId)(l c:Operand):aF (Option ez):=
 match T ty with
 | .slice e=>let (ol,amS):=use (rho l);let (ve,amT):=use (rho c);match amS.n3,amT.n3 with
  | some (.i64,n),some (.i64,m)=>n5 d λb g=>some ⟨ol/\ve,0<=n/\n=m/\cb n.toNat,.own b g,[(b,⟨g,.bn e (List.replicate n.toNat e.dU)⟩)]⟩
  | _,_=>.none
 | _=>.none
variable {ag:Type}
def hU(xs:List ag)(a7:Nat)(bq:List ag):List ag:=xs.take a7++bq++xs.drop (a7+bq.length)
def Ka(T:Nat->V)(rho:Operand->aL)(args:List Operand)(dr:List TypeId):aF (Option ez):=
 match args,dr with
 | [x,y],[t,u]=>match T t,T u with
  | .slice e,.slice _=>let (cz,e8):=use (rho x);let (lH,kO):=use (rho y);match (match e8 with | .own b g=>some (b,g,0,none) | .sub b g a7 G=>some (b,g,a7,some G) | _=>none:Option (Nat×Nat×Nat×Option Nat)) with
   | some (b,g,a7,G)=>(ej (.slice e) kO).eF λ(bq,_)=>.fl b λz=>.ret (if z.gen=g then (match z.body with
     | .bn aZ xs=>if h:aZ=e then some ⟨cz/\lH,True,.val (.int .i64) ((min (G.getD xs.length - a7) bq.length:Nat):Int),[(b,⟨z.gen,.bn e (hU (h ▸ xs) a7 (bq.take (G.getD xs.length - a7)))⟩)]⟩ else none
     | _=>none) else none)
   | none=>.none
  | _,_=>.none
 | _,_=>.none
def Ag(rho:Operand->aL)(args:List Operand):Option (Nat×Nat×z21'):=
 match args with
 | [x,y]=>match (use (rho x)).2,(use (rho y)).2 with
  | .sub b g a7 G,.sub bj g' _ _=>if bj=b/\g'=g then some (b,g,a7,G) else none
  | _,_=>none
 | _=>none
def FU(T:Nat->V)(rho:Operand->aL)(args:List Operand)(dr:List TypeId)(b g a7 G:Nat):aF (Option ez):=
 match args,dr with
 | [x,y],[t,u]=>match T t,T u with
  | .slice e,.slice _=>let (cz,_):=use (rho x);let (lH,kO):=use (rho y);(ej (.slice e) kO).eF λ(bq,_)=>.fl b λz=>.ret (if z.gen=g then (match z.body with
    | .bn aZ xs=>if h:aZ=e then some ⟨cz/\lH,G+bq.length<=xs.length,.sub b g a7 (G+bq.length),[(b,⟨z.gen,.bn e (hU (h ▸ xs) G bq)⟩)]⟩ else none
    | _=>none) else none)
  | _,_=>.none
 | _,_=>.none
def FV(T:Nat->V)(rho:Operand->aL)(args:List Operand)(dr:List TypeId):aF (Option ez):=
 match args,dr with
 | [x],[t]=>match T t with
  | .slice e=>let (cz,e8):=use (rho x);match e8 with
   | .sub b g a7 G=>.fl b λz=>.ret (if z.gen=g then (match z.body with
     | .bn aZ xs=>if h:aZ=e then some ⟨cz,True,.undef,[(b,⟨z.gen,.bn e (hU (h ▸ xs) a7 (List.replicate (G - a7) e.dU))⟩)]⟩ else none
     | _=>none) else none)
   | _=>.none
  | _=>.none
 | _,_=>.none
def pe(T:Nat->V)(br:Nat->Option aO)(rho:Operand->aL)(d:Option Nat)(c:Call):aF (Option ez):=
 match c.callee with
 | .builtin b=>match b with
  | .len=>FP T rho c.args.toList c.argTypes.toList
  | .append=>match Ag rho c.args.toList with
   | some (b,g,a7,G)=>FU T rho c.args.toList c.argTypes.toList b g a7 G
   | none=>FQ T rho d c.args.toList c.argTypes.toList
  | .clear=>FV T rho c.args.toList c.argTypes.toList
  | .copy=>Ka T rho c.args.toList c.argTypes.toList
  | .min=>Af rho (λa b=>if b<a then b else a) c.args.toList
  | .max=>Af rho (λa b=>if b > a then b else a) c.args.toList
  | .cap=>FR T rho c.args.toList c.argTypes.toList
  | _=>.none
 | .value f=>match f with
  | .func k=>J9 br rho d k c.args.toList
  | _=>.none
 | _=>.none
def ff(bq:z1'):List UInt8:=bq.map λn=>UInt8.ofNat n.toNat
def Ym(t:V)(cy:Prop)(b g i:Nat):aF (Option ez):=
 .fl b λz=>.ret (match z.body with
  | .h6 _ _ n6 v=>if z.gen=g/\t.fY=true then some ⟨cy,i=n6,v,[]⟩ else none
  | _=>none)
def PK(t:V)(cy:Prop)(b g i:Nat)(v:aL):aF (Option ez):=
 match v with
 | .own bj g'=>.fl b λz=>.ret (match z.body with
  | .h6 e xs n6 _=>if z.gen=g/\t.fY=true then some ⟨cy,i=n6,.undef,[(b,⟨z.gen,.h6 e xs n6 (.own bj g')⟩)]⟩ else none
  | _=>none)
 | _=>.none
def cP(aQ:dV)(T:Nat->V)(br:Nat->Option aO)(rho:Operand->aL)(o:Oper):aF (Option ez):=
 match o.op with
 | .move x=>da True True (rho x)
 | .assign x=>match rho x,T o.type with
  | .dW,.slice e=>n5 o.dst λb g=>some ⟨True,True,.own b g,[(b,⟨g,.bn e []⟩)]⟩
  | v,_=>da True True v
 | .pick c a b=>match use (rho c) with
  | (ve,.val .bool lI)=>match a,b with
   | _,.const (.bool false)=>match use (rho a) with
    | (Yn,.val .bool av)=>da (ve/\(lI=true->Yn)) True (.val .bool (lI&&av))
    | _=>.none
   | .const (.bool true),_=>match use (rho b) with
    | (cy,.val .bool bv)=>da (ve/\(lI=false->cy)) True (.val .bool (lI||bv))
    | _=>.none
   | _,_=>.none
  | _=>.none
 | .binOp op ty x y _=>
  let (cz,e8):=use (rho x)
  let (lH,kO):=use (rho y)
  match e8.n3,kO.n3 with
  | some (k,a),some (k',b)=>(match op with
   | .shl | .shr=>match PI op k a b with
    | some (c,v)=>da (cz/\lH) c v
    | none=>.none
   | _=>if k=k' then (match CM op k a b with
    | some (c,v)=>da (cz/\lH) c v
    | none=>.none) else .none)
  | _,_=>match e8.w0,kO.w0 with
   | some a,some b=>match FL op a b with
    | some (c,v)=>da (cz/\lH) c v
    | none=>.none
   | _,_=>(FM op (T ty) e8 kO).eF λ(c,v)=>da (cz/\lH) c v
 | .unOp op _ x=>match op,use (rho x) with
  | .not,(cz,.val .bool b)=>da cz True (.val .bool (!b))
  | .neg,(cz,.val (.int k) n)=>da cz True (.val (.int k) (k.wrap (0 - n)))
  | _,_=>.none
 | .extract x i=>match use (rho x) with
  | (cz,.sF n f)=>if i<n then da cz True (f i) else .none
  | _=>.none
 | .nilCheck x=>match use (rho x) with
  | (cz,.kM b g i)=>.fl b λz=>.ret (if z.gen=g&&z.body.gO then some ⟨cz,True,.kM b g i,[]⟩ else none)
  | (cz,.eL t d)=>da cz True (.eL t d)
  | (cz,.val (.bO e) p)=>da cz (p.isSome=true) (.eL e (p.getD e.dU))
  | (cz,.eX b g off)=>.fl b λz=>.ret (if z.gen=g&&z.body.hk then some ⟨cz,True,.eX b g off,[]⟩ else none)
  | _=>.none
 | .fieldAddr ty x f=>match T ty with
  | .ad t=>match p8 t f with
   | some (_,Ah)=>match use (rho x) with
    | (cz,.eX b g off)=>.fl b λz=>.ret (if z.gen=g&&z.body.hk then some ⟨cz,True,.eX b g (off+Ah),[]⟩ else none)
    | (cz,.qS b g i off)=>.fl b λz=>.ret (if z.gen=g&&z.body.gO then some ⟨cz,True,.qS b g i (off+Ah),[]⟩ else none)
    | (cz,.kM b g i)=>.fl b λz=>.ret (if z.gen=g&&z.body.gO&&Ah == 0 then some ⟨cz,True,.kM b g i,[]⟩ else none)
    | (cz,.eL (.ad dM) d)=>if dM=t then (match yi dM d f with
     | some ⟨s',y⟩=>da cz True (.eL s' y)
     | none=>.none) else .none
    | _=>.none
   | none=>.none
  | _=>.none
 | .field ty x f=>match T ty with
  | .ad t=>match use (rho x) with
   | (cz,.val (.ad dM) d)=>if dM=t then (match yi dM d f with
     | some ⟨s',y⟩=>da cz True (.val s' y)
     | none=>.none) else .none
   | _=>.none
  | _=>.none
 | .load ty x=>match use (rho x) with
  | (cz,.kM b g i)=>Ym (T ty) cz b g i
  | (cz,e8)=>(CN (T ty) e8).eF λv=>da cz True v
 | .store ty x y=>let (lH,kO):=use (rho y);match use (rho x) with
  | (cz,.kM b g i)=>PK (T ty) (cz/\lH) b g i kO
  | (cz,e8)=>(Yg (T ty) e8 kO).eF λwl=>.ret (some ⟨cz/\lH,True,.undef,wl⟩)
 | .alloc ty=>n5 o.dst λb g=>if T ty=.dc then none else some ⟨True,True,.eX b g 0,[(b,⟨g,.cells (T ty) (hY (vb (T ty)))⟩)]⟩
 | .box ty x=>let (cz,e8):=use (rho x);match cellsOf (T ty) e8 with
  | some l=>n5 o.dst λb g=>if l.length=(T ty).size then some ⟨cz,True,.eX b g 0,[(b,⟨g,.cells (T ty) (hY l)⟩)]⟩ else none
  | none=>.none
 | .build ty bt=>let l:=bt.toList.map λp=>(p.1,rho p.2);match T ty with
  | .ad t=>match J6 t (vb t) (lG l) with
   | some cs=>da (yk l) True (.agg cs.length (hY cs))
   | none=>.none
  | .array m e=>(w1 e (lG l) 0 m).eF λ(xs,b_)=>if (b_.isEmpty&&decide ((lG l).map (·.1)).Nodup&&(lG l).all (λp=>decide (p.1<m)))=true then da (yk l) True (.val (.array m e) xs) else .none
  | _=>.none
 | .buildSlice ty n bt=>let l:=bt.toList.map λp=>(p.1,rho p.2);match T ty with
  | .slice e=>(w1 e (lG l) 0 n).eF λ(xs,b_)=>(ke b_).bind λwl=>n5 o.dst λb g=>if n*e.size<=65536/\(!b_.contains b&&decide ((lG l).map (·.1)).Nodup&&(lG l).all (λp=>decide (p.1<n)))=true then some ⟨yk l,True,.own b g,wl++[(b,⟨g,.bn e xs⟩)]⟩ else none
  | _=>.none
 | .indexAddr ty x i=>let (cz,e8):=use (rho x);let (Ai,PL):=use (rho i);match T ty,PL.n3 with
  | .slice e,some (_,n)=>(Yh e e8 n).eF λ(c,v)=>da (cz/\Ai) c v
  | .array m e,some (_,n)=>match e8 with
   | .eL (.array dw aZ) xs=>if dw=m/\aZ=e then da (cz/\Ai) (0<=n/\n<(m:Int)) (.eL aZ (n1 aZ xs n)) else .none
   | .eX b g off=>.fl b λz=>.ret (if z.gen=g&&z.body.hk then some ⟨cz/\Ai,0<=n/\n<(m:Int),.eX b g (off+n.toNat*e.size),[]⟩ else none)
   | _=>.none
  | _,_=>.none
 | .index ty x i=>let (cz,e8):=use (rho x);let (Ai,PL):=use (rho i);match T ty,e8.w0,PL.n3 with
  | .str,some s,some (_,n)=>da (cz/\Ai) (0<=n/\n<(s.length:Int)) (.val (.int .u8) ((s.getD n.toNat 0).toNat:Int))
  | .array m e,_,some (_,n)=>match e8 with
   | .val (.array dw aZ) xs=>if dw=m/\aZ=e then da (cz/\Ai) (0<=n/\n<(m:Int)) (.val aZ (n1 aZ xs n)) else .none
   | .agg k f=>if k=m*e.size then da (cz/\Ai) (0<=n/\n<(m:Int)) (if e.isAgg=true then .agg e.size (λq=>f (n.toNat*e.size+q)) else f (n.toNat*e.size)) else .none
   | _=>.none
  | _,_,_=>.none
 | .convert a b x=>let (cz,e8):=use (rho x);match T a,T b,e8.n3 with
  | .int _,.int k,some (_,n)=>da cz True (.val (.int k) (k.wrap n))
  | .slice (.int .u8),.str,_=>(ej (.slice (.int .u8)) e8).eF λ(bq,_)=>da cz True (.val .str (ff bq))
  | _,_,_=>.none
 | .makeFunc fn first dP=>match fn with
  | .func k=>let l:=dP.toList.map rho;if first.isEmpty then (match aQ.tP k with
   | some v=>(kd (hW (v.cs.map .bO)) (l.map λv=>(use v).2)).eF λ(y,b_)=>(ke b_).bind λwl=>.ret (some ⟨kf l,True,.val (.fn (hW v.as) v.aS) (λx=>v.sh (JW v.as (v.cs.map .bO) x y)),wl⟩)
   | none=>match aQ.z6 k with
    | some v=>(kd (hW (v.cs.map .bO)) (l.map λv=>(use v).2)).eF λ(y,b_)=>(ke b_).bind λwl=>.ret (some ⟨kf l,True,.val (.cG v.aI) (v.S y),wl⟩)
    | none=>da (kf l) True (.jh k l.length (hY (l.map λv=>(use v).2)))) else (if dP.isEmpty then da (kf (first.toList.map rho)) True (.u9 k first.size (hY ((first.toList.map rho).map λv=>(use v).2))) else .none)
  | _=>.none
 | .makeMap ty r=>if r.isSome then .none else match T ty with
  | .map k v=>n5 o.dst λb g=>some ⟨True,True,.hj b g,[(b,⟨g,.mp k v []⟩)]⟩
  | _=>.none
 | .lookup ty m x ok=>CP T rho ty m x ok
 | .mapUpdate ty m x y=>vd T rho ty m x y
 | .insert ty m x y=>vd T rho ty m x y
 | .makeSlice ty l c=>J' T rho o.dst ty l c
 | .makeInterface _ _=>da True False .undef
 | .panic _=>da True False .undef
 | .slice ty x a7 G l6=>if l6.isSome then J8 T rho ty x a7 G l6 else J7 T rho ty x a7 G
 | .call c=>pe T br rho o.dst c
 | _=>.none
def cQ(m:List (Nat×List ag))(id:Nat):List ag:=match m.find? (λp=>p.1 == id) with
 | some p=>p.2
 | none=>[]
def eT(m:List (Nat×List ag))(id i:Nat)(d:ag):List (Nat×List ag):=m.map λp=>if p.1=id then (p.1,p.2.set i d) else p
def Aj(e:V):b'->Option (List (Nat×List e.aj))
 | .bR aZ m=>if h:aZ=e then some (h ▸ m) else none
 | _=>none
def gx(e:V)(m:List (Nat×List e.aj)):(t:V)->t.aj->t.iI.aj
 | .cM aZ,x=>if h:aZ=e then h ▸ ((cQ m x.1).drop x.2.1).take x.2.2 else []
 | .ad t,x=>gx e m t x
 | .ar a b,x=>(gx e m a x.1,gx e m b x.2)
 | .slice t,xs=>xs.map (gx e m t)
 | .bool,x=>x
 | .int _,x=>x
 | .str,x=>x
 | .dc,x=>x
 | .array _ _,x=>x
 | .bO _,x=>x
 | .map _ _,x=>x
 | .fn _ _,x=>x
 | .cG _,x=>x
 | .eW,x=>x
def n7(e:V)(m:List (Nat×List e.aj)):(t:V)->t.aj->Prop
 | .cM aZ,x=>aZ=e/\m.any (λp=>p.1 == x.1)=true/\x.2.1+x.2.2<=(cQ m x.1).length
 | .ad t,x=>n7 e m t x
 | .ar a b,x=>n7 e m a x.1/\n7 e m b x.2
 | .slice t,xs=>∀ x∈(xs:List t.aj),n7 e m t x
 | _,_=>True
def PM(rho:Operand->aL)(c:X5)(args:List Operand):aF (Option ez):=
 (kd c.nX ((args.map rho).map λv=>(use v).2)).bind λr=>match r with
 | some (x,b_)=>.fl cF λz=>match Aj c.e z.body with
  | some m=>(if (c.aS.pure||c.tN)=true then .ret [] else ke b_:aF (List (Nat×b9))).bind λwl=>
  .ret (some ⟨kf (args.map rho),n7 c.e m c.nX x/\c.pre (gx c.e m c.nX x),qV c.aS (c.g (gx c.e m c.nX x)),if (c.aS.pure||c.tN)=true then [] else wl++[(cF,⟨z.gen,.ev⟩)]⟩)
  | none=>.none
 | none=>(kd c.nX.iI ((args.map rho).map λv=>(use v).2)).eF λ(x,b_)=>(if c.aS.pure then .ret [] else ke b_:aF (List (Nat×b9))).bind λwl=>.ret (some ⟨kf (args.map rho),c.pre x,qV c.aS (c.g x),wl⟩)
def e1(aQ:dV)(T:Nat->V)(rho:Operand->aL)(o:Oper):Option (aF (Option ez)):=
 match o.op with
 | .load ty x=>match use (rho x) with
  | (cz,.ye (.int k) id i)=>some (.fl cF λz=>.ret (match Aj (.int k) z.body with
    | some m=>if T ty=.int k then some ⟨cz,i<(cQ m id).length,.val (.int k) ((cQ m id).getD i 0),[]⟩ else none
    | none=>none))
  | _=>none
 | .store ty x y=>match use (rho x) with
  | (cz,.ye (.int k) id i)=>match use (rho y) with
   | (lH,.val (.int k') d)=>some (.fl cF λz=>.ret (match Aj (.int k) z.body with
    | some m=>if T ty=.int k/\k'=k then some ⟨cz/\lH,i<(cQ m id).length,.undef,[(cF,⟨z.gen,.bR (.int k) (eT m id i d)⟩)]⟩ else none
    | none=>none))
   | _=>none
  | _=>none
 | .indexAddr ty x i=>match use (rho x) with
  | (cz,.val (.cM e) r)=>match (use (rho i)).2.n3 with
   | some (_,n)=>some (.ret (if T ty=.cM e then some ⟨cz/\(use (rho i)).1,0<=n/\n<(r.2.2:Int),.ye e r.1 (r.2.1+n.toNat),[]⟩ else none))
   | none=>none
  | _=>none
 | .slice ty x a7 G l6=>match use (rho x) with
  | (cz,.val (.cM e) r)=>match lh rho a7,lh rho G,l6 with
   | some (ol,l),some (sG,h),none=>some (.ret (if T ty=.cM e then some ⟨cz/\(ol/\sG),0<=dD l/\dD l<=fP r.2.2 h/\fP r.2.2 h<=(r.2.2:Int),.val (.cM e) (r.1,r.2.1+(dD l).toNat,(fP r.2.2 h).toNat - (dD l).toNat),[]⟩ else none))
   | _,_,_=>none
  | _=>none
 | .call c=>match c.callee with
  | .builtin .len=>match c.args.toList,c.argTypes.toList with
   | [x],[t]=>match use (rho x) with
    | (cz,.val (.cM e) r)=>some (.ret (if T t=.cM e then some ⟨cz,True,.val (.int .i64) (r.2.2:Int),[]⟩ else none))
    | _=>none
   | _,_=>none
  | .builtin .unsafeSliceData=>match c.args.toList with
   | [x]=>match use (rho x) with
    | (cz,.own b g)=>some (.fl b λz=>.ret (match z.body with
     | .bn _ _=>if z.gen=g/\T o.type=.bO (.int .u8) then some ⟨cz,True,.z8 b g,[]⟩ else none
     | _=>none))
    | _=>none
   | _=>none
  | .builtin .unsafeString=>match c.args.toList,c.argTypes.toList with
   | [x,n],[sI,_]=>match use (rho x),use (rho n) with
    | (cz,.z8 b g),(on,.val (.int .i64) m)=>some (.fl b λz=>.ret (match z.body with
     | .bn (.int .u8) xs=>if z.gen=g/\T sI=.bO (.int .u8) then some ⟨cz/\on,m=(List.length xs:Int),.val .str (ff xs),[(b,⟨z.gen,.ev⟩)]⟩ else none
     | _=>none))
    | _,_=>none
   | _,_=>none
  | .value (.func k)=>(aQ.z7 k).map λgl=>PM rho gl c.args.toList
  | _=>none
 | _=>none
def iv(aQ:dV)(T:Nat->V)(br:Nat->Option aO)(rho:Operand->aL)(o:Oper):aF (Option ez):=
 match e1 aQ T rho o with
 | some r=>r
 | none=>cP aQ T br rho o
def eY(r:Option Nat):Fence:={ Fence.wide with round:=r }
section
variable {P:Program} {w:World}
variable {t:TypeId}
theorem en{d:TypeDesc}(h:P.underlying t=some d):(underlying t).run P w=.ok d w:=by simp[underlying,h]
variable {i:TypeInfo}
theorem FW(h:P.info? t=some i):(typeInfo t).run P w=.ok i w:=by simp[typeInfo,h]
theorem tS(h:P.info? t=some i):(sizeOf t).run P w=.ok i.size w:=by simp[sizeOf,FW h]
theorem sJ{z:Value}(h:P.info? t=some i)(bA:i.zero=some z):(zeroValue t).run P w=.ok z w:=by simp[zeroValue,FW h,bA]
theorem cx.size{t:V}{id:TypeId}(h:cx P t id):(sizeOf id).run P w=.ok t.size w:=by
 obtain⟨i,z,E,L,_⟩:=nv h.nu;rw[tS E,L]
variable {t:V}{id:TypeId}
theorem cx.ad(h:cx P (.ad t) id):∃ gw,P.underlying id=some (.struct gw):=by
 unfold cx at h;simp  [df]at h;grind
theorem cx.sl{e:V}(h:cx P (.slice e) id):∃ i,P.underlying id=some (.slice i)/\cx P e i/\e.size≠0:=by
 unfold cx at h;simp  [df]at h;obtain⟨_,h⟩:=h;split at h
 ·rename_i i G;simp  at h;exact⟨i,G,h.1,h.2⟩
 grind
theorem amU:∀ (t:V) {l:List Field} {Kb f off:Nat} {s:V},df P t (.inr (l,Kb))=true->p8 t f=some (s,off)->
  ∃ qa,l[f]?=some qa/\qa.offset=Kb+off/\cx P s qa.type/\s.size≠0:=by
 intro t;induction t with
 | ar a b hi gj=>
  intro l Kb f off s h ay;match l,h with
  | [],h=>simp  [df]at h
  | [x],h=>simp  [df]at h
  | [x,y],h=>
   simp  [df,ne_eq]at h;obtain⟨⟨⟨⟨E,L⟩,an⟩,_⟩,⟨⟨a6,bS⟩,ek⟩,_⟩:=h;cases f with
   | zero=>obtain⟨rfl,rfl⟩:=ay;exact⟨x,rfl,E,L,an⟩
   | succ f=>
    simp only[p8,aP9]at ay;obtain⟨⟨s',f_⟩,ay,rfl,rfl⟩:=ay;have U:∃ u,p8 b f=some u/\f=0/\u=(b,0):=by
     cases b<;>cases f<;>simp only[p8,reduceCtorEq]at ay<;>first
      | exact⟨_,ay,rfl,by cases ay;rfl⟩
      | (simp  [df]at bS)
    obtain⟨u,hu,rfl,rfl⟩:=U;rw[hu]at ay;cases ay;exact⟨y,rfl,by omega,bS,ek⟩
  | x::y::z::l,h=>
   simp  [df,ne_eq]at h;obtain⟨⟨⟨⟨E,L⟩,an⟩,_⟩,a6⟩:=h;cases f with
   | zero=>obtain⟨rfl,rfl⟩:=ay;exact⟨x,rfl,E,L,an⟩
   | succ f=>
    simp  [p8,aPK]at ay;grind
 | _=>intro l Kb f off s h _;simp only[df,aml]at h
theorem cx.field{s:V}{id f off:Nat}(h:cx P (.ad t) id)(ay:p8 t f=some (s,off)) :
  ∃ gw qa,P.underlying id=some (.struct gw)/\gw[f]?=some qa/\qa.offset=off/\cx P s qa.type/\s.size≠0:=by
 unfold cx at h;simp  [df]at h;obtain⟨_,h⟩:=h;split at h
 ·rename_i gw mv;refine⟨gw,?_⟩;have f':∀ {qa},gw.toList[f]?=some qa->gw[f]?=some qa:=λh=>by grind
  split at h
  ·rw[aP4 h]at ay;cases f<;>cases ay
  ·rename_i x ah;simp  at h;have U:f=0/\(s,off)=(t,0):=by
    cases t<;>cases f<;>simp only[p8,reduceCtorEq]at ay<;>first
     | exact⟨rfl,by cases ay;rfl⟩
     | (have:=h.1.1.2;simp  [df]at this)
   obtain⟨rfl,U⟩:=U;cases U;exact⟨x,mv,f' (by grind),h.1.1.1,h.1.1.2,h.1.2⟩
  ·obtain⟨qa,aM,aT,b5⟩:=amU t h ay;grind
 grind
def mP(w:World)(p:Addr)(cs:List Value):Prop:=(0<cs.length->p.spot=none)/\∀ j (h:j<cs.length),w.cell? ⟨p.block,p.off+j,none⟩=some cs[j]
variable {p:Addr}{cs:List Value}
theorem Holds.PN{F:Nat->Prop}(h:Holds F w p cs):mP w p cs:=⟨λ_=>h.2.1,h.2.2⟩
theorem CQ(h:mP w p cs):(loadCells p cs.length).run P w=.ok cs.toArray w:=by
 obtain⟨az,hc⟩:=h;refine run_loadCells_list w p cs λj v aK=>?_;have ai:p=⟨p.block,p.off,none⟩:=by cases p;grind
 have FX:p.add j=⟨p.block,p.off+j,none⟩:=by
  unfold Addr.add;grind
 grind
theorem CR(h:cx P t id):(isAgg id).run P w=.ok t.isAgg w:=by
 unfold cx at h;unfold isAgg;cases t<;>simp  [df,aml]at h<;>(obtain⟨_,h⟩:=h;split at h)<;>
  first
   | (rename_i hu;simp[en hu,V.isAgg];done)
   | (cases h;done)
   | (rename_i hu;simp[en hu,V.isAgg])
theorem Kc{F:Nat->Prop}{x:t.aj}(h:cx P t id)(dh:mP w p cs)(al:cw P t F w cs x) :
  ∃ v,(loadVar id p).run P w=.ok v w/\fr P t F w v x:=by
 have hlen:=jN t al;by_cases aY:t.isAgg=true
 ·refine⟨.agg cs.toArray,?_,?_,by simpa [Value.cells]using al⟩
  ·have:=CQ (P:=P) dh;rw[hlen]at this;simp[loadVar,CR h,aY,h.size,this]
  ·cases t<;>simp  [V.isAgg]at aY
   ·exact⟨cs.toArray,rfl,by simpa [V.size]using hlen⟩
   ·exact⟨cs.toArray,rfl,by simpa [V.size]using hlen⟩
 ·have ah:t.fY=true:=by
   cases t<;>simp  [V.isAgg]at aY<;>first | rfl | (unfold cx at h;simp  [df]at h)
  obtain⟨u,rfl,hu⟩:=JV ah al;refine⟨u,?_,(ee ah).2 ⟨hu,al⟩⟩;have hc:=dh.2 0 (by simp);have ai:p=⟨p.block,p.off+0,none⟩:=by have:=dh.1 (by simp);cases p;grind
  rw[<-ai]at hc;simp[loadVar,CR h,aY,hc]
end
section
variable {r:Option Nat} {P:Program} {o:Oper} {a:Act} {w w':World} {K:Act->World->Prop} {Q:Exit->Act->World->Prop}
theorem CS(ax:∀ c,o.op≠.defer c):o.semAt (eY r).round a.eval=execOp a.eval o:=Oper.semAt_eq _ _ _ ax
variable {v:Value}
theorem h7(ax:∀ c,o.op≠.defer c)(h:(execOp a.eval o).run P w=.ok (.value v) w')(ak:K (a.put o.dst v) w'):o.wpIn (eY r) 0 P a w K Q:=by
 refine⟨λ_ _=>trivial,?_⟩;rw[CS ax,h];exact ak
theorem FY(ax:∀ c,o.op≠.defer c)(h:(execOp a.eval o).run P w=.ok .skip w')(ak:K (a.put o.dst Go.undef) w'):o.wpIn (eY r) 0 P a w K Q:=by
 refine⟨λ_ _=>trivial,?_⟩;rw[CS ax,h];exact ak
end
def aB.iw(s:aB):List (Nat×b9)->aB
 | []=>s
 | p::l=>(s.ct p.1 p.2).iw l
def aB.jE(s:aB)(d:Option Nat)(res:ez):aB:=(s.iw res.jC).set d res.hn
def cR(C:cH)(o:Oper)(s:aB)(res:ez):Prop:=
 ∀ a w kap F Q,bu C s a w kap F->res.cy->res.c->o.wpIn (eY C.r) 0 C.P a w (λa' w'=>dd C (s.jE o.dst res) a' w') Q
theorem cR.pure{C:cH}{o:Oper}{s:aB}{cy c:Prop}{hn:aL}(ax:∀ c,o.op≠.defer c)(bo:∀ i,o.dst=some i->i<C.bZ)
  (h:∀ a w kap F,bu C s a w kap F->cy->c->∃ v,(execOp a.eval o).run C.P w=.ok (.value v) w/\bM C.P s.aa kap F w hn v):cR C o s ⟨cy,c,hn,[]⟩:=by
 intro a w kap F Q D bb hc;obtain⟨v,E,L⟩:=h a w kap F D bb hc;exact h7 ax E ⟨kap,F,D.set bo L⟩
section
variable {P:Program} {H:Nat->b9} {kap:Nat->bL} {F:Nat->Prop} {w:World}
theorem qW{av:aL}{v:Value}(h:bM P H kap F w av v)(hu:(use av).1):bM P H kap F w (use av).2 v:=by
 cases av<;>first | exact h | exact h.1 hu
theorem amV(v:Value):bM P H kap F w (Ad v) v:=by
 unfold Ad;split
 ·exact hV.2 rfl
 ·split
  ·rename_i h;exact hL.2 ⟨rfl,h⟩
  ·rfl
 ·split
  ·rename_i s h;refine k7.2 ⟨by simp,?_⟩;have:s.data.toList.length=s.size:=by rfl
   omega
  ·rfl
 ·rfl
 ·rfl
theorem lJ{C:cH}{s:aB}{a:Act}{w:World}{kap:Nat->bL}{F:Nat->Prop}(h:bu C s a w kap F)(x:Operand):bM C.P s.aa kap F w (bh C.aX s.aA x) (a.eval x):=by
 cases x with
 | tmp t=>
  exact h.b1 t
 | const v=>exact amV v
 | func f=>
  show bM _ _ _ _ _ (match C.aX.tO f with | some v=>.val (.fn v.ts v.aS) v.sh | none=>.jh f 0 λ_=>.undef) (.func (.func f) #[] #[]);split
  ·rename_i v af;exact (ee rfl).2 ⟨rfl,amG (h.j1.tO f v af) F w⟩
  ·exact⟨[],rfl,rfl,λi G=>by omega⟩
 | global g=>trivial
variable {k:IntKind}
theorem qb{av:aL}{v:Value}{n:Int}(h:bM P H kap F w av v)(G:av.n3=some (k,n)):v=.int k n/\gM k n:=by
 unfold aL.n3 at G;split at G
 ·cases G;exact hL.1 h
 grind
theorem PO{av:aL}{v:Value}{s:List UInt8}(h:bM P H kap F w av v)(G:av.w0=some s):v=.string ⟨s.toArray⟩/\s.length<2 ^ 63:=by
 unfold aL.w0 at G;split at G
 ·cases G;exact k7.1 h
 grind
end
theorem sK(k:IntKind)(n:Int):gM k (k.wrap n):=by
 unfold gM IntKind.wrap;have E:=Int.emod_nonneg n (b:=2 ^ k.bits) (by cases k<;>decide);have L:=Int.emod_lt_of_pos n (b:=2 ^ k.bits) (by omega);cases k<;>simp  [IntKind.min,IntKind.max,IntKind.signed,IntKind.bits,Int.reducePow]at E L ⊢<;>first
  | (constructor<;>split<;>first | (rename_i hc;have hc:=aP4 hc;omega) | (rename_i hc;have hc:=mt aP5 hc;omega))
  | omega
theorem amW{k:IntKind}{a b:Int}(aY:gM k a):gM k (a.tmod b):=by
 unfold gM at *
 have E:k.min<=0/\0<=k.max:=by cases k<;>decide
 have L:=Int.natAbs_tmod a b;have an:=Nat.mod_le a.natAbs b.natAbs;rcases Int.le_total 0 a with h | h
 ·have:=Int.tmod_nonneg b h;omega
 ·have a6:=Int.neg_tmod a b;have:=Int.tmod_nonneg b (a:=-a) (by omega);omega
end Go.Fer
namespace Go.Fer
open Go.RowKit
variable {P:Program}{w:World}{t:V}{id:TypeId}{cs:Array Value}
theorem Yo(h:cx P t id)(ah:t.isAgg=false){off:Nat}{v:Value}(af:cs[off]?=some v) :
  (part id cs off).run P w=.ok v w:=by
 simp[part,CR h,ah,af]
theorem Yp(h:cx P t id)(ah:t.isAgg=true){off:Nat} :
  (part id cs off).run P w=.ok (.agg (cs.extract off (off+t.size))) w:=by
 simp[part,CR h,ah,h.size]
theorem tT{F:Nat->Prop}(h:cx P t id){p c q:List Value}{x:t.aj}(qX:cs.toList=p++(c++q))(hc:cw P t F w c x) :
  ∃ v,(part id cs p.length).run P w=.ok v w/\fr P t F w v x:=by
 have hlen:=jN t hc;by_cases aY:t.isAgg=true
 ·refine⟨_,Yp h aY,?_⟩;have he:(cs.extract p.length (p.length+t.size)).toList=c:=by
   simp_all
  have af:(Value.agg (cs.extract p.length (p.length+t.size))).cells.toList=c:=he;refine⟨?_,by grind⟩;cases t<;>simp  [V.isAgg]at aY
  ·exact⟨_,rfl,by grind [V.size]⟩
  ·exact⟨_,rfl,by grind [V.size]⟩
 ·have ah:t.fY=true:=by
   cases t<;>simp  [V.isAgg]at aY<;>first | rfl | grind [cx,df]
  obtain⟨u,rfl,hu⟩:=JV ah hc;refine⟨u,Yo h (by grind) ?_,(ee ah).2 ⟨hu,hc⟩⟩;rw[<-aP2,qX];simp
theorem cx.FZ(h:cx P (.ad t) id):P.stoodInHeld id=false/\P.eqGuardType P.depth id=false/\
  (df P t (.inr ((P.fieldsOf id).toList, 0)) = true \/ (∃ f, (P.fieldsOf id).toList = [f] /\ f.offset = 0 /\ cx P t f.type /\ f.name ≠ "_") \/ (t = .dc /\ (P.fieldsOf id).toList = [])) /\ P.underlying id = some (.struct (P.fieldsOf id)) := by
 grind [cx,df,Program.fieldsOf]
theorem PQ{F:Nat->Prop}:∀ (t:V) (d:Nat),t.oE=true->t.nw<=d->
  (∀ {id:TypeId} {v u:Value} {x y:t.aj},cx P t id->fr P t F w v x->fr P t F w u y->(Op.equalIn d id v u).run P w=.ok (ji t x y) w)/\
  (∀ {l:List Field} {off:Nat} {xs bq:Array Value} {p c q p' gl q':List Value} {x y:t.aj},df P t (.inr (l,off))=true->xs.toList=p++(c++q)->p.length=off->cw P t F w c x->
   bq.toList=p'++(gl++q')->p'.length=off->cw P t F w gl y->(Op.eqFields d xs bq l).run P w=.ok (ji t x y) w):=by
 intro t;induction t with
 | bool=>
  intro d _ ax;refine⟨λ{id v u x y} h E L=>?_,λh=>by simp[df]at h⟩;rw[hV.1 E,hV.1 L];obtain⟨d,rfl⟩:∃ e,d=e+1:=⟨d - 1,by grind [V.nw]⟩
  unfold cx at h;simp  [df]at h;split at h
  ·rename_i hu;rw[run_equalIn_bool' w d id x y hu];rfl
  grind
 | int k=>
  intro d _ ax;refine⟨λ{id v u x y} h E L=>?_,λh=>by simp[df]at h⟩;rw[(hL.1 E).1,(hL.1 L).1];obtain⟨d,rfl⟩:∃ e,d=e+1:=⟨d - 1,by grind [V.nw]⟩
  unfold cx at h;simp  [df]at h;split at h
  ·rename_i hu;rw[run_equalIn_int w d id k _ x y hu];rfl
  grind
 | str=>
  intro d _ ax;refine⟨λ{id v u x y} h E L=>?_,λh=>by simp[df]at h⟩;rw[(k7.1 E).1,(k7.1 L).1];obtain⟨d,rfl⟩:∃ e,d=e+1:=⟨d - 1,by grind [V.nw]⟩
  grind [cx,df,run_equalIn_string,ByteArray.toList_eq,ji]
 | dc=>intro d h;cases h
 | slice e _=>intro d h;cases h
 | array n e _=>intro d h;cases h
 | bO e _=>intro d h;cases h
 | map k v _ _=>intro d h;cases h
 | fn a b _ _=>intro d h;cases h
 | cG a _=>intro d h;cases h
 | eW=>intro d h;cases h
 | cM e _=>intro d h;cases h
 | ar a b hi gj=>
  intro d hc ax;simp  [V.oE]at hc;simp  [V.nw]at ax;have PR:=hi d hc.1 (by omega);have rF:=gj d hc.2 (by omega);refine⟨λh=>by unfold cx at h;simp[df]at h,?_⟩;intro l off xs bq p c q p' gl q' x y h al ai tU ba Ak F0;obtain⟨bG,c2,rfl,aM,aT⟩:=tU;obtain⟨d1,d2,rfl,m1,m2⟩:=F0;have fq:=jN a aM;have gD:=jN a m1;have step : ∀ (f : Field) (b8 : List Field), f.offset = off -> cx P a f.type -> f.name ≠ "_" ->
    (Op.eqFields d xs bq (f::b8)).run P w=if ji a x.1 y.1=true then (Op.eqFields d xs bq b8).run P w else .ok false w:=by
   intro f b8 au ay aC;obtain⟨v,cq,c7⟩:=tT (cs:=xs) (p:=p)   (q:=c2++q) ay (by grind) aM;obtain⟨u,s1,s2⟩:=tT (cs:=bq) (p:=p')   (q:=d2++q') ay (by grind) m1;simp  [Op.eqFields,aC,Sem.run_bind];rw[au,<-ai,cq,Result.andThen_ok,ai,<-Ak,s1,Result.andThen_ok,PR.1 ay c7 s2];cases ji a x.1 y.1<;>simp
  match l,h with
  | [],h=>simp  [df]at h
  | [f],h=>simp  [df]at h
  | [f,g],h=>
   simp  [df,ne_eq]at h;obtain⟨⟨⟨⟨E,L⟩,an⟩,a6⟩,⟨⟨⟨bS,ek⟩,iQ⟩,k6⟩⟩:=h;rw[step f [g] E L a6];obtain⟨v,cq,c7⟩:=tT (cs:=xs) (p:=p++bG)   (q:=q) ek (by grind) aT;obtain⟨u,s1,s2⟩:=tT (cs:=bq) (p:=p'++d1)   (q:=q') ek (by grind) m2;have aE:(p++bG).length=g.offset:=by grind
   have bz:(p'++d1).length=g.offset:=by grind
   rw[aE]at cq;rw[bz]at s1;simp  [Op.eqFields,cq,s1,rF.1 ek c7 s2,ji];grind
  | f::g::i::l,h=>
   simp  [df,ne_eq]at h;obtain⟨⟨⟨⟨E,L⟩,an⟩,a6⟩,bS⟩:=h;rw[step f _ E L a6,rF.2 bS (p:=p++bG)   (q:=q) (p':=p'++d1)   (q':=q') (by grind) (by grind) aT (by grind) (by grind) m2];simp  [ji];grind
 | ad t aP=>
  intro d hc ax;simp  [V.nw]at ax;obtain⟨d,rfl⟩:∃ e,d=e+1:=⟨d - 1,by omega⟩
  refine⟨λ{id v u x y} h E L=>?_,λh=>by simp[df]at h⟩;have i:=aP d hc (by omega);obtain⟨aE,bz,c_,bV⟩:=h.FZ;obtain⟨⟨xs,rfl,kg⟩,tU⟩:=E;obtain⟨⟨bq,rfl,l7⟩,F0⟩:=L;simp  [Value.cells]at tU F0;rw[run_equalIn_struct w d id xs bq bV aE];rcases c_ with c_ | ⟨f,c_,ey,mq,CT⟩ | ⟨rfl,c_⟩
  ·exact i.2 c_ (p:=[])   (q:=[]) (p':=[])   (q':=[]) (by simp) rfl tU (by simp) rfl F0
  ·rw[c_];obtain⟨v,cq,c7⟩:=tT (cs:=xs) (p:=[])   (q:=[]) mq (by simp) tU;obtain⟨u,s1,s2⟩:=tT (cs:=bq) (p:=[])   (q:=[]) mq (by simp) F0;simp  at cq s1;simp  [Op.eqFields,CT,ey,cq,s1,i.1 mq c7 s2,ji];cases ji t x y<;>simp
  ·cases hc
variable {k:IntKind}{a:Int}{b:Int}
theorem amX(aY:gM k a):gM k (lg k a b):=by
 unfold gM at *
 unfold lg;have E:k.min<=0/\0<=k.max:=by cases k<;>decide
 generalize min b.toNat k.bits=n;have ai:(0:Int)<2 ^ n:=Int.pow_pos (by decide);rw[Int.fdiv_eq_ediv_of_nonneg _ (Int.le_of_lt ai)];rcases Int.le_total 0 a with h | h
 ·have L:=Int.ediv_nonneg h (Int.le_of_lt ai);have an:=Int.ediv_le_self (2 ^ n) h;omega
 ·have L:a / 2 ^ n<=0:=by
   have:=Int.ediv_le_ediv ai h;simp_all
  have an:a<=a / 2 ^ n:=by
   rw[Int.le_ediv_iff_mul_le ai];have a6:(1:Int)<=2 ^ n:=by omega
   have:=Int.mul_le_mul_of_nonpos_left   h a6;omega
  omega
theorem Yq(op:BinOp)(t:TypeId)(x y:Operand)(k k':IntKind)(a b:Int):(eqGuard op t x y (.int k a) (.int k' b)).run P w=.ok () w:=by
 simp_all[eqGuard]
theorem amY(op:BinOp)(t:TypeId)(x y:Operand)(a b:ByteArray):(eqGuard op t x y (.string a) (.string b)).run P w=.ok () w:=by
 simp_all[eqGuard]
theorem amZ(op:BinOp)(t:TypeId)(x y:Operand)(a b:Bool):(eqGuard op t x y (.bool a) (.bool b)).run P w=.ok () w:=by
 simp_all[eqGuard]
theorem am0(op:BinOp)(t:TypeId)(x y:Operand)(a b:Option Addr):(eqGuard op t x y (.pointer a) (.pointer b)).run P w=.ok () w:=by
 simp_all[eqGuard]
section
variable {P:Program} {H:Nat->b9} {kap:Nat->bL} {F:Nat->Prop} {w:World}
variable {t:TypeId}{v:aL}{c:Prop}{op:BinOp}
theorem am1(h:CM op k a b=some (c,v))(hc:c)(aY:gM k a) :
  ∃ u,(binOp op t (.int k a) (.int k b)).run P w=.ok u w/\bM P H kap F w v u:=by
 cases op<;>simp only[CM]at h<;>obtain⟨rfl,rfl⟩:=h<;>simp only[bM];case add=>simp_all[binOp,Op.intArith,hL,sK]
 case sub=>simp_all[binOp,Op.intArith,hL,sK]
 case mul=>simp_all[binOp,Op.intArith,hL,sK]
 case quo=>simp_all[binOp,Op.intDiv,hL,sK]
 case rem=>simp_all[binOp,Op.intDiv,hL,amW]
 case and=>simp_all[n0,binOp,Op.intBits,hL,sK]
 case or=>simp_all[X8,binOp,Op.intBits,hL,sK]
 case xor=>simp_all[X9,binOp,Op.intBits,hL,sK]
 case andNot=>simp_all[X_,binOp,Op.intBits,hL,sK]
 case eql=>exact⟨.bool (a == b),by simp[binOp,Op.intCmp],hV.2 (congrArg Value.bool (by rfl))⟩
 case neq=>exact⟨.bool (a != b),by simp[binOp,Op.intCmp],hV.2 (congrArg Value.bool (by grind))⟩
 case lss=>simp_all[binOp,Op.intCmp]
 case leq=>simp_all[binOp,Op.intCmp]
 case gtr=>simp_all[binOp,Op.intCmp]
 simp_all[binOp,Op.intCmp]
theorem Yr{k':IntKind}(h:PI op k a b=some (c,v))(hc:c)(aY:gM k a) :
  ∃ u,(binOp op t (.int k a) (.int k' b)).run P w=.ok u w/\bM P H kap F w v u:=by
 cases op<;>simp only[PI]at h<;>obtain⟨rfl,rfl⟩:=h<;>simp  [bM];case shl=>exact⟨_,by simp[binOp,Op.shift,show ¬b<0 by omega];rfl,hL.2 ⟨rfl,sK _ _⟩⟩
 case shr=>exact⟨_,by simp[binOp,Op.shift,show ¬b<0 by omega];rfl,hL.2 ⟨rfl,amX aY⟩⟩
theorem am2{a b:List UInt8}(h:FL op a b=some (c,v))(hc:c) :
  ∃ u,(binOp op t (.string ⟨a.toArray⟩) (.string ⟨b.toArray⟩)).run P w=.ok u w/\bM P H kap F w v u:=by
 have e:∀ l,(⟨l.toArray⟩:ByteArray).toList=l:=λl=>by simp
 cases op<;>simp only[FL]at h<;>obtain⟨rfl,rfl⟩:=h<;>simp only[bM];case add=>
  unfold cb at hc;have az:((ByteArray.size ⟨a.toArray⟩+ByteArray.size ⟨b.toArray⟩))=(a.length+b.length):=by rfl
  refine⟨.string ⟨(a++b).toArray⟩,?_,k7.2 ⟨rfl,by grind⟩⟩;simp  [binOp,Op.stringOp];rw[if_neg]
  ·rfl
  omega
 case eql=>exact⟨_,by rfl,hV.2 (by grind)⟩
 case neq=>exact⟨_,by rfl,hV.2 (by grind)⟩
 case lss=>simp_all[binOp,Op.stringOp]
 simp_all[binOp,Op.stringOp]
end
end Go.Fer
namespace Go.Fer
open Go.RowKit
def eg(P:Program)(T:Nat->V):Prop:=∀ id,T id=.dc\/cx P (T id) id
theorem eg.ca{P:Program}{T:Nat->V}(h:eg P T){id:Nat}{t:V}(e:T id=t)(aH:t≠.dc):cx P t id:=by
 rcases h id with h | h<;>grind
theorem tV{d:Option Nat}{k:Nat->Nat->Option ez}{H:Nat->b9}{res:ez}(h:(n5 d k).run H=some res) :
  ∃ b,d=some b/\k b ((H b).gen+1)=some res:=by
 unfold n5 at h;cases d with
 | none=>cases h
 | some b=>
  simp_all
variable {w:World}
theorem bu.am3{C:cH}{s:aB}{a:Act}{kap:Nat->bL}{F:Nat->Prop}(h:bu C s a w kap F){b g:Nat}{e:V}(aD:(s.aa b).gen<g) :
  bu C (s.ct b ⟨g,.bn e []⟩) a w (λi=>if i=b then ⟨0,0,0,true⟩ else kap i) F:=by
 have ah:fI s.aa kap (λi=>if i=b then ⟨g,.bn e []⟩ else s.aa i) (λi=>if i=b then ⟨0,0,0,true⟩ else kap i):=CG aD λbj ef=>by grind
 refine h.move   ah (λ_ D=>D) (λ_ D=>.inl D) (amn _) (λ_ _ _=>rfl) (dL.refl _) (λ_=>?_) ?_ ?_ h.ds (CH (.inr ⟨rfl,rfl⟩) λbj ef=>by grind)
 ·intro i;by_cases G:i=b
  ·subst G;simp  [c6];exact⟨λ_=>rfl,λaC=>by grind⟩
  ·exact c6.k_ (h.bF i) ah (λ_ D=>D) (di.refl _ _) (by grind) (by grind) λ_=>rfl
 ·intro i G;by_cases bD:i=b
  ·grind [b'.ch]
  ·simp  [if_neg bD]at G ⊢;exact⟨(h.own i G).1,(h.own i G).2.1,.inl ⟨i,G,rfl⟩⟩
 ·intro i j G aK aZ;by_cases bD:i=b
  ·grind [b'.ch]
  ·by_cases pc:j=b
   ·grind [b'.ch]
   ·simp  [if_neg bD,if_neg pc]at G aK aZ;exact h.inj i j G aK aZ
section
variable {C:cH} {T:Nat->V} {br:Nat->Option aO} {o:Oper} {s:aB} {res:ez}
variable {x:Operand}
theorem am4(bo:∀ i,o.dst=some i->i<C.bZ)(au:o.op=.move x)(h:(cP C.aX T br (bh C.aX s.aA) o).run s.aa=some res):cR C o s res:=by
 simp  [cP,au,da]at h;subst h;simp_all[cR.pure,execOp,lJ]
theorem am5(bo:∀ i,o.dst=some i->i<C.bZ)(au:o.op=.assign x)(h:(cP C.aX T br (bh C.aX s.aA) o).run s.aa=some res):cR C o s res:=by
 simp  [cP,au]at h;split at h
 ·rename_i e al aH;obtain⟨b,ax,ak⟩:=tV h;simp  at ak;subst ak;intro a w kap F Q D _ _;refine h7 (w':=w) (v:=a.eval x) (by grind) (by simp[execOp,au]) ?_;have L:=D.am3 (b:=b) (e:=e) (aQq _);have af:=lJ D x;rw[al]at af;simp  [bM]at af;refine⟨_,_,bu.set L bo ⟨⟨?_,by rw[af];rfl⟩,λ_ _=>?_⟩⟩
  ·simp[aB.ct]
  grind [bL.slice]
 ·simp  [da]at h;subst h;simp_all[cR.pure,execOp,lJ]
theorem db{a:Act}{kap:Nat->bL}{F:Nat->Prop}(D:bu C s a w kap F)(x:Operand){p:Prop}{av:aL}(hu:use (bh C.aX s.aA x)=(p,av))(ai:p):bM C.P s.aa kap F w av (a.eval x):=by
 grind [qW,lJ]
theorem am6{c y:Operand}(bo:∀ i,o.dst=some i->i<C.bZ)(au:o.op=.pick c x y)(h:(cP C.aX T br (bh C.aX s.aA) o).run s.aa=some res):cR C o s res:=by
 simp  [cP,au]at h;split at h
 ·rename_i ve lI hc;split at h
  ·split at h
   ·rename_i Yn av aY;simp  [da]at h;subst h;refine cR.pure (by grind) bo λa w kap F D bb _=>?_;have E:=hV.1 (db D c hc bb.1);cases lI with
    | false=>
     have bN:a.eval (.const (.bool false))=.bool false:=rfl;exact⟨.bool false,by simp_all[execOp,asBool],hV.2 rfl⟩
    | true=>
     have L:=hV.1 (db D x aY (bb.2 rfl));exact⟨.bool av,by simp_all[execOp,asBool],hV.2 rfl⟩
   ·cases h
  ·split at h
   ·rename_i cy bv U;simp  [da]at h;subst h;refine cR.pure (by grind) bo λa w kap F D bb _=>?_;have E:=hV.1 (db D c hc bb.1);cases lI with
    | true=>
     have bN:a.eval (.const (.bool true))=.bool true:=rfl;exact⟨.bool true,by simp_all[execOp,asBool],hV.2 rfl⟩
    | false=>
     have L:=hV.1 (db D y U (bb.2 rfl));exact⟨.bool bv,by simp_all[execOp,asBool],hV.2 rfl⟩
   ·cases h
  ·cases h
 ·cases h
theorem am7{op:UnOp}{ty:TypeId}(bo:∀ i,o.dst=some i->i<C.bZ)(au:o.op=.unOp op ty x)(h:(cP C.aX T br (bh C.aX s.aA) o).run s.aa=some res):cR C o s res:=by
 simp only[cP,au]at h;split at h
 ·rename_i cz b al;simp  [da]at h;subst h;refine cR.pure (by grind) bo λa w kap F D bb _=>?_;have E:=hV.1 (db D x al bb);exact⟨.bool (!b),by simp_all[execOp,Op.unary],hV.2 rfl⟩
 ·rename_i cz k n al;simp only[da,aF.dC,amo]at h;subst h;refine cR.pure (by grind) bo λa w kap F D bb _=>?_;have E:=hL.1 (db D x al bb);exact⟨.int k (k.wrap (0 - n)),by simp_all[execOp,Op.unary,Op.intArith],hL.2 ⟨rfl,sK _ _⟩⟩
 ·cases h
theorem am8{i:Nat}(bo:∀ i,o.dst=some i->i<C.bZ)(au:o.op=.extract x i)(h:(cP C.aX T br (bh C.aX s.aA) o).run s.aa=some res):cR C o s res:=by
 simp  [cP,au]at h;split at h
 ·rename_i cz n f al;split at h
  ·simp  [da]at h;subst h;refine cR.pure (by grind) bo λa w kap F D bb _=>?_;obtain⟨aG,E,L,an⟩:=db D x al bb;simp_all[execOp,Instr.extract]
  ·cases h
 ·cases h
theorem am9(bo:∀ i,o.dst=some i->i<C.bZ)(au:o.op=.nilCheck x)(h:(cP C.aX T br (bh C.aX s.aA) o).run s.aa=some res):cR C o s res:=by
 simp only[cP,au]at h;split at h
 ·rename_i cz b g i al;simp only[aF.gR,aF.dC]at h;split at h
  ·rename_i bA;simp  at bA;simp  at h;subst h;refine cR.pure (by grind) bo λa w kap F D bb _=>?_;have E:=db D x al bb;have L:=E.2 bA.1.symm bA.2;simp_all[execOp]
  grind
 ·rename_i cz t d al;simp  [da]at h;subst h;refine cR.pure (by grind) bo λa w kap F D bb _=>?_;obtain⟨p,bC,E,L⟩:=db D x al bb;exact⟨_,by simp_all[execOp],p,bC,rfl,L⟩
 ·rename_i cz e p al;simp  [da]at h;subst h;refine cR.pure (by grind) bo λa w kap F D bb hc=>?_;have E:=(ee rfl).1 (db D x al bb);obtain⟨_,E⟩:=E;rcases E with⟨_,rfl⟩ | ⟨q,y,bC,bB,rfl,aM,aT⟩
  ·grind
  ·exact⟨_,by simp_all[execOp],q,bC,rfl,aM,aT⟩
 ·rename_i cz b g off al;simp only[aF.gR,aF.dC]at h;split at h
  ·rename_i bA;simp  at bA;simp  at h;subst h;refine cR.pure (by grind) bo λa w kap F D bb _=>?_;have E:=db D x al bb;have L:=E.2 bA.1.symm bA.2;simp_all[execOp]
  grind
 ·cases h
theorem tW(b off n:Nat):(⟨b,off,none⟩:Addr).add n=⟨b,off+n,none⟩:=by
 grind [Addr.add]
variable {f:Nat}
theorem Kd{P:Program}{t s:V}{id Ah b off:Nat}(h:cx P (.ad t) id)(ay:p8 t f=some (s,Ah)) :
  (Instr.fieldAt id (.pointer (some ⟨b,off,none⟩)) f).run P w=.ok (.pointer (some ⟨b,off+Ah,none⟩)) w:=by
 obtain⟨gw,qa,E,L,an,a6,bS⟩:=h.field ay;simp  [Instr.fieldAt,en E,L,Instr.sureAddr,fieldPlace,a6.size,bS,an,tW]
theorem am_(aU:eg C.P T){ty:Nat}(bo:∀ i,o.dst=some i->i<C.bZ)(au:o.op=.fieldAddr ty x f)(h:(cP C.aX T br (bh C.aX s.aA) o).run s.aa=some res):cR C o s res:=by
 simp only[cP,au]at h;split at h
 ·rename_i t aH;have dF:=aU.ca aH (by simp);split at h
  ·rename_i s' Ah ay;split at h
   ·rename_i cz b g off al;simp only[aF.gR,aF.dC]at h;split at h
    ·rename_i bA;simp  at bA;simp  at h;subst h;refine cR.pure (by grind) bo λa w kap F D bb _=>?_;have E:=db D x al bb;have L:=E.2 bA.1.symm bA.2;exact⟨_,by simp[execOp,au,L,Kd dF ay],⟨E.1.1,rfl⟩,λ_ _=>rfl⟩
    grind
   ·rename_i cz b g i off al;simp only[aF.gR,aF.dC]at h;split at h
    ·rename_i bA;simp  at bA;simp  at h;subst h;refine cR.pure (by grind) bo λa w kap F D bb _=>?_;have E:=db D x al bb;obtain⟨L,an,a6⟩:=E.2 bA.1.symm bA.2;exact⟨_,by simp[execOp,au,a6,Kd dF ay];rfl,⟨E.1.1,rfl⟩,λ_ _=>⟨L,an,by grind⟩⟩
    grind
   ·rename_i cz b g i al;simp only[aF.gR,aF.dC]at h;split at h
    ·rename_i bA;simp  at bA;simp  at h;subst h;refine cR.pure (by grind) bo λa w kap F D bb _=>?_;have E:=db D x al bb;obtain⟨L,an,a6⟩:=E.2 bA.1.1.symm bA.1.2;exact⟨_,by simp[execOp,au,a6,Kd dF ay];rfl,⟨E.1.1,rfl⟩,λ_ _=>⟨L,an,by grind⟩⟩
    grind
   ·rename_i cz dM d al;split at h
    ·rename_i CU;subst CU;split at h
     ·rename_i s2 y ba;simp  [da]at h;subst h;refine cR.pure (by grind) bo λa w kap F D bb _=>?_;obtain⟨p,bC,E,L,an⟩:=db D x al bb;obtain⟨bG,c2,c3,rfl,aM,aT⟩:=Yc dM an ba;rw[ay]at aT;cases aT;have ai:p=⟨p.block,p.off,none⟩:=by have:=L.2.1;cases p;grind
      rw[ai]at E;refine⟨_,by simp[execOp,au,E,Kd dF ay],⟨p.block,p.off+bG.length,none⟩,c2,rfl,⟨L.1,rfl,λj aK=>?_⟩,aM⟩;have:=L.2.2 (bG.length+j) (by grind);grind
     ·cases h
    ·cases h
   ·cases h
  ·cases h
 ·cases h
theorem am'(aU:eg C.P T){ty:Nat}(bo:∀ i,o.dst=some i->i<C.bZ)(au:o.op=.field ty x f)(h:(cP C.aX T br (bh C.aX s.aA) o).run s.aa=some res):cR C o s res:=by
 simp  [cP,au]at h;split at h
 ·rename_i t aH;have dF:=aU.ca aH (by simp);split at h
  ·rename_i cz dM d al;split at h
   ·rename_i CU;subst CU;split at h
    ·rename_i s2 y ba;simp  [da]at h;subst h;refine cR.pure (by grind) bo λa w kap F D bb _=>?_;obtain⟨⟨cs,E,L⟩,an⟩:=db D x al bb;simp  [Value.cells]at an;obtain⟨bG,c2,c3,e,aM,aT⟩:=Yc dM an ba;obtain⟨gw,qa,f1,f2,f3,f4,f5⟩:=dF.field aT;obtain⟨v,cq,c7⟩:=tT   f4 e aM;refine⟨v,?_,c7⟩;simp_all[execOp,Instr.field,en,asAgg]
    ·cases h
   ·cases h
  ·cases h
 ·cases h
end
end Go.Fer
namespace Go.Fer
open Go.RowKit
variable {P:Program}
theorem cx.bO{e:V}{id:TypeId}(h:cx P (.bO e) id):∃ i,P.underlying id=some (.pointer i)/\True:=by
 unfold cx at h;simp  [df]at h;obtain⟨_,h⟩:=h;split at h
 ·rename_i i G;exact⟨i,G,trivial⟩
 grind
variable {l:List Nat}
theorem Ys{k:IntKind}{av:aL}{H:Nat->b9}{x:Int}(h:(ej (.int k) av).run H=some (x,l)):av.n3.isSome=true:=by
 cases av with
 | val dM y=>
  simp  [ej,aPK]at h;obtain⟨z,bA,_⟩:=h;obtain⟨rfl,_⟩:=mO bA;rfl
 | k8 v=>simp[ej,l4,V.fY,eK,FI]at h
 | _=>simp[ej,l4,V.fY,eK,aF.none]at h
theorem Yt{av:aL}{H:Nat->b9}{x:List UInt8}(h:(ej .str av).run H=some (x,l)):av.w0.isSome=true:=by
 cases av with
 | val dM y=>
  simp  [ej,aPK]at h;obtain⟨z,bA,_⟩:=h;obtain⟨rfl,_⟩:=mO bA;rfl
 | k8 v=>simp[ej,l4,V.fY,eK,FI]at h
 | _=>simp[ej,l4,V.fY,eK,aF.none]at h
variable {w:World}{ty:TypeId}
theorem Ke{i:TypeId}(G:P.underlying ty=some (.pointer i))(a:Option Addr)(d:Nat):(Op.equalIn (d+1) ty (.pointer a) (.pointer none)).run P w=.ok a.isNone w:=by
 cases a<;>simp[Op.equalIn,en G]
inductive F1:Value->Value->Prop where
 | bool (a b:Bool):F1 (.bool a) (.bool b)
 | agg (a b:Array Value):F1 (.agg a) (.agg b)
 | bO (a b:Option Addr):F1 (.pointer a) (.pointer b)
variable {x:Operand}{y:Operand}
theorem ana{u n8:Value}{e:Bool}(ai:F1 u n8)(h:(Op.equalIn 10000 ty u n8).run P w=.ok e w)
  (aD:∀ a b,u=.agg a->n8=.agg b->P.eqGuardType P.depth ty=false) :
  (do eqGuard .eql ty x y u n8;binOp .eql ty u n8:Sem Value).run P w=.ok (.bool e) w/\(do eqGuard .neq ty x y u n8;binOp .neq ty u n8:Sem Value).run P w=.ok (.bool (!e)) w:=by
 cases ai with
 | bool a b=>constructor<;>simp[amZ,binOp,Op.equal,Op.maxDepth,h]
 | agg a b=>constructor<;>simp[run_eqGuard_agg _ _ _ _ _ _ _ (aD a b rfl rfl),binOp,Op.equal,Op.maxDepth,h]
 | bO a b=>constructor<;>simp[am0,binOp,Op.equal,Op.maxDepth,h]
section
variable {C:cH} {T:Nat->V} {br:Nat->Option aO} {o:Oper} {s:aB} {res:ez}
variable {a:Act}{kap:Nat->bL}{F:Nat->Prop}{v:Value}
theorem F2(D:bu C s a w kap F){t:V}{av:aL}{x:t.aj}(h:(ej t av).run s.aa=some (x,l))(af:bM C.P s.aa kap F w av v) :
  fr C.P t (λ_=>True) w v x:=oF D.bF (λ_ _=>trivial) h (λ_ _ _=>trivial) af
theorem anb{op:BinOp}{e8 kO:aL}{c:Prop}{v:aL}(aU:eg C.P T)(D:bu C s a w kap F)
  (h:(FM op (T ty) e8 kO).run s.aa=some (c,v)) {u n8:Value} (al:bM C.P s.aa kap F w e8 u) (ba:bM C.P s.aa kap F w kO n8) (anc:¬(e8.n3.isSome=true/\kO.n3.isSome=true)) (ane:¬(e8.w0.isSome=true/\kO.w0.isSome=true)) :
  ∃ r,(do eqGuard op ty x y u n8;binOp op ty u n8:Sem Value).run C.P w=.ok r w/\bM C.P s.aa kap F w v r:=by
 unfold FM at h;rw[aF.fZ]at h;simp only[amj]at h;obtain⟨e,he,af⟩:=h;simp  at af;have key:F1 u n8/\(Op.equalIn 10000 ty u n8).run C.P w=.ok e w/\(∀ a b,u=.agg a->n8=.agg b->C.P.eqGuardType C.P.depth ty=false):=by
  split at he
  ·rename_i aZ p bz aH;obtain⟨i,G,_⟩:=(aU.ca aH (by simp)).bO;subst ba;simp  at he;subst he;obtain⟨_,oH⟩:=(ee rfl).1 al;rcases oH with⟨oH,rfl⟩ | ⟨q,z,bC,oH,rfl,_⟩
   ·obtain rfl:=(aPQ oH).1;exact⟨.bO _ _,Ke G none 9999,λ_ _ h=>by simp⟩
   ·obtain rfl:=(aPQ oH).1;exact⟨.bO _ _,Ke G (some q) 9999,λ_ _ h=>by simp⟩
  ·rename_i aZ bX qY aH;obtain⟨i,G,_⟩:=(aU.ca aH (by simp)).bO;subst ba;simp  at he;subst he;obtain⟨q,bC,rfl,_⟩:=al;exact⟨.bO _ _,Ke G (some q) 9999,λ_ _ h=>by simp⟩
  ·rename_i aZ b g off aH;obtain⟨i,G,_⟩:=(aU.ca aH (by simp)).bO;subst ba;simp only[aF.gR,aF.dC]at he;split at he
   ·rename_i bA;simp  at bA;simp  at he;subst he;have:=al.2 bA.1.symm bA.2;subst this;exact⟨.bO _ _,Ke G (some _) 9999,λ_ _ h=>by simp⟩
   grind
  ·split at he
   ·rename_i ku;simp  at ku;simp only[aF.fZ,amj,aF.dC,amo]at he;obtain⟨⟨mw,fq⟩,E,⟨nx,gD⟩,L,rfl⟩:=he;have cq:=F2 D E al;have c7:=F2 D L ba;generalize pf:T ty=t at *
    cases t with
    | bool=>
     have dF:=aU.ca pf (by simp);refine⟨?_,(PQ .bool 10000 rfl (by decide)).1 dF cq c7,?_⟩
     ·rw[hV.1 cq,hV.1 c7];exact .bool _ _
     simp_all
    | int k=>exact (anc ⟨Ys E,Ys L⟩).elim
    | str=>exact (ane ⟨Yt E,Yt L⟩).elim
    | ad t=>
     have dF:=aU.ca pf (by simp);refine⟨?_,(PQ (.ad t) 10000 ku.1 (by omega)).1 dF cq c7,λ_ _ _ _=>dF.FZ.2.1⟩;obtain⟨⟨_,rfl,_⟩,_⟩:=cq;obtain⟨⟨_,rfl,_⟩,_⟩:=c7;exact .agg _ _
    | ar t1 bX=>have:=aU.ca pf (by simp);unfold cx at this;simp  [df]at this
    | dc=>cases ku.1
    | slice _=>cases ku.1
    | array _ _=>cases ku.1
    | bO _=>cases ku.1
    | map _ _=>cases ku.1
    | fn _ _=>cases ku.1
    | cG _=>cases ku.1
    | eW=>cases ku.1
    | cM _=>cases ku.1
   ·cases he
 obtain⟨aM,aT,b5⟩:=key;have:=ana (x:=x) (y:=y) aM aT b5;cases op<;>simp only[reduceCtorEq,aPK]at af;case eql=>obtain⟨rfl,rfl⟩:=af;exact⟨_,this.1,hV.2 rfl⟩
 case neq=>obtain⟨rfl,rfl⟩:=af;exact⟨_,this.2,hV.2 rfl⟩
theorem anf(aU:eg C.P T){op:BinOp}{mQ:TypeId}(bo:∀ i,o.dst=some i->i<C.bZ)(au:o.op=.binOp op ty x y mQ)(h:(cP C.aX T br (bh C.aX s.aA) o).run s.aa=some res):cR C o s res:=by
 simp  [cP,au]at h;have qc:∀ c,o.op≠.defer c:=by grind
 have pg:∀ (a:Act) (w:World) (r:Value),(do eqGuard op ty x y (a.eval x) (a.eval y);binOp op ty (a.eval x) (a.eval y)).run C.P w=.ok r w->(execOp a.eval o).run C.P w=.ok (.value r) w:=by
  intro a w r D;simp only[execOp,au,Sem.run_bind]at D ⊢;simp_all
 split at h
 ·rename_i k m k' n al ba;have fin:∀ (c:Prop) (v:aL),(∀ (w:World) kap F,c->gM k m->∃ r,(binOp op ty (.int k m) (.int k' n)).run C.P w=.ok r w/\bM C.P s.aa kap F w v r)->
    res=⟨(use (bh C.aX s.aA x)).1/\(use (bh C.aX s.aA y)).1,c,v,[]⟩->cR C o s res:=by
   intro c v ak gT;subst gT;refine cR.pure qc bo λa w kap F D bb hc=>?_;have E:=qb (db D x rfl bb.1) al;have L:=qb (db D y rfl bb.2) ba;obtain⟨r,cq,c7⟩:=ak w kap F hc E.2;exact⟨r,pg a w r (by simp[E.1,L.1,Yq,cq]),c7⟩
  split at h
  ·split at h
   ·rename_i c v az;simp  [da,amo]at h;exact fin c v (λw kap F hc aY=>Yr az hc aY) h.symm
   ·cases h
  ·split at h
   ·rename_i c v az;simp  [da,amo]at h;exact fin c v (λw kap F hc aY=>Yr az hc aY) h.symm
   ·cases h
  ·split at h
   ·rename_i Kf;subst Kf;split at h
    ·rename_i c v az;simp  [da,amo]at h;exact fin c v (λw kap F hc aY=>am1 az hc aY) h.symm
    ·cases h
   ·cases h
 ·split at h
  ·rename_i m n al ba;split at h
   ·rename_i c v az;simp  [da,amo]at h;subst h;refine cR.pure qc bo λa w kap F D bb hc=>?_;have E:=PO (db D x rfl bb.1) al;have L:=PO (db D y rfl bb.2) ba;obtain⟨r,cq,c7⟩:=am2           (t:=ty) az hc;exact⟨r,pg a w r (by simp[E.1,L.1,amY,cq]),c7⟩
   ·cases h
  ·simp only[da,aF.fZ,amj,aF.dC,amo]at h;obtain⟨⟨c,v⟩,az,rfl⟩:=h;refine cR.pure qc bo λa w kap F D bb hc=>?_;obtain⟨r,cq,c7⟩:=anb (x:=x) (y:=y) aU D az (db D x rfl bb.1) (db D y rfl bb.2)
    (λ⟨aE,bz⟩=>by
     obtain⟨⟨k,m⟩,aE⟩:=Option.isSome_iff_exists.1 aE;obtain⟨⟨k',dw⟩,bz⟩:=Option.isSome_iff_exists.1 bz;grind)
    (λ⟨aE,bz⟩=>by
     obtain⟨m,aE⟩:=Option.isSome_iff_exists.1 aE;obtain⟨dw,bz⟩:=Option.isSome_iff_exists.1 bz;grind)
   grind
theorem Al{b:Nat}{cs:Array Value}{T:TypeId}{fK:z21'}(h:w.heap[b]?=some (.cells cs T fK))(off:Nat):w.cell? ⟨b,off,none⟩=cs[off]?:=by
 simp[World.cell?,h]
theorem Yu{t:V}{id:TypeId}(h:cx P t id)(ah:t.isAgg=false){p:Addr}(af:w.cell? p=some v):(loadVar id p).run P w=.ok v w:=by
 simp[loadVar,CR h,ah,af]
theorem Yv(aU:eg C.P T){e8 v:aL}{u:Value}(D:bu C s a w kap F)(h:(CN (T ty) e8).run s.aa=some v)(al:bM C.P s.aa kap F w e8 u) :
  ∃ r,(Instr.loadAt ty u).run C.P w=.ok r w/\bM C.P s.aa kap F w v r:=by
 generalize pf:T ty=t at *
 cases e8 with
 | eL dM d=>
  simp only[CN,aF.dC]at h;split at h
  ·rename_i hc;obtain⟨rfl,hc⟩:=hc;simp  at h;subst h;obtain⟨p,bC,rfl,L,an⟩:=al;have dF:=aU.ca pf (by intro e;subst e;cases hc);obtain⟨r,cq,c7⟩:=Kc dF L.PN an;exact⟨r,by simp[Instr.loadAt,Instr.sureAddr,cq],c7⟩
  grind
 | eX b g off=>
  simp only[CN,aF.gR,aF.dC]at h;split at h
  ·rename_i aD;split at h
   ·rename_i t0 f cm;have af:=al.2 aD.symm (by rw[cm];rfl);subst af;have a1:=D.bF b;unfold c6 at a1;rw[cm]at a1;obtain⟨cs,h8,bG,c2,c3⟩:=a1;split at h
    ·rename_i ah;split at h
     ·rename_i PS;simp  at h;subst h;have dF:=aU.ca pf (by intro e;subst e;cases ah);have PT:t.isAgg=false:=by cases t<;>simp_all[V.fY,V.isAgg]
      refine⟨cs.getD off Go.undef,?_,(c3 off PS).1⟩;refine Yu dF PT ?_;rw[Al bG];simp_all
     grind
    ·split at h
     ·rename_i Yw;split at h
      ·simp  at h;subst h;have dF:=aU.ca pf (by intro e;subst e;cases Yw);let aG:=(List.range t.size).map λj=>cs.getD (off+j) Go.undef;refine⟨.agg aG.toArray,?_,aG,rfl,by grind,λi G=>?_⟩
       ·simp  [Instr.loadAt,Instr.sureAddr,loadVar,CR dF,Yw,dF.size];rw[run_loadCells w ⟨(kap b).aa,off,none⟩ t.size (λj=>cs.getD (off+j) Go.undef)]
        ·rfl
        ·intro j aK;rw[tW,Al bG];simp[c2,show off+j<t0.size by omega]
       grind
      grind
     grind
   ·rename_i t0 y cm;have af:=al.2 aD.symm (by rw[cm];rfl);subst af;have a1:=D.bF b;unfold c6 at a1;rw[cm]at a1;obtain⟨bC,d1,d2⟩:=a1;split at h
    ·rename_i hc;simp  at h;obtain⟨z,bA,rfl⟩:=h;obtain⟨bG,c2,c3,rfl,cU,cO⟩:=Yd t0 d2 bA;have dF:=aU.ca pf (by intro e;subst e;cases hc);have dh:mP w ⟨(kap b).aa,off,none⟩ c2:=by
      refine⟨λ_=>rfl,λj aK=>?_⟩;have:=d1.2.2 (bG.length+j) (by grind);grind
     obtain⟨r,cq,c7⟩:=Kc dF dh cO;exact⟨r,by simp[Instr.loadAt,Instr.sureAddr,cq],c7⟩
    grind
   grind
  grind
 | qS b g i off=>
  simp only[CN,aF.gR,aF.dC]at h;split at h
  ·rename_i aD;have fin:∀ (e:V) (xs:List e.aj),(s.aa b).body.gO=true->(s.aa b).body.len=xs.length->(s.aa b).body.gP=e.size->
     (∀ (G:i<xs.length),(kap b).fO=false->∃ bC,mP w ⟨(kap b).aa,(kap b).off+i*e.size,none⟩ bC/\cw C.P e F w bC xs[i])->
     (if t.fY||t.isAgg then (vc e (xs.getD i e.dU) off t).map (.val t) else none)=some v->∃ r,(Instr.loadAt ty u).run C.P w=.ok r w/\bM C.P s.aa kap F w v r:=by
    intro e xs aY hlen Kg hP af;split at af
    ·rename_i hc;simp only[aP9]at af;obtain⟨z,bA,rfl⟩:=af;obtain⟨aM,aT,b5⟩:=al.2 aD.symm aY;subst b5;rw[hlen]at aM;obtain⟨bC,d1,d2⟩:=hP aM aT;have PU:xs.getD i e.dU=xs[i]:=by grind
     rw[PU]at bA;obtain⟨bG,c2,c3,rfl,cU,cO⟩:=Yd e d2 bA;have dF:=aU.ca pf (by intro e;subst e;cases hc);have dh:mP w ⟨(kap b).aa,(kap b).off+i*(s.aa b).body.gP+off,none⟩ c2:=by
      refine⟨λ_=>rfl,λj aK=>?_⟩;have:=d1.2 (bG.length+j) (by grind);grind
     obtain⟨r,cq,c7⟩:=Kc dF dh cO;exact⟨r,by simp[Instr.loadAt,Instr.sureAddr,cq],c7⟩
    grind
   have a1:=D.bF b;unfold c6 at a1;split at h
   ·rename_i e xs cm;rw[cm]at a1;refine fin e xs (by rw[cm];rfl) (by rw[cm];rfl) (by rw[cm];rfl) (λG aC=>?_) h;obtain⟨cs,h8,bG,c2,c3,c4,c5⟩:=a1.2 aC;obtain⟨bC,d1,d2⟩:=c5 i G;exact⟨bC,⟨λ_=>rfl,λj aK=>by rw[Al bG];grind⟩,d2⟩
   ·rename_i e xs cm;rw[cm]at a1;refine fin e xs (by rw[cm];rfl) (by rw[cm];rfl) (by rw[cm];rfl) (λG aC=>?_) h;simp  [mr,bL.slice,aC,aPH]at a1;obtain⟨a',cap,aE,m1,m2,m3,m4⟩:=a1;obtain⟨rfl,_,rfl⟩:=aE;obtain⟨eA,eG,lk⟩:=m4 _ rfl (by omega);obtain⟨bC,d1,d2⟩:=lk i G;exact⟨bC,d1.PN,d2⟩
   grind
  grind
 | _=>cases h
end
end Go.Fer
namespace Go.Fer
open Go.RowKit
section
variable {C:cH} {T:Nat->V} {br:Nat->Option aO} {o:Oper} {s:aB} {res:ez}
theorem ang(aU:eg C.P T){ty:TypeId}{x:Operand}(bo:∀ i,o.dst=some i->i<C.bZ)(au:o.op=.load ty x)(h:(cP C.aX T br (bh C.aX s.aA) o).run s.aa=some res):cR C o s res:=by
 simp  [cP,au]at h;split at h
 ·rename_i cz b g i al;simp  [Ym,aF.dC]at h;split at h
  ·rename_i e xs n6 v cm;split at h
   ·rename_i hc;obtain⟨aD,ah⟩:=hc;simp  at h;subst h;refine cR.pure (by grind) bo λa w kap F D bb G=>?_;subst G;have E:=(db D x al bb).2 aD.symm (by rw[cm];rfl);have a1:=D.bF b;unfold c6 at a1;rw[cm]at a1 E;obtain⟨_,cs,h8,bG,c2,c3,c4,c5,ph,rK,ym⟩:=a1;have dF:=aU.ca   rfl (by intro e;rw[e]at ah;cases ah);have PT:(T ty).isAgg=false:=by cases aH:T ty<;>simp_all[V.fY,V.isAgg]
    refine⟨_,?_,rK⟩;have oI:w.cell? ⟨(kap b).aa,(kap b).off+i,none⟩=some (cs.getD ((kap b).off+i) Go.undef):=by
     rw[Al bG];have:(kap b).off+i<cs.size:=by
      grind
     simp_all
    have ai:a.eval x=.pointer (some ⟨(kap b).aa,(kap b).off+i,none⟩):=by rw[E.2.2];simp[b'.gP,c5.1]
    simp[execOp,au,ai,Instr.loadAt,Instr.sureAddr,Yu dF PT oI]
   grind
  grind
 ·rename_i cz e8 _ al;simp  [da,aF.fZ,amj,amo]at h;obtain⟨v,af,rfl⟩:=h;refine cR.pure (by grind) bo λa w kap F D bb _=>?_;obtain⟨r,cq,c7⟩:=Yv aU D af (db D x al bb);exact⟨r,by simp[execOp,au,cq],c7⟩
variable {P:Program}{id:TypeId}
theorem cx.str(h:cx P .str id):P.underlying id=some .string:=by
 unfold cx at h;simp  [df]at h;grind
theorem cx.int{P:Program}{k:IntKind}{id:TypeId}(h:cx P (.int k) id):P.underlying id=some (.int k):=by
 unfold cx at h;simp  [df]at h;grind
theorem cx.Yx{t:V}(h:cx P t id):PC P t id:=λn s ak=>by
 subst ak;unfold cx at h;simp only[df,amm,Yf]at h;have h:=h.1.1.1.2;split at h
 ·rename_i i hu;rw[hu,eq_of_beq h]
 ·cases h
variable {e:V}
theorem cx.Kh(h:cx P e id):wV P e id:=λk ak=>by
 subst ak;obtain⟨i,z,E,L,_⟩:=nv h.nu;exact⟨h.int,by simp[Program.cellsOf,E,L,V.size]⟩
variable {n:Nat}
theorem cx.bn(h:cx P (.array n e) id):∃ i,P.underlying id=some (.array n i)/\cx P e i/\e.size≠0:=by
 unfold cx at h;simp  [df]at h;obtain⟨_,h⟩:=h;split at h
 ·rename_i m i hu;simp  at h;obtain⟨⟨rfl,L⟩,an⟩:=h;exact⟨i,hu,L,an⟩
 grind
theorem anh{gN:List (List Value)}{m:Nat}(h:∀ c∈gN,c.length=m){i:Nat}(G:i<gN.length):∃ p q,gN.flatten=p++(gN[i]++q)/\p.length=i*m:=by
 refine⟨(gN.take i).flatten,(gN.drop (i+1)).flatten,?_,?_⟩
 ·rw[<-aRi,<-aPM G,<-List.flatten_append,aQ1]
 ·have a6:(gN.take i).map List.length=List.replicate i m:=List.eq_replicate_iff.2 ⟨by grind,λx al=>by
   grind⟩
  simp_all
variable {F:Nat->Prop}{w:World}
theorem PV{cs:List Value}{xs:List e.aj}(h:cw P (.array n e) F w cs xs){i:Nat}(G:i<n):∃ p c q,cs=p++(c++q)/\p.length=i*e.size/\cw P e F w c (xs.getD i e.dU):=by
 obtain⟨gN,rfl,E,L,an⟩:=h;obtain⟨p,q,aM,aT⟩:=anh   (λc hc=>by
  obtain⟨j,aK,rfl⟩:=List.mem_iff_getElem.1 hc;exact jN e (an j (by omega) aK)) (show i<gN.length by omega)
 grind
theorem ani(aU:eg C.P T){ty:TypeId}{x i:Operand}(bo:∀ i,o.dst=some i->i<C.bZ)(au:o.op=.index ty x i)(h:(cP C.aX T br (bh C.aX s.aA) o).run s.aa=some res):cR C o s res:=by
 simp only[cP,au]at h;split at h
 ·rename_i l k n aH al G;simp only[da,aF.dC,amo]at h;subst h;refine cR.pure (by grind) bo λa w kap F D bb hc=>?_;have E:=PO (db D x rfl bb.1) al;have L:=qb (db D i rfl bb.2) G;have dF:=(aU.ca aH (by simp)).str;have dv:n.toNat<l.length:=by omega
  refine⟨.int .u8 ((l.getD n.toNat 0).toNat),?_,hL.2 ⟨rfl,?_⟩⟩
  ·have e:(⟨l.toArray⟩:ByteArray)[n.toNat]?=some (l.getD n.toNat 0):=by
    have az:=by simpa [ByteArray.size]using dv
    rw[getElem?_pos (⟨l.toArray⟩:ByteArray) n.toNat az];simp;show (⟨l.toArray⟩:ByteArray).data[n.toNat]=_;grind
   simp[execOp,au,Instr.index,E.1,L.1,asIntOf,en dF,hc.1,e]
  ·have:=(l.getD n.toNat 0).toNat_lt;constructor
   ·have:IntKind.u8.min=0:=by decide
    omega
   ·have:IntKind.u8.max=255:=by decide
    omega
 ·rename_i m e k n aH G;split at h
  ·rename_i dw aZ xs al;split at h
   ·rename_i he;obtain⟨rfl,rfl⟩:=he;simp  [da,amo]at h;subst h;refine cR.pure (by grind) bo λa w kap F D bb hc=>?_;have E:bM C.P s.aa kap F w (use (bh C.aX s.aA x)).2 (a.eval x):=db D x rfl bb.1;rw[al]at E;have L:=qb (db D i rfl bb.2) G;obtain⟨j,aK,tX,_⟩:=(aU.ca aH (by simp)).bn;obtain⟨⟨cs,af,qX⟩,qZ⟩:=E;rw[af]at qZ;obtain⟨p,c,q,aE,bz,c_⟩:=PV qZ (i:=n.toNat) (by omega);obtain⟨v,dt,ei⟩:=tT tX (cs:=cs) aE c_;refine⟨v,?_,ei⟩;rw[bz]at dt;simp[execOp,au,Instr.index,af,L.1,asIntOf,en aK,hc.1,hc.2,tX.size,dt]
   ·cases h
  ·rename_i k' f al;split at h
   ·simp  [da,amo]at h;subst h;refine cR.pure (by grind) bo λa w kap F D bb hc=>?_;have E:bM C.P s.aa kap F w (use (bh C.aX s.aA x)).2 (a.eval x):=db D x rfl bb.1;rw[al]at E;have L:=qb (db D i rfl bb.2) G;obtain⟨j,aK,tX,cN⟩:=(aU.ca aH (by simp)).bn;obtain⟨aG,af,ah,gu⟩:=E;have dv:n.toNat*e.size+e.size<=aG.length:=by
     have:(n.toNat+1)*e.size<=m*e.size:=amt _ (by omega);grind
    by_cases aY:e.isAgg=true
    ·simp  [if_pos aY];refine⟨_,by simp[execOp,au,Instr.index,af,L.1,asIntOf,en aK,hc.1,hc.2,tX.size,Yp tX aY];rfl,(aG.toArray.extract (n.toNat*e.size) (n.toNat*e.size+e.size)).toList,by simp,?_,λq bB=>?_⟩<;>grind
    ·simp  [if_neg aY];have a6:=gu (n.toNat*e.size) (by omega);refine⟨aG.getD (n.toNat*e.size) Go.undef,?_,a6.1⟩;have aD:aG.toArray[n.toNat*e.size]?=some (aG.getD (n.toNat*e.size) Go.undef):=by
      grind
     simp[execOp,au,Instr.index,af,L.1,asIntOf,en aK,hc.1,hc.2,tX.size,Yo tX (by grind) aD]
   ·cases h
  ·cases h
 ·cases h
theorem tY:∀ {l:List aL},kf l->∀ i,i<l.length->(use (l.getD i .undef)).1
 | [],_,i,G=>by grind
 | a::l,h,0,_=>by
  cases a<;>first | trivial | exact h.1
 | a::l,h,i+1,G=>by
  have e0:kf l:=by cases a<;>first | exact h | exact h.2
  have:=tY e0 i (by grind);grind
theorem anj{k:bL}(h:k.fO=true->n=0):∃ a cap,k.slice n=.slice a n cap:=by
 unfold bL.slice;split<;>simp_all
variable {a:Act}{kap:Nat->bL}{b:Nat}
theorem CV(D:bu C s a w kap F)(aY:(s.aa b).body.gO=true):((kap b).fO=true->(s.aa b).body.len=0)/\(s.aa b).body.len<2 ^ 63:=by
 have a1:=D.bF b;unfold c6 at a1;cases cm:(s.aa b).body with
 | bn e xs=>
  rw[cm]at a1;refine⟨λaC=>by rw[a1.1 aC];rfl,?_⟩;simp  [b'.len];cases aC:(kap b).fO with
  | true=>rw[a1.1 aC];simp
  | false=>obtain⟨cs,h8,bG,c2,c3,c4,c5⟩:=a1.2 aC;omega
 | jz e xs=>
  rw[cm]at a1;simp  [mr,cw,bL.slice]at a1;simp  [b'.len];grind
 | h6 e xs i v=>
  rw[cm]at a1;obtain⟨aW,cs,h8,bG,c2,c3,c4,_⟩:=a1;exact⟨λaC=>(by grind),(by simp  [b'.len];omega)⟩
 | _=>rw[cm]at aY;cases aY
theorem PW(D:bu C s a w kap F)(aY:(s.aa b).body.gO=true)(aC:(kap b).fO=false):(s.aa b).body.len<=(kap b).cap:=by
 have a1:=D.bF b;unfold c6 at a1;cases cm:(s.aa b).body with
 | bn e xs=>
  rw[cm]at a1;obtain⟨cs,h8,bG,c2,c3,c4,c5⟩:=a1.2 aC;exact c3
 | jz e xs=>
  rw[cm]at a1;simp only[mr,bL.slice,aC,aPH]at a1;obtain⟨a',cap,aE,m1,m2,m3,m4⟩:=a1;simp  at aE;simp  [b'.len];omega
 | h6 e xs i v=>
  rw[cm]at a1;obtain⟨aW,cs,h8,bG,c2,c3,c4,_⟩:=a1;exact c3
 | _=>rw[cm]at aY;cases aY
variable {v:Value}
theorem ank(D:bu C s a w kap F){a7 G:Nat}(aY:(s.aa b).body.gO=true)(E:a7<=G)(L:G<=(s.aa b).body.len)(az:JY (kap b) (s.aa b).body.gP a7 G v) :
  ∃ a cap,v=.slice a (G - a7) cap/\G - a7<2 ^ 63:=by
 have aC:=CV D aY;rcases az with⟨aM,rfl⟩ | ⟨aM,o,rfl,_⟩
 ·simp_all
 grind
theorem CW(h:n<2 ^ 63):gM .i64 (n:Int):=by
 unfold gM;have E:IntKind.i64.min=-9223372036854775808:=by decide
 have L:IntKind.i64.max=9223372036854775807:=by decide
 omega
theorem cx.mp{k v:V}(h:cx P (.map k v) id):∃ i j,P.underlying id=some (.map i j)/\cx P k i/\cx P v j:=by
 unfold cx at h;simp  [df]at h;obtain⟨_,h⟩:=h;split at h
 ·rename_i i j G;simp  at h;exact⟨i,j,G,h.1,h.2⟩
 grind
theorem anl(aU:eg C.P T){t:TypeId}{e8:aL}{c:Prop}{n:Int}{u:Value}(D:bu C s a w kap F)(h:(J5 (T t) e8).run s.aa=some (c,n))(hc:c)(al:bM C.P s.aa kap F w e8 u)(ty:TypeId) :
  (Builtin.len_ #[t] ty #[u]).run C.P w=.ok (.int .i64 n) w/\gM .i64 n:=by
 have PX:∀ e a' m cap,T t=.slice e->u=.slice a' m cap->m=n->m<2 ^ 63->(Builtin.len_ #[t] ty #[u]).run C.P w=.ok (.int .i64 n) w/\gM .i64 n:=by
  intro e a' m cap aH hu hm dv;obtain⟨i,G,_⟩:=(aU.ca aH (by simp)).sl;subst hu;rw[<-hm];exact⟨by simp[Builtin.len_,en G,goInt],CW dv⟩
 have Yy:∀ k v r es clk m,T t=.map k v->u=.map (some r)->w.heap[r]?=some (.map es clk)->es.size=m->m=n->cb m->(Builtin.len_ #[t] ty #[u]).run C.P w=.ok (.int .i64 n) w/\gM .i64 n:=by
  intro k v r es clk m aH hu hw rL hm dv;obtain⟨i,j,G,_⟩:=(aU.ca aH (by simp)).mp;subst hu;rw[<-hm,<-rL];unfold cb at dv;refine⟨?_,CW (by omega)⟩;simp[Builtin.len_,en G,goInt,getObj,Sem.run,hw]
 unfold J5 at h;split at h
 ·split at h
  ·simp  at h;obtain⟨_,al⟩:=(ee rfl).1 al;obtain⟨a',cap,aE,m1,m2,m3,m4⟩:=al;grind
  ·simp  at h;simp  [bM]at al;grind
  ·simp only[aF.gR,aF.dC]at h;split at h
   ·rename_i bA;simp  at bA;have af:=al.2 bA.1.symm bA.2;have aC:=CV D bA.2;obtain⟨a',cap,he⟩:=anj   aC.1;grind
   grind
  ·simp only[aF.gR,aF.dC]at h;split at h
   ·rename_i bA;simp  at bA;obtain⟨⟨aM,aT⟩,b5⟩:=al.2 bA.1.symm bA.2;obtain⟨a',cap,he,dv⟩:=ank D bA.2 aM aT b5;grind
   grind
  ·cases h
 ·rename_i aH;split at h
  ·rename_i xs;simp  at h;obtain⟨rfl,dv⟩:=k7.1 al;have dF:=(aU.ca aH (by simp)).str;rw[<-h.2];have az:ByteArray.size ⟨xs.toArray⟩=xs.length:=by rfl
   exact⟨by simp[Builtin.len_,en dF,goInt,az],CW (by omega)⟩
  ·cases h
 ·rename_i k v aH;split at h
  ·simp only[aF.dC,amo,aPK]at h;obtain⟨rfl,h⟩:=h;obtain⟨_,al⟩:=(ee rfl).1 al;rcases al with⟨aE,rfl⟩ | ⟨r,es,clk,aE,m1,m2,m3,_⟩
   ·obtain rfl:=(aPQ aE).1;obtain⟨i,j,G,_⟩:=(aU.ca aH (by simp)).mp;rw[<-h];exact⟨by simp[Builtin.len_,en G,goInt],CW (by simp)⟩
   grind
  ·rename_i b g;simp only[aF.gR,aF.dC]at h;split at h
   ·rename_i aD;split at h
    ·rename_i k' iu es cm;simp only[amo,aPK]at h;obtain⟨rfl,h⟩:=h;have a1:=D.bF b;unfold c6 at a1;rw[cm]at a1;obtain⟨ms,clk,cU,cO⟩:=a1;exact Yy k v _ ms clk es.length aH (al.2 aD.symm (by rw[cm];rfl)) cU cO.1 h hc
    ·rename_i k' iu es cm;simp only[amo,aPK]at h;obtain⟨rfl,h⟩:=h;have a1:=D.bF b;unfold c6 at a1;rw[cm]at a1;rcases a1 with⟨aE,_⟩ | ⟨r,ms,clk,aE,nt,cU,cO,_⟩
     ·grind
     ·simp  at aE;subst aE;exact Yy k v _ ms clk es.length aH (al.2 aD.symm (by rw[cm];rfl)) cU cO h hc
    grind
   grind
  ·cases h
 ·cases h
variable {b:Builtin}{dr:Array TypeId}
theorem sL{args:Array Operand}{w':World}(au:o.op=.call { callee:=.builtin b,args:=args,argTypes:=dr })
  (h:(builtin b dr o.type (args.map fun | .const _=>true | _=>false) (args.map a.eval)).run C.P w=.ok (.value v) w'):(execOp a.eval o).run C.P w=.ok (.value v) w':=by
 simp  [execOp,au,resolve,invoke];omega
theorem anm(aU:eg C.P T){args:Array Operand}(bo:∀ i,o.dst=some i->i<C.bZ)(au:o.op=.call { callee:=.builtin .len,args:=args,argTypes:=dr })(h:(cP C.aX T br (bh C.aX s.aA) o).run s.aa=some res):cR C o s res:=by
 obtain⟨args⟩:=args;obtain⟨dr⟩:=dr;simp  [cP,au,pe,FP]at h;split at h
 ·rename_i x t;simp only[da,aF.fZ,amj,aF.dC,amo]at h;obtain⟨⟨c,n⟩,aC,rfl⟩:=h;refine cR.pure (by grind) bo λa w kap F D bb hc=>?_;obtain⟨E,L⟩:=anl aU D aC hc (db D x rfl bb) o.type;refine⟨_,sL au ?_,hL.2 ⟨rfl,L⟩⟩;simp[builtin,E]
 ·cases h
theorem ano(aU:eg C.P T){args:Array Operand}(bo:∀ i,o.dst=some i->i<C.bZ)(au:o.op=.call { callee:=.builtin .cap,args:=args,argTypes:=dr })(h:(FR T (bh C.aX s.aA) args.toList dr.toList).run s.aa=some res):cR C o s res:=by
 obtain⟨args⟩:=args;obtain⟨dr⟩:=dr;simp  [FR]at h;split at h
 ·rename_i x t;split at h
  ·rename_i e cz aH hu;simp  [da,amo]at h;subst h;refine cR.pure (by grind) bo λa w kap F D bb hc=>?_;have af:a.eval x=.slice none 0 0:=db D x hu bb;obtain⟨i,G,_⟩:=(aU.ca aH (by simp)).sl;refine⟨.int .i64 0,sL au ?_,hL.2 ⟨rfl,by decide⟩⟩;simp[builtin,Builtin.cap_,af,en G,goInt]
  ·cases h
 ·cases h
theorem Yz{a:Act}{w:World}{kap:Nat->bL}{F:Nat->Prop}(D:bu C s a w kap F){k:IntKind}:∀ (l:List Operand) {cy:Prop} {jD:z1'},p9 (bh C.aX s.aA) k l=some (cy,jD)->cy->l.map a.eval=jD.map (Value.int k)/\∀ n∈jD,gM k n
 | [],_,_,h,_=>by cases h
 | [x],cy,jD,h,bb=>by
  simp  [p9]at h;split at h
  ·rename_i k' n al;split at h
   ·cases h;have E:=qb (db D x rfl bb) al;grind
   grind
  grind
 | x::y::l,cy,jD,h,bb=>by
  simp  [p9]at h;split at h
  ·rename_i k' n aLm aLn al ah;split at h
   ·cases h;have E:=qb (db D x rfl bb.1) al;have L:=Yz D (y::l) ah bb.2;grind
   grind
  grind
theorem PY{k:IntKind}:∀ (jD:z1') (m:Int),gM k m->(∀ n∈jD,gM k n)->((jD.map (Value.int k)).foldlM Builtin.min2 (Value.int k m)=pure (Value.int k (jD.foldl (λa b=>if b<a then b else a) m))/\gM k (jD.foldl (λa b=>if b<a then b else a) m))/\
  ((jD.map (Value.int k)).foldlM Builtin.max2 (Value.int k m)=pure (Value.int k (jD.foldl (λa b=>if b > a then b else a) m))/\gM k (jD.foldl (λa b=>if b > a then b else a) m))
 | [],m,h,_=>⟨⟨rfl,h⟩,rfl,h⟩
 | n::jD,m,h,ah=>by
  have ah:=λq bB=>ah q (amr n bB);have E:=(PY jD (if n<m then n else m) (by grind) ah).1;have L:=(PY jD (if n > m then n else m) (by grind) ah).2;refine⟨⟨?_,E.2⟩,?_,L.2⟩
  ·simp  [Builtin.min2];grind
  ·simp  [Builtin.max2];grind
theorem YA{f:Int->Int->Int}(U:(b=.min/\f=λa b=>if b<a then b else a)\/(b=.max/\f=λa b=>if b > a then b else a)){args:Array Operand}(bo:∀ i,o.dst=some i->i<C.bZ)
  (au:o.op=.call { callee:=.builtin b,args:=args,argTypes:=dr }) (h:(Af (bh C.aX s.aA) f args.toList).run s.aa=some res):cR C o s res:=by
 obtain⟨args⟩:=args;simp  [Af]at h;split at h
 ·rename_i x y l;split at h
  ·rename_i k m al;split at h
   ·rename_i cy jD ah;simp  [da,amo]at h;subst h;refine cR.pure (by grind) bo λa w kap F D bb hc=>?_;have E:=qb (db D x rfl bb.1) al;obtain⟨L,an⟩:=Yz D (y::l) ah bb.2;obtain⟨dt,ei⟩:=PY jD m E.2 an;have fu:(x::y::l).map a.eval=Value.int k m::jD.map (Value.int k):=by grind
    refine⟨.int k (jD.foldl f m),sL au ?_,hL.2 ⟨rfl,?_⟩⟩
    ·rcases U with⟨rfl,rfl⟩ | ⟨rfl,rfl⟩
     ·simp  [builtin,Builtin.min_,fu];simp_all
     ·simp  [builtin,Builtin.max_,fu];simp_all
    grind
   ·cases h
  ·cases h
 ·cases h
end
end Go.Fer
namespace Go.Fer
open Go.RowKit
def fK(H:Nat->b9)(x:b9):b9:=match x.body with
 | .bn e xs=>⟨x.gen,.jz e xs⟩
 | .mp k v es=>⟨x.gen,.k9 k v es⟩
 | .cells t f=>match (lf t ((List.range t.size).map f)).run H with
  | some (y,_,[])=>⟨x.gen,.im t y⟩
  | _=>x
 | _=>x
def aB.cD(s:aB)(l:List Nat):aB:=⟨s.aA,λi=>if i∈l then fK s.aa (s.aa i) else s.aa i⟩
theorem YB(H:Nat->b9):∀ (l:List Nat) (s:aB),(∀ i∈l,s.aa i=H i\/s.aa i=fK H (H i))->s.iw ((ke l).run H)=⟨s.aA,λi=>if i∈l then fK H (H i) else s.aa i⟩
 | [],s,_=>by
  rfl
 | b::l,s,h=>by
  simp only[ke,aF.gR,aF.run_bind];have key:∀ (s':aB),s'.aA=s.aA->s'.aa b=fK H (H b)->(∀ i,i≠b->s'.aa i=s.aa i)->s'.iw ((ke l).run H)=⟨s.aA,λi=>if i∈b::l then fK H (H i) else s.aa i⟩:=by
   intro s' aE bz c_;rw[YB H l s']<;>grind
  have ix:fK H (H b)=H b->s.iw ((ke l).run H)=⟨s.aA,λi=>if i∈b::l then fK H (H i) else s.aa i⟩:=λe=>
   key s rfl (by grind) λ_ _=>rfl
  have put:∀ x,fK H (H b)=x->s.iw ((b,x)::(ke l).run H)=⟨s.aA,λi=>if i∈b::l then fK H (H i) else s.aa i⟩:=λx e=>by
   exact key _ rfl (by simp[aB.ct,e]) λi G=>by simp[aB.ct,G]
  cases U:(H b).body with
  | bn e xs=>exact put _ (by simp[fK,U])
  | mp k v es=>exact put _ (by simp[fK,U])
  | cells t f=>
   simp only[aF.run_bind];cases aD:(lf t ((List.range t.size).map f)).run H with
   | none=>exact ix (by simp[fK,U,aD])
   | some z=>
    obtain⟨y,m,r⟩:=z;cases r with
    | nil=>exact put _ (by simp[fK,U,aD])
    | cons c r=>exact ix (by simp[fK,U,aD])
  | _=>exact ix (by simp[fK,U])
theorem tZ(s:aB)(l:List Nat):s.iw ((ke l).run s.aa)=s.cD l:=by
 rw[YB s.aa l s λi _=>.inl rfl];rfl
theorem CX:∀ (l:List (Nat×b9)) (s:aB) (p:Nat×b9),s.iw (l++[p])=(s.iw l).ct p.1 p.2
 | [],_,_=>rfl
 | q::l,s,p=>by exact CX l _ p
def b'.YC:b'->Bool | .cG _ _ _ _=>true | .h6 _ _ _ _=>true | _=>false
def iJ(H:Nat->b9)(l:List Nat):Prop:=∀ b∈l,(H b).body.YC=false/\∀ t f,(H b).body=.cells t f->∃ y m,(lf t ((List.range t.size).map f)).run H=some (y,m,[])/\∀ c∈m,c∈l
theorem iJ.nil(H:Nat->b9):iJ H []:=λb U=>by grind
variable {H:Nat->b9}{l:List Nat}
theorem iJ.append{m:List Nat}(h:iJ H l)(k:iJ H m):iJ H (l++m):=by
 intro b U;rcases List.mem_append.1 U with U | U
 ·obtain⟨E,L⟩:=h b U;grind
 ·obtain⟨E,L⟩:=k b U;grind
variable {b:Nat}
theorem iJ.one(E:(H b).body.YC=false)(L:(H b).body.hk=false):iJ H [b]:=by
 intro c hc;obtain rfl:=List.mem_singleton.1 hc;exact⟨E,λt f e=>by rw[e]at L;cases L⟩
variable {t:V}
theorem t_{av:aL}{x:t.aj}(h:(eK t av).run H=some (x,l)):iJ H l:=by
 cases av with
 | val dM y=>
  simp  [eK,aPK]at h;obtain⟨z,bA,rfl,rfl⟩:=h;exact .nil H
 | u_ aZ y=>
  cases t<;>simp only[eK,aF.none,aF.dC,reduceCtorEq,aP9,aPK]at h;obtain⟨z,bA,rfl,rfl⟩:=h;exact .nil H
 | dW=>
  cases t<;>simp  [eK,aF.none,aPK]at h<;>(obtain⟨rfl,rfl⟩:=h;exact .nil H)
 | k8 u=>
  simp  [eK,aPK]at h;obtain⟨z,bA,rfl,rfl⟩:=h;exact .nil H
 | eL dM y=>
  cases t<;>simp  [eK,aF.none,aPK]at h;obtain⟨z,bA,rfl,rfl⟩:=h;exact .nil H
 | own b g=>
  cases t<;>simp only[eK,aF.none,aF.dC,aF.gR,reduceCtorEq]at h;split at h
  ·split at h
   ·rename_i U;simp  at h;obtain⟨z,bA,rfl,rfl⟩:=h;exact .one (by rw[U];rfl) (by rw[U];rfl)
   ·simp  at h;obtain⟨z,bA,rfl,rfl⟩:=h;exact .nil H
   grind
  grind
 | sub b g a7 G=>
  cases t<;>simp only[eK,aF.none,aF.dC,aF.gR,reduceCtorEq]at h;split at h
  ·split at h
   ·rename_i U;simp  at h;obtain⟨z,bA,rfl,rfl⟩:=h;exact .one (by rw[U];rfl) (by rw[U];rfl)
   ·simp  at h;obtain⟨z,bA,rfl,rfl⟩:=h;exact .nil H
   grind
  grind
 | hj b g=>
  cases t<;>simp only[eK,aF.none,aF.dC,aF.gR,reduceCtorEq]at h;split at h
  ·split at h
   ·rename_i U;simp  at h;obtain⟨z,bA,rfl,rfl⟩:=h;exact .one (by rw[U];rfl) (by rw[U];rfl)
   ·simp  at h;obtain⟨z,bA,rfl,rfl⟩:=h;exact .nil H
   grind
  grind
 | jh k n c=>
  cases t<;>simp  [eK,aF.none,reduceCtorEq]at h;split at h
  ·cases h;exact .nil H
  simp_all
 | _=>cases h
theorem YD{e:V}(fm:∀ {cs:List aL} {x:e.aj} {l:List Nat} {r:List aL},(lf e cs).run H=some (x,l,r)->iJ H l){av:aL}{x:Option e.aj}
  (h:(wY e (lf e) av).run H=some (x,l)):iJ H l:=by
 have b8:(eK (.bO e) av).run H=some (x,l)->iJ H l:=t_;cases av with
 | eX b g off=>
  simp  [wY]at h;split at h
  ·split at h
   ·simp  at h;obtain⟨z,bA,rfl,rfl⟩:=h;exact .nil H
   ·rename_i t f U;split at h
    ·simp only[aF.fZ,amj,aF.dC]at h;obtain⟨⟨y,m,q⟩,E,L⟩:=h;split at L
     ·obtain⟨rfl,rfl⟩:=L;intro c hc;rcases List.mem_cons.1 hc with rfl | hc
      ·refine⟨by rw[U];rfl,λdM kv e=>?_⟩;grind
      ·obtain⟨aM,aT⟩:=fm E c hc;grind
     grind
    ·cases h
   ·cases h
  ·cases h
 | _=>exact b8 h
theorem YE:∀ (t:V) {cs:List aL} {x:t.aj} {l:List Nat} {r:List aL},(lf t cs).run H=some (x,l,r)->iJ H l:=by
 have rJ:∀ (t:V) (g:aL->aF (Option (t.aj×List Nat))),(∀ {av:aL} {x:t.aj} {l:List Nat},(g av).run H=some (x,l)->iJ H l)->
   ∀ {cs:List aL} {x:t.aj} {l:List Nat} {r:List aL},(match cs with | c::r=>(g c).map λo=>o.map λ(x,l)=>(x,l,r) | []=>.none:aF (Option (t.aj×List Nat×List aL))).run H=some (x,l,r)->iJ H l:=by
  intro t g aD cs x l r h;cases cs with
  | nil=>cases h
  | cons c cs=>
   simp  [aF.map,aF.run_bind,aPK]at h;grind
 intro t;induction t with
 | bool=>intro cs x l r h;exact rJ .bool (eK .bool) t_ h
 | int k=>intro cs x l r h;exact rJ (.int k) (eK (.int k)) t_ h
 | str=>intro cs x l r h;exact rJ .str (eK .str) t_ h
 | dc=>
  intro cs x l r h;obtain⟨_,rfl,rfl⟩:=h;exact .nil H
 | ad t aP=>intro cs x l r h;exact aP h
 | ar a b hi gj=>
  intro cs x l r h;simp only[lf,aF.fZ,amj,aPK]at h;obtain⟨⟨y,m,q⟩,E,⟨z,dw,q'⟩,L,rfl,rfl,rfl⟩:=h;exact (hi E).append (gj L)
 | slice e aP=>intro cs x l r h;exact rJ (.slice e) (eK (.slice e)) t_ h
 | array n e aP=>
  intro cs xs l r h;simp  [lf]at h;have key:∀ (n:Nat) {cs:List aL} {xs:List e.aj} {l:List Nat} {r:List aL},(n.rec (motive:=λ_=>List aL->aF (Option (List e.aj×List Nat×List aL))) (λcs=>.ret (some ([],[],cs)))
     (λ_ aP cs=>(lf e cs).eF λ(x,l,r)=>(aP r).eF λ(xs,m,q)=>.ret (some (x::xs,l++m,q))) cs).run H=some (xs,l,r)->iJ H l:=by
   intro n;induction n with
   | zero=>intro cs xs l r h;cases h;exact .nil H
   | succ n FK=>
    intro cs xs l r h;simp only[aF.fZ,amj,aPK]at h;obtain⟨⟨y,m,q⟩,E,⟨z,dw,q'⟩,L,rfl,rfl,rfl⟩:=h;exact (aP E).append (FK L)
  grind
 | bO e aP=>intro cs x l r h;exact rJ (.bO e) (wY e (lf e)) (YD aP) h
 | map k v zW zX=>intro cs x l r h;exact rJ (.map k v) (eK (.map k v)) t_ h
 | fn a b hi gj=>intro cs x l r h;exact rJ (.fn a b) (eK (.fn a b)) t_ h
 | cG a aP=>intro cs x l r h;exact rJ (.cG a) (eK (.cG a)) t_ h
 | eW=>intro cs x l r h;exact rJ .eW (eK .eW) t_ h
 | cM e aP=>intro cs x l r h;exact rJ (.cM e) (eK (.cM e)) t_ h
theorem pj{av:aL}{x:t.aj}(h:(ej t av).run H=some (x,l)):iJ H l:=by
 have b8:(l4 t av).run H=some (x,l)->iJ H l:=by
  intro h;unfold l4 at h;split at h
  ·exact YD (λh=>YE _ h) h
  ·split at h
   ·exact t_ h
   ·cases h
 cases av with
 | val dM y=>
  simp  [ej,aPK]at h;obtain⟨z,bA,rfl,rfl⟩:=h;exact .nil H
 | agg n f=>
  simp  [ej]at h;split at h
  ·cases h
  ·simp only[aF.fZ,amj,aF.dC]at h;obtain⟨⟨y,m,q⟩,E,L⟩:=h;split at L
   ·obtain⟨rfl,rfl⟩:=L;exact YE t E
   grind
 | _=>exact b8 h
theorem Am(H:Nat->b9)(x:b9):fK H x=x\/(∃ e xs,x.body=.bn e xs/\fK H x=⟨x.gen,.jz e xs⟩)\/(∃ k v es,x.body=.mp k v es/\fK H x=⟨x.gen,.k9 k v es⟩)\/
  ∃ t f y m,x.body=.cells t f/\(lf t ((List.range t.size).map f)).run H=some (y,m,[])/\fK H x=⟨x.gen,.im t y⟩:=by
 cases al:x.body with
 | bn e xs=>exact .inr (.inl ⟨e,xs,rfl,by simp[fK,al]⟩)
 | mp k v es=>exact .inr (.inr (.inl ⟨k,v,es,rfl,by simp[fK,al]⟩))
 | cells t f=>
  cases aD:(lf t ((List.range t.size).map f)).run H with
  | none=>exact .inl (by simp[fK,al,aD])
  | some z=>
   obtain⟨y,m,r⟩:=z;cases r with
   | nil=>exact .inr (.inr (.inr ⟨t,f,y,m,rfl,aD,by simp[fK,al,aD]⟩))
   | cons c r=>exact .inl (by simp[fK,al,aD])
 | _=>exact .inl (by simp[fK,al])
theorem anp{x:b9}{k:bL}(h:(fK H x).body.ch k=true):(x.body.ch k=true/\fK H x=x):=by
 rcases Am H x with e | ⟨_,_,_,e⟩ | ⟨_,_,_,_,e⟩ | ⟨_,_,_,_,_,_,e⟩
 ·grind
 all_goals rw[e]at h;cases h
theorem YF(s:aB)(l:List Nat)(kap:Nat->bL):fI s.aa kap (s.cD l).aa kap:=by
 rw[X6];intro b;simp  [aB.cD];split
 ·rcases Am s.aa (s.aa b) with e | ⟨_,_,al,e⟩ | ⟨_,_,_,al,e⟩ | ⟨_,_,_,_,al,_,e⟩
  ·rw[e];exact tQ.refl _ _
  ·rw[e];exact⟨amn _,λ_=>⟨λh=>(by cases h),λ_=>⟨by rw[al];rfl,rfl,by rw[al];rfl,by rw[al];rfl⟩,λh=>(by cases h),λh=>(by cases h)⟩⟩
  ·rw[e];exact⟨amn _,λ_=>⟨λh=>(by cases h),λh=>(by cases h),λ_=>⟨by rw[al];rfl,rfl⟩,λh=>(by cases h)⟩⟩
  ·rw[e];exact⟨amn _,λ_=>⟨λ_=>⟨by rw[al];rfl,rfl⟩,λh=>(by cases h),λh=>(by cases h),λh=>(by cases h)⟩⟩
 ·exact tQ.refl _ _
theorem anq(s:aB)(l:List Nat):yg s.aa (s.cD l).aa:=by
 intro e m hm;simp only[aB.cD]at hm;split at hm
 ·rcases Am s.aa (s.aa cF) with k | ⟨_,_,_,k⟩ | ⟨_,_,_,_,k⟩ | ⟨_,_,_,_,_,_,k⟩
  ·rw[k]at hm;exact hm
  all_goals rw[k]at hm;cases hm
 ·exact hm
variable {a:Act}{w:World}{kap:Nat->bL}{F:Nat->Prop}
theorem bu.mR{C:cH}{s:aB}(kP:iJ s.aa l)(h:bu C s a w kap F) :
  ∃ F',(∀ r,F r->F' r)/\bu C (s.cD l) a w kap F'/\kN s.aa kap F' l:=by
 let F':=λr=>F r\/∃ b∈l,(s.aa b).body.ch (kap b)=true/\(kap b).aa=r;have bp:∀ r,F r->F' r:=λr D=>.inl D;have w2:kN s.aa kap F' l:=λb U au=>.inr ⟨b,U,au,rfl⟩;have PZ:∀ b,((s.cD l).aa b).body.ch (kap b)=true->b ∉ l/\(s.aa b).body.ch (kap b)=true:=by
  intro b U;simp  [aB.cD]at U;by_cases ho:b∈l
  ·rw[if_pos ho]at U;obtain⟨aM,aT⟩:=anp U;obtain⟨bG,c2⟩:=kP b ho;cases al:(s.aa b).body with
   | bn e xs=>simp[fK,al,b'.ch]at U
   | mp k v es=>simp[fK,al,b'.ch]at U
   | cells t f=>
    obtain⟨y,m,g,_⟩:=c2 t f al;simp[fK,al,g,b'.ch]at U
   | cG k v c r=>rw[al]at bG;cases bG
   | h6 e xs i v=>rw[al]at bG;cases bG
   | _=>rw[al]at aM;cases aM
  grind
 have ah:=YF s l kap;refine⟨F',bp,?_,w2⟩;refine h.move ah bp (λr D=>D.imp id λ⟨b,_,E,L⟩=>.inl ⟨b,E,L⟩) (amn _) (λ_ _ _=>rfl) (dL.refl _) (λ_ b=>?_) (λb U=>?_) (λb bj U ef e=>h.inj b bj (PZ b U).2 (PZ bj ef).2 e) (λr D=>?_) (λb _ U=>⟨rfl,?_⟩) (anq s l)
 ·show c6 C.P (s.cD l).aa kap F' w b;by_cases ho:b∈l
  ·have a1:=h.bF b;have Ki:(s.cD l).aa b=fK s.aa (s.aa b):=by simp[aB.cD,ho]
   have k_:fK s.aa (s.aa b)=s.aa b->c6 C.P (s.cD l).aa kap F' w b:=λe=>c6.k_ a1 ah bp (di.refl _ _) (by grind) rfl λ_=>rfl;cases al:(s.aa b).body with
   | bn e xs=>
    unfold c6 at a1 ⊢;rw[al]at a1;rw[Ki];simp  [fK,al];exact PE a1 bp λaC=>w2 b ho (by rw[al];simp[b'.ch,aC])
   | mp k v es=>
    unfold c6 at a1 ⊢;rw[al]at a1;rw[Ki];simp  [fK,al];exact Ya a1 bp (w2 b ho (by rw[al];rfl))
   | cells t f=>
    obtain⟨y,m,g,hm⟩:=(kP b ho).2 t f al;unfold c6 at a1 ⊢;rw[al]at a1;rw[Ki];simp  [fK,al,g];obtain⟨cs,T,aM,aT,b5⟩:=a1;have ka:ft C.P s.aa kap F w ((List.range t.size).map f) cs.toList:=FJ (by have:=aT.1;omega) λi G=>by
     simp_all
    obtain⟨c,d,amP,bG,c2⟩:=PG h.bF bp t g (λc hc=>w2 c (hm c hc)) ka;cases d with
    | cons _ _=>exact c2.elim
    | nil=>
     refine⟨c,⟨w2 b ho (by rw[al];rfl),rfl,λj aK=>?_⟩,bG⟩;have gQ:j<cs.size:=by grind
     simp  [World.cell?,aQz gQ];grind
   | _=>exact k_ (by simp[fK,al])
  ·exact c6.k_ (h.bF b) ah bp (di.refl _ _) (by simp[aB.cD,ho]) rfl λ_=>rfl
 ·obtain⟨aM,aT⟩:=PZ b U;have au:=h.own b aT;refine⟨au.1,λay=>?_,.inl ⟨b,aT,rfl⟩⟩;rcases ay with ay | ⟨b0,m1,m2,m3⟩
  ·grind
  ·exact aM (h.inj b b0 aT m2 m3.symm ▸ m1)
 ·rcases D with D | ⟨b,_,U,rfl⟩
  ·exact h.ds r D
  ·exact (h.own b U).1
 ·split at U
  ·rcases Am s.aa (s.aa b) with e | ⟨_,_,al,e⟩ | ⟨_,_,_,al,e⟩ | ⟨_,_,_,_,al,_,e⟩
   ·grind
   ·rw[e]at U;simp[b'.hk,b'.iR]at U
   ·rw[al];exact .inr rfl
   ·rw[al];exact .inl rfl
  omega
section
variable {C:cH} {T:Nat->V} {br:Nat->Option aO} {o:Oper} {s:aB} {res:ez}
theorem bu.iT(h:bu C s a w kap F)(U:b<C.bZ):b<fz:=aPG U h.hB
variable {l:List aL}
theorem bu.newVar(h:bu C s a w kap F)(FH:b<fz){cs:List Value}{ty:TypeId}(ah:ft C.P s.aa kap F w l cs)(aH:l.length=t.size)(P0:PC C.P t ty) :
  ∃ bT,bu C (s.ct b ⟨(s.aa b).gen+1,.cells t (hY l)⟩) a (w.alloc (.cells cs.toArray ty)) bT F/\(bT b).aa=w.heap.size:=by
 refine⟨_,h.alloc (k:=⟨w.heap.size,0,0,false⟩) FH (aQq _) rfl λH bT pk J2 dv=>?_,by simp⟩;refine⟨cs.toArray,ty,tR _ _,⟨by simp[<-ah.len,aH],P0⟩,λi G=>?_⟩;have:=ah.n1 i (by omega);have e:cs.toArray.getD i Go.undef=cs.getD i Go.undef:=by simp
 rw[e];exact⟨bM.later dv (λ_ D=>D) (di.alloc h.ds _) this.1,this.2⟩
theorem F3(t:V){P:Program}{z:Value}(h:l5 t z.cells.toList=some []):(vb t).length=t.size/\z.cells.size=t.size:=by
 obtain⟨c,e,E,L⟩:=yj (P:=P) (H:=λ_=>⟨0,.ev⟩) (kap:=λ_=>⟨0,0,0,true⟩) (F:=λ_=>True) (w:=default) t h;rw[aPT]at e;have:=jN t E;have:=L.len;grind
theorem anr(aU:eg C.P T){ty:TypeId}(bo:∀ i,o.dst=some i->i<C.bZ)(au:o.op=.alloc ty)(h:(cP C.aX T br (bh C.aX s.aA) o).run s.aa=some res)(pf:T ty≠.dc):cR C o s res:=by
 simp only[cP,au]at h;obtain⟨b,ax,ak⟩:=tV h;simp only[if_neg pf,amo]at ak;subst ak;intro a w kap F Q D _ _;have dF:=aU.ca rfl pf;obtain⟨i,z,E,L,an,a6,bS,ek⟩:=nv dF.nu;obtain⟨c,e,iy,z2⟩:=yj (P:=C.P) (H:=s.aa) (kap:=kap) (F:=F) (w:=w) (T ty) bS;rw[aPT]at e;have bA:=F3 (T ty) (P:=C.P) bS;obtain⟨bT,cq,c7⟩:=D.newVar (b:=b) (D.iT (bo b ax)) (t:=T ty) (ty:=ty) z2 bA.1 dF.Yx;have du:(execOp a.eval o).run C.P w=.ok (.value (.pointer (some ⟨w.heap.size,0,none⟩))) (w.alloc (.cells c.toArray ty)):=by
  have CY:z.cells=c.toArray:=by grind
  simp[execOp,au,Instr.alloc,sJ E a6,newVar,newRow,CY]
 refine h7 (by grind) du ⟨bT,F,bu.set (s:=s.ct b _) cq bo ⟨⟨?_,rfl⟩,λ_ _=>?_⟩⟩
 ·simp[aB.ct]
 grind
theorem P1{P:Program}{av:aL}{v:Value}(h:cellsOf t av=some l)(af:bM P H kap F w av v):ft P H kap F w l v.cells.toList:=by
 unfold cellsOf at h;split at h
 ·rename_i dM x;split at h
  ·rename_i he;subst he;simp only[amo]at h;subst h;obtain⟨⟨cs,rfl,_⟩,hc⟩:=af;simp only[cw]at hc;exact CJ _ hc
  grind
 ·rename_i n f;split at h
  ·simp only[amo]at h;subst h;obtain⟨aG,rfl,E,L⟩:=af;exact FJ E L
  grind
 ·rename_i n e kt aZ x;split at h
  ·simp only[amo]at h;subst h;obtain⟨⟨cs,rfl,_⟩,hc⟩:=af;exact CJ _ hc
  grind
 ·rename_i n e m f;split at h
  ·simp only[amo]at h;subst h;obtain⟨aG,rfl,E,L⟩:=af;exact FJ E L
  grind
 ·split at h
  ·have one:v.oneCell'=true->l=[av]->ft P H kap F w l v.cells.toList:=by
    intro E L;subst L;rw[JU E];exact⟨⟨af,E⟩,trivial⟩
   split at h
   ·rename_i dM x;split at h
    ·rename_i CU;obtain⟨aM,aT⟩:=(ee CU).1 af;exact one (PB CU aT) (aQh h).symm
    grind
   ·exact one af.1.2 (aQh h).symm
   ·exact one af.1.2 (aQh h).symm
   ·exact one af.1.2 (aQh h).symm
   ·refine one ?_ (aQh h).symm;obtain⟨p,bC,rfl,_⟩:=af;rfl
   ·exact one af.1.2 (aQh h).symm
   ·refine one ?_ (aQh h).symm;obtain⟨aG,rfl,_⟩:=af;rfl
   ·refine one ?_ (aQh h).symm;simp only[bM]at af;subst af;rfl
   ·exact one af.1.2 (aQh h).symm
   ·cases h
   ·cases h
   ·refine one ?_ (aQh h).symm;simp only[bM]at af;subst af;cases v<;>first | rfl | grind | grind | grind | grind
   grind
  grind
end
end Go.Fer
namespace Go.Fer
open Go.RowKit
theorem Kj:∀ (l:List Value) (k off:Nat) (cs:Array Value),off+k+l.length<=cs.size->
  ((l.zipIdx k).foldl (λ(cs:Array Value) (p:Value×Nat)=>cs.setIfInBounds (off+p.2) p.1) cs).toList=cs.toList.take (off+k)++(l++cs.toList.drop (off+k+l.length))
 | [],k,off,cs,h=>by simp
 | c::l,k,off,cs,h=>by
  simp;rw[Kj l (k+1) off _ (by grind)];grind [List.take_set,List.drop_set,List.take_succ_eq_append_getElem]
section
variable {P:Program} {w:World}
theorem ans(w:World)(b off:Nat)(v:Value){cs:Array Value}{T:TypeId}{fK:z21'}(h:w.heap[b]?=some (.cells cs T fK)) :
  (w.setCell ⟨b,off,none⟩ v).heap[b]?=some (.cells (cs.setIfInBounds off v) T fK):=by
 grind [World.setCell]
theorem yn{b:Nat}{T:TypeId}:∀ (aG:List Value) (off i:Nat) (w:World) (cs:Array Value),w.heap[b]?=some (.cells cs T (0,0))->off+i+aG.length<=cs.size->(∀ v∈aG,v.oneCell'=true)->
  ∃ w' ew,(storeCells ⟨b,off,none⟩ aG i).run P w=.ok () w'/\w'.heap[b]?=some (.cells ew T (0,0))/\ew.toList=cs.toList.take (off+i)++(aG++cs.toList.drop (off+i+aG.length))/\
   (∀ r,r≠b->w'.heap[r]?=w.heap[r]?)/\w'.heap.size=w.heap.size/\dL w w'
 | [],off,i,w,cs,h,_,_=>⟨w,cs,by rfl,h,by simp,λ_ _=>rfl,rfl,dL.refl w⟩
 | v::aG,off,i,w,cs,h,ah,af=>by
  have dv:off+i<cs.size:=by grind
  have hc:w.cell? ⟨b,off+i,none⟩=some cs[off+i]:=by rw[Al h];simp
  have ay:w.frozen? ⟨b,off+i,none⟩=false:=by simp[World.frozen?,h]
  have E:=ans w b (off+i) v h;obtain⟨w',ew,cq,c7,fL,oJ,n9,oK⟩:=yn aG off (i+1) (w.setCell ⟨b,off+i,none⟩ v) _ E (by grind) (λu hu=>af u (by grind));refine⟨w',ew,?_,c7,?_,?_,by simp_all,dL.trans (b:=w.setCell ⟨b,off+i,none⟩ v) ⟨rfl,rfl,rfl⟩ oK⟩
  ·simp  [storeCells,tW,run_store P w _ v _ (af v (by simp)),hc,ay,Result.andThen_ok];omega
  ·rw[fL];have:=Kj [v] 0 (off+i) cs (by grind);simp only[List.zipIdx_cons,List.zipIdx_nil,aP3,List.foldl_nil,aRl]at this;rw[this];have aE:(cs.toList.take (off+i)).length=off+i:=by grind
   rw[List.take_append,List.drop_append,aE];simp only[show off+(i+1) - (off+i)=1 from by omega,show off+(i+1)+aG.length - (off+i)=aG.length+1 from by omega];have c_:List.drop (off+(i+1)+aG.length) (cs.toList.take (off+i))=[]:=List.drop_of_length_le (by omega);simp;grind
  grind [Below.heap_setCell]
end
section
variable {C:cH} {T:Nat->V} {br:Nat->Option aO} {o:Oper} {s:aB} {res:ez}
theorem ant(aU:eg C.P T){ty:TypeId}{x:Operand}(bo:∀ i,o.dst=some i->i<C.bZ)(au:o.op=.box ty x)(h:(cP C.aX T br (bh C.aX s.aA) o).run s.aa=some res):cR C o s res:=by
 simp  [cP,au]at h;split at h
 ·rename_i l ah;obtain⟨b,ax,ak⟩:=tV h;split at ak;case isFalse=>grind
  rename_i hlen;simp  at ak;subst ak;intro a w kap F Q D bb _;have af:=db D x rfl bb;obtain⟨bT,cq,c7⟩:=D.newVar   (D.iT (bo b ax))     (P1 ah af) hlen (by
   by_cases hu:T ty=.dc
   ·intro n s h;grind
   ·exact (aU.ca rfl hu).Yx)
  have du:(execOp a.eval o).run C.P w=.ok (.value (.pointer (some ⟨w.heap.size,0,none⟩))) (w.alloc (.cells (a.eval x).cells.toList.toArray ty)):=by
   simp_all[execOp,Instr.box,newVar,newRow]
  refine h7 (by grind) du ⟨bT,F,bu.set   cq bo ⟨⟨?_,rfl⟩,λ_ _=>?_⟩⟩
  ·simp[aB.ct]
  grind
 ·cases h
variable {P:Program}
theorem anu:∀ (t:V) {l:List Field} {off:Nat},df P t (.inr (l,off))=true->∀ f∈l,∃ s,cx P s f.type:=by
 intro t;induction t with
 | ar a b hi gj=>
  intro l off h;match l,h with
  | [],h=>simp
  | [x],h=>simp  [df]at h
  | [x,y],h=>
   simp  [df]at h;intro f ay;simp  at ay;rcases ay with rfl | rfl
   ·exact⟨a,h.1.1.1.2⟩
   ·exact⟨b,h.2.1.1.2⟩
  | x::y::z::l,h=>
   simp  [df]at h;intro f ay;rcases List.mem_cons.1 ay with rfl | ay
   ·exact⟨a,h.1.1.1.2⟩
   grind
 | _=>intro l off h;simp only[df,aml]at h
theorem cx.anv{t:V}{id:TypeId}(h:cx P (.ad t) id){gw:Array Field}(mv:P.underlying id=some (.struct gw)):∀ f∈gw.toList,∃ s,cx P s f.type:=by
 obtain⟨_,_,an,a6⟩:=h.FZ;grind [anu]
theorem ft.replace{H:Nat->b9}{kap:Nat->bL}{F:Nat->Prop}{w:World}{as l:List aL}{us aG:List Value}(h:ft P H kap F w as us)(k:ft P H kap F w l aG)(off:Nat) :
  ft P H kap F w (as.take off++(l++as.drop (off+l.length))) (us.take off++(aG++us.drop (off+aG.length))):=by
 have Kk:∀ {as:List aL} {us:List Value} (n:Nat),ft P H kap F w as us->ft P H kap F w (as.take n) (us.take n):=by
  intro as;induction as with
  | nil=>intro us n h;cases us<;>first | exact h.elim | grind
  | cons a as aP=>intro us n h;cases us with
   | nil=>exact h.elim
   | cons u us=>cases n with
    | zero=>trivial
    | succ n=>exact⟨h.1,aP n h.2⟩
 have aLo:∀ {as:List aL} {us:List Value} (n:Nat),ft P H kap F w as us->ft P H kap F w (as.drop n) (us.drop n):=by
  intro as;induction as with
  | nil=>intro us n h;cases us<;>first | exact h.elim | grind
  | cons a as aP=>intro us n h;cases us with
   | nil=>exact h.elim
   | cons u us=>cases n with
    | zero=>grind
    | succ n=>exact aP n h.2
 rw[<-k.len];grind [append]
theorem YG{P:Program}{H:Nat->b9}{kap:Nat->bL}{F:Nat->Prop}{w:World}{t:V}{id:TypeId}{gw:Array Field}(dF:cx P (.ad t) id)(mv:P.underlying id=some (.struct gw)){place:Nat->Option (z21')}
  (mS:∀ i f s,gw[i]?=some f->cx P s f.type->place i=some (f.offset,s.size)):∀ (bt:List (Nat×aL)) (iz:List (Nat×Value)) {as Kl:List aL} {cs:Array Value},ft P H kap F w as cs.toList->J6 t as bt=some Kl->
  bt.length=iz.length->(∀ i (h:i<bt.length) (e0:i<iz.length),bt[i].1=iz[i].1/\bM P H kap F w bt[i].2 iz[i].2)->∃ ew,Instr.fill place cs iz=some ew/\ft P H kap F w Kl ew.toList
 | [],[],as,Kl,cs,aY,ay,_,_=>by cases ay;exact⟨cs,rfl,aY⟩
 | (i,av)::bt,(n6,v)::iz,as,Kl,cs,aY,ay,hlen,gu=>by
  have aW:=gu 0 (by simp) (by simp);simp  at aW;obtain⟨rfl,af⟩:=aW;simp  [J6]at ay;split at ay
  ·grind
  ·rename_i s off vf;split at ay
   ·grind
   ·rename_i l ah;split at ay
    ·rename_i hc;obtain⟨aLp,qa,f1,f2,f3,f4,f5⟩:=dF.field vf;rw[mv]at f1;simp  at f1;subst f1;have ai:=mS i qa s f2 f4;rw[f3]at ai;have ka:=P1 ah af;have cN:v.cells.size=s.size:=by have:=ka.len;grind
     have qX:=by simpa using aY.len
     have Km:=Kj v.cells.toList 0 off cs (by grind);have e:(v.cells.zipIdx.foldl (λcs p=>cs.setIfInBounds (off+p.2) p.1) cs)=((v.cells.toList.zipIdx 0).foldl (λcs p=>cs.setIfInBounds (off+p.2) p.1) cs):=by
      rw[<-Array.foldl_toList];simp
     have F4:=aY.replace ka off;rw[hc.1]at F4;obtain⟨ew,aM,aT⟩:=YG dF mv mS bt iz (cs:=v.cells.zipIdx.foldl (λcs p=>cs.setIfInBounds (off+p.2) p.1) cs) (by rw[e,Km];omega) ay (by grind)
      (λj h e0=>by have:=gu (j+1) (by grind) (by grind);grind)
     grind [Instr.fill]
    grind
 | [],_::_,_,_,_,_,_,hlen,_=>by grind
 | _::_,[],_,_,_,_,_,hlen,_=>by grind
theorem YH:∀ {l:List (Nat×aL)},yk l->∀ i (h:i<l.length),(use l[i].2).1
 | a::l,h,0,_=>by
  obtain⟨n,a⟩:=a;cases a<;>first | trivial | exact h.1
 | a::l,h,i+1,G=>by
  have e0:=by obtain⟨n,a⟩:=a;cases a<;>first | exact h | exact h.2
  have:=YH e0 i (by grind);grind
theorem P2{a:Act}{w:World}{kap:Nat->bL}{F:Nat->Prop}(D:bu C s a w kap F)(bt:List (Nat×Operand))(bb:yk (bt.map λp=>(p.1,bh C.aX s.aA p.2))) :
  ∀ i (h:i<(lG (bt.map λp=>(p.1,bh C.aX s.aA p.2))).length) (e0:i<(bt.map λp=>(p.1,a.eval p.2)).length),(lG (bt.map λp=>(p.1,bh C.aX s.aA p.2)))[i].1=(bt.map λp=>(p.1,a.eval p.2))[i].1/\bM C.P s.aa kap F w (lG (bt.map λp=>(p.1,bh C.aX s.aA p.2)))[i].2 (bt.map λp=>(p.1,a.eval p.2))[i].2:=by
 grind [YH,lG,qW,lJ]
theorem anw(aU:eg C.P T){ty:TypeId}{bt:Array (Nat×Operand)}(bo:∀ i,o.dst=some i->i<C.bZ)(au:o.op=.build ty bt)(P3:∀ m e,T ty≠.array m e)(h:(cP C.aX T br (bh C.aX s.aA) o).run s.aa=some res):cR C o s res:=by
 obtain⟨bt⟩:=bt;simp only[cP,au]at h;split at h
 ·rename_i t aH;have dF:=aU.ca aH (by simp);split at h
  ·rename_i cs qX;simp only[da,aF.dC,amo]at h;subst h;refine cR.pure (by grind) bo λa w kap F D bb _=>?_;obtain⟨gw,mv⟩:=dF.ad;obtain⟨i,z,E,L,an,a6,bS,ek⟩:=nv dF.nu;obtain⟨c,e,iy,z2⟩:=yj (P:=C.P) (H:=s.aa) (kap:=kap) (F:=F) (w:=w) (.ad t) bS;rw[aPT]at e;have anx:=dF.anv mv;have hm:=ChangeMaps.mapM_total (f:=λ(f:Field)=>(C.P.info? f.type).map λi=>(f.offset,i.size)) (0,0) (l:=gw.toList) (λf ay=>by
    obtain⟨s',vg⟩:=anx f ay;obtain⟨n6,_,CZ,_⟩:=nv vg.nu;simp_all)
   have mS:=run_places (P:=C.P) w gw.toList _ hm;obtain⟨ew,aM,aT⟩:=YG (w:=w) dF mv (place:=λj=>((gw.toList.map λf=>((C.P.info? f.type).map λi=>(f.offset,i.size)).getD (0,0)))[j]?)
    (λj f s' aK vg=>by
     obtain⟨n6,_,CZ,t',_⟩:=nv vg.nu;grind)
    _ _ (by rw[e];exact z2) qX (by simp[lG]) (P2 D bt bb)
   have hlen:=by simpa using aT.len
   refine⟨.agg ew,?_,ew.toList,by simp,by grind,λj aK=>?_⟩
   ·have rM:(gw.mapM λf=>do pure (f.offset,<-sizeOf f.type):Sem (Array (z21'))).run C.P w=.ok (gw.toList.map λf=>((C.P.info? f.type).map λi=>(f.offset,i.size)).getD (0,0)).toArray w:=by
     simp_all[Array.mapM_eq_mapM_toList]
    simp_all[execOp,Instr.build,sJ,en]
   ·have:=aT.n1 j aK;omega
  ·cases h
 ·grind
 ·cases h
end
end Go.Fer
namespace Go.Fer
open Go.RowKit
section
variable {C:cH} {T:Nat->V} {br:Nat->Option aO} {o:Oper} {s:aB} {res:ez}
theorem Kn{P:Program}{w w':World}{t:V}{id:TypeId}(h:cx P t id){p:Addr}{v:Value}(cN:v.cells.size=t.size)(az:(storeCells p v.cells.toList).run P w=.ok () w'):(storeVar id p v).run P w=.ok () w':=by
 simp[storeVar,h.size,cN,az]
theorem anz(aU:eg C.P T){ty:TypeId}{x y:Operand}(bo:o.dst=none)(au:o.op=.store ty x y)(h:(cP C.aX T br (bh C.aX s.aA) o).run s.aa=some res):cR C o s res:=by
 simp only[cP,au]at h;split at h
 ·rename_i cz b g i al;unfold PK at h;split at h
  ·rename_i bj g' ba;simp only[aF.gR,aF.dC]at h;split at h
   ·rename_i e xs n6 v cm;split at h
    ·rename_i hc;obtain⟨aD,ah⟩:=hc;simp only[amo]at h;subst h;intro a w kap F Q D bb G;have G:i=n6:=G;subst G;have E:=(db D x al bb.1).2 aD.symm (by rw[cm];rfl);have af:=db D y (av:=.own bj g') (p:=(use (bh C.aX s.aA y)).1) (by rw[<-ba]) bb.2;have a1:=D.bF b;unfold c6 at a1;rw[cm]at a1 E;obtain⟨aW,cs,h8,bG,c2,c3,c4,c5,ph,rK,ym⟩:=a1;have dF:=aU.ca (t:=T ty) rfl (by intro e;rw[e]at ah;cases ah);have oI:=JU af.1.2;have cN:(a.eval y).cells.size=(T ty).size:=by
      rw[oI];cases aH:T ty<;>simp_all[V.fY,V.size]
     have kh:(kap b).off+i<cs.size:=by
      have:i<(kap b).cap:=by omega
      rw[c5.1]at c2;omega
     have ai:a.eval x=.pointer (some ⟨(kap b).aa,(kap b).off+i,none⟩):=by rw[E.2.2];simp[b'.gP,c5.1]
     obtain⟨w',ew,cq,c7,fL,oJ,n9,oK⟩:=yn (P:=C.P) (a.eval y).cells.toList ((kap b).off+i) 0 w cs bG (by rw[oI];simp;omega) (λu hu=>by rw[oI]at hu;simp at hu;rw[hu];exact af.1.2);refine FY (w':=w') (by grind) (by simp[execOp,au,ai,Instr.storeAt,Instr.sureAddr,Kn dF cN cq]) ?_;rw[bo];refine⟨kap,F,?_⟩;have hp:fI s.aa kap (λq=>if q=b then (⟨(s.aa b).gen,.h6 e xs i (.own bj g')⟩:b9) else s.aa q) kap:=
      pd rfl (λh=>by cases h) (λ_=>by rw[cm];exact⟨rfl,rfl,rfl⟩) (λh=>by cases h) (λh=>by cases h)
     refine (D.qU (b:=b) (x:=⟨(s.aa b).gen,.h6 e xs i (.own bj g')⟩) (by rw[cm];simp[b'.ch,aW]) (by simp[b'.ch,aW]) hp (λh=>by cases h) (λh=>by cases h) oJ n9 oK λH pk dv he=>?_);rw[oI]at fL;simp only[aRl]at fL;have f':∀ k,ew[k]?=if k=(kap b).off+i then some (a.eval y) else cs[k]?:=by
      intro k;rw[<-aP2,fL];have mx:(cs.toList.take ((kap b).off+i)).length=(kap b).off+i:=by rw[aQl,aPY];omega
      rcases Nat.lt_trichotomy k ((kap b).off+i) with ak | ak | ak
      ·rw[if_neg (by omega),aP1 (by omega),List.getElem?_take_of_lt ak,aP2]
      ·rw[if_pos ak,amu (by omega),mx,ak];simp
      ·rw[if_neg (by omega),amu (by omega),mx,amu (by simp;omega),aQC];simp only[aQ',List.length_nil];rw[show (kap b).off+i+(0+1)+(k - ((kap b).off+i) - (0+1))=k from by omega,aP2]
     have Ko:ew.size=cs.size:=by
      rw[<-aPY,fL];grind
     have cf:ew.getD ((kap b).off+i) Go.undef=a.eval y:=by
      rw[aPI,f'];simp
     refine⟨aW,ew,h8,c7,by omega,c3,c4,c5,λj aK wW=>?_,by rw[cf];exact bM.later dv (λ_ D=>D) he af,by rw[cf];exact af.1.2⟩;obtain⟨bC,d1,d2⟩:=ph j aK wW;refine⟨bC,λq bB=>?_,fH e (λ_ D=>D) he d2⟩;have vh:q=0:=by have:=jN e d2;omega
     subst vh;rw[f',if_neg (by rw[c5.1];omega)];exact d1 0 bB
    ·cases h
   ·cases h
  ·cases h
 rename_i cz e8 anA al;simp only[aF.fZ,amj,aF.dC,amo]at h;obtain⟨wl,n_,rfl⟩:=h;have P4:cz=(use (bh C.aX s.aA x)).1:=by rw[al]
 have An:e8=(use (bh C.aX s.aA x)).2:=by rw[al]
 subst P4;subst An;clear al anA;intro a w kap F Q D bb _;have ai:bM C.P s.aa kap F w (use (bh C.aX s.aA x)).2 (a.eval x):=db D x rfl bb.1;have af:bM C.P s.aa kap F w (use (bh C.aX s.aA y)).2 (a.eval y):=db D y rfl bb.2;generalize (use (bh C.aX s.aA x)).2=anB at *
 generalize (use (bh C.aX s.aA y)).2=kO at *
 have ax:∀ c,o.op≠.defer c:=by grind
 have fin:∀ w',(Instr.storeAt ty (a.eval x) (a.eval y)).run C.P w=.ok () w'->dd C (s.iw wl) a w'->o.wpIn (eY C.r) 0 C.P a w (λa' w'=>dd C (s.jE o.dst ⟨(use (bh C.aX s.aA x)).1/\(use (bh C.aX s.aA y)).1,True,.undef,wl⟩) a' w') Q:=by
  intro w' E L;refine FY (w':=w') ax (by simp[execOp,au,E]) ?_;rw[bo];exact L
 unfold Yg at n_;cases anB with
 | eX b g off=>
  simp only[aF.gR,aF.dC]at n_;split at n_
  ·rename_i aD;split at n_
   ·rename_i n f cm;simp only[amj]at n_;obtain⟨l,ah,n_⟩:=n_;split at n_
    ·simp  at n_;subst n_;have Kp:=ai.2 aD.symm (by rw[cm];rfl);have ka:=P1 ah af;have a1:=D.bF b;unfold c6 at a1;rw[cm]at a1;obtain⟨cs,h8,bG,c2,c3⟩:=a1;have hlen:=ka.len;have qd:∀ u∈(a.eval y).cells.toList,u.oneCell'=true:=by
      intro u hu;obtain⟨i,G,rfl⟩:=List.mem_iff_getElem.1 hu;have:=(ka.n1 i (by omega)).2;grind
     obtain⟨w',ew,cq,c7,fL,oJ,n9,oK⟩:=yn (P:=C.P) (a.eval y).cells.toList off 0 w cs bG (by omega) qd;have cN:(a.eval y).cells.size=(T ty).size:=by grind
     have F5:T ty≠.dc:=by
      intro e;simp_all[cellsOf,V.fY]
     refine fin w' (by rw[Kp];simp[Instr.storeAt,Instr.sureAddr,Kn (aU.ca rfl F5) cN cq]) ⟨kap,F,?_⟩;have hp:fI s.aa kap (λi=>if i=b then (⟨(s.aa b).gen,.cells n (putCells f off l)⟩) else s.aa i) kap:=
      pd rfl (λ_=>by rw[cm];rfl) (λh=>by cases h) (λh=>by cases h) (λh=>by cases h)
     refine (D.qU     (by rw[cm];rfl) rfl hp (λ_=>by rw[cm];rfl) (λh=>by cases h) oJ n9 oK λH pk dv he=>?_);have Ko:ew.size=n.size:=by
      grind [Array.length_toList]
     refine⟨ew,h8,c7,⟨Ko,c2.2⟩,λi G=>?_⟩;have bN:ew.getD i Go.undef=ew.toList.getD i Go.undef:=by simp
     rw[bN,fL];simp only[aRl];have mx:(cs.toList.take off).length=off:=by grind
     unfold putCells;by_cases bf:off<=i/\i<off+l.length
     ·rw[if_pos bf];have aE:(cs.toList.take off++((a.eval y).cells.toList++cs.toList.drop (off+(a.eval y).cells.toList.length))).getD i Go.undef=(a.eval y).cells.toList.getD (i - off) Go.undef:=by
       grind
      rw[aE];have:=ka.n1 (i - off) (by omega);exact⟨bM.later dv (λ_ D=>D) he this.1,this.2⟩
     ·have aE:(cs.toList.take off++((a.eval y).cells.toList++cs.toList.drop (off+(a.eval y).cells.toList.length))).getD i Go.undef=cs.getD i Go.undef:=by
       rcases aQF i off with E | E
       ·simp_all[aP1]
       ·rw[amq,amu (by omega),mx,amu (by omega),aQC];rw[show off+(a.eval y).cells.toList.length+(i - off - (a.eval y).cells.toList.length)=i from by omega];simp
      grind [bM.later]
    grind
   grind
  grind
 | qS b g i off=>
  simp only[aF.fZ,amj,aF.run_bind,aF.gR,aF.dC]at n_;obtain⟨⟨z,l⟩,bA,n_⟩:=n_;split at n_
  ·rename_i aD;obtain⟨aD,C0⟩:=aD;have C0:b ∉ l:=by grind
   split at n_
   ·rename_i e xs cm;simp only[aP9]at n_;obtain⟨oL,CY,rfl⟩:=n_;obtain⟨fs,fQ,mu⟩:=ai.2 aD.symm (by rw[cm];rfl);rw[cm]at fs mu;simp only[b'.len,b'.gP]at fs mu;obtain⟨F',f1,bk,f2⟩:=bu.mR (pj bA) D;have yo:=oF D.bF f1 bA f2 af;have P5:((s.cD l).aa b)=s.aa b:=by simp[aB.cD,C0]
    have a1:=bk.bF b;unfold c6 at a1;rw[P5,cm]at a1;obtain⟨cs,h8,bG,c2,c3,c4,c5⟩:=a1.2 fQ;obtain⟨bC,d1,d2⟩:=c5 i fs;have PU:xs.getD i e.dU=xs[i]:=by grind
    rw[PU]at CY;have iA:=jN e d2;obtain⟨cU,cO,hO,bB,aLq,aLr,anC⟩:=amR e d2 CY yo.2;have F5:T ty≠.dc:=by
     intro aZ;have:=yo.1;rw[aZ]at this;exact this
    have Ao:(a.eval y).cells.toList.length=(T ty).size:=yo.1.len;have Kq:(i+1)*e.size<=(kap b).cap*e.size:=amt _ (by omega);have hbound:off+(T ty).size<=e.size:=by
     grind
    have qd:∀ u∈(a.eval y).cells.toList,u.oneCell'=true:=by
     intro u hu;have ka:=CJ (P:=C.P) (H:=λ_=>⟨0,.ev⟩) (kap:=λ_=>⟨0,0,0,true⟩) (T ty) yo.2;obtain⟨j,aK,rfl⟩:=List.mem_iff_getElem.1 hu;have:=(ka.n1 j (by rw[ka.len];exact aK)).2;grind
    have kh:(kap b).off+i*e.size+off+0+(a.eval y).cells.toList.length<=cs.size:=by
     grind
    obtain⟨w',ew,cq,c7,fL,oJ,n9,oK⟩:=yn (P:=C.P) (a.eval y).cells.toList ((kap b).off+i*e.size+off) 0 w cs bG kh qd;refine fin w' (by rw[mu];simp[Instr.storeAt,Instr.sureAddr,Kn (aU.ca rfl F5) (by omega) cq]) ⟨kap,F',?_⟩;have ua:s.iw ((ke l).run s.aa++[(b,⟨(s.aa b).gen,.bn e (xs.set i oL)⟩)])=(s.cD l).ct b ⟨(s.aa b).gen,.bn e (xs.set i oL)⟩:=by
     rw[CX,tZ]
    rw[ua];have hp:fI (s.cD l).aa kap (λn6=>if n6=b then (⟨(s.aa b).gen,.bn e (xs.set i oL)⟩:b9) else (s.cD l).aa n6) kap:=
     pd (by grind) (λh=>by cases h) (λ_=>by rw[P5,cm];exact⟨rfl,by simp[b'.len],rfl⟩) (λh=>by cases h) (λh=>by cases h)
    have YI:(kap b).fO=false:=fQ;refine bk.qU (b:=b) (x:=⟨(s.aa b).gen,.bn e (xs.set i oL)⟩) (by rw[P5,cm];simp[b'.ch,YI]) (by simp[b'.ch,YI]) hp (λh=>by cases h) (λh=>by cases h) oJ n9 oK λH pk dv he=>?_;refine⟨λaC=>(by grind),λ_=>?_⟩;have Ko:ew.size=cs.size:=by
     rw[<-aPY,fL];grind
    refine⟨ew,h8,c7,by omega,by grind,c4,λj aK=>?_⟩;have gQ:j<xs.length:=by grind
    simp only[aRl]at fL kh;have f':∀ k,ew[k]?=if (kap b).off+i*e.size+off<=k/\k<(kap b).off+i*e.size+off+(T ty).size then (a.eval y).cells.toList[k - ((kap b).off+i*e.size+off)]? else cs[k]?:=by
     intro k;rw[<-aP2,fL];have mx:(cs.toList.take ((kap b).off+i*e.size+off)).length=(kap b).off+i*e.size+off:=by grind
     by_cases bf:(kap b).off+i*e.size+off<=k/\k<(kap b).off+i*e.size+off+(T ty).size
     ·rw[if_pos bf,amu (by omega),mx,aP1 (by omega)]
     ·rw[if_neg bf];rcases aQF k ((kap b).off+i*e.size+off) with E | E
      ·grind
      ·rw[amu (by omega),mx,amu (by omega),aQC];rw[show (kap b).off+i*e.size+off+(a.eval y).cells.toList.length+(k - ((kap b).off+i*e.size+off) - (a.eval y).cells.toList.length)=k from by omega];simp
    by_cases wW:j=i
    ·subst wW;have aE:(xs.set j oL)[j]=oL:=by simp
     rw[aE];refine⟨cU++((a.eval y).cells.toList++hO),λk ak=>?_,fH e (λ_ D=>D) he anC⟩;rw[f'];subst bB;simp only[aP8]at ak iA;by_cases bf:off<=k/\k<off+(T ty).size
     ·rw[if_pos (by omega)];rw[show (kap b).off+j*e.size+k - ((kap b).off+j*e.size+off)=k - cU.length from by omega];grind
     grind
    ·have aE:(xs.set i oL)[j]=xs[j]:=by grind
     rw[aE];obtain⟨YJ,P6,Ap⟩:=c5 j gQ;refine⟨YJ,λk ak=>?_,fH e (λ_ D=>D) he Ap⟩;rw[f',if_neg]
     ·grind
     ·have aLs:=jN e Ap;rcases aQF j i with E | E
      ·have:(j+1)*e.size<=i*e.size:=amt _ (by omega);grind
      ·have:(i+1)*e.size<=j*e.size:=amt _ (by omega);grind
   grind
  grind
 | _=>cases n_
end
end Go.Fer
