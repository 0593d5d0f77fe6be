/- Part 1 of the proof of FilesSeason: shallow programs of Go functions, and what they compute. No condition. -/
import Derived.Below
import Derived.OrdersIn
import Derived.RangeFuncCalls
import Derived.RangeFuncSeq
import Derived.Laws.StructEq
import Derived.Laws.Tables
import Derived.ChangeMaps3
noncomputable section
abbrev amj:=@Option.bind_eq_some_iff
abbrev amk:=@Option.some.injEq
abbrev aml:=@Bool.false_eq_true
abbrev amm:=@List.getElem_mem
abbrev amn:=@Bool.and_eq_true
abbrev amo:=@Nat.le_refl
abbrev amp:=@List.getD_eq_getElem?_getD
abbrev amq:=@decide_eq_true_eq
abbrev amr:=@List.mem_cons_of_mem
abbrev ams:=@List.getElem?_eq_getElem
abbrev amt:=@Nat.mul_le_mul_right
abbrev amu:=@List.getElem?_append_right
abbrev amx:=@Option.getD_some
abbrev aPz:=@Array.getD_eq_getD_getElem?
abbrev aPA:=@if_false
abbrev aPB:=@Nat.lt_of_lt_of_le
abbrev aPC:=@List.getElem_range
abbrev aPD:=@Prod.mk.injEq
abbrev aPE:=@List.drop_eq_getElem_cons
abbrev aPF:=@List.map_congr_left
abbrev aPG:=@Nat.le_trans
abbrev aPH:=@Bool.not_eq_true'
abbrev aPI:=@Array.length_toList
abbrev aPJ:=@List.length_map
abbrev aPK:=@Nat.zero_le
abbrev aPL:=@Int.le_refl
abbrev aPM:=@List.cons.inj
abbrev aPN:=@List.append_nil
abbrev aPO:=@Bool.or_eq_true
abbrev aPP:=@Option.isSome_some
abbrev aPQ:=@Int.toNat_natCast
abbrev aPR:=@decide_eq_true
abbrev aPS:=@List.map_cons
abbrev aPT:=@decide_eq_false_iff_not
abbrev aPU:=@List.eq_nil_of_length_eq_zero
abbrev aPV:=@List.mem_of_mem_take
abbrev aPW:=@List.getElem?_append_left
abbrev aPX:=@Array.getElem?_toList
abbrev aPY:=@List.foldl_cons
abbrev aPZ:=@List.map_append
abbrev aP0:=@List.length_filter_le
abbrev aP1:=@List.length_append
abbrev aP2:=@decide_eq_true_iff
abbrev aP3:=@Option.map_eq_some_iff
abbrev aP4:=@List.all_eq_true
abbrev aP5:=@decide_eq_false
abbrev aP6:=@of_decide_eq_true
abbrev aP7:=@List.mem_append_right
abbrev aP8:=@implies_true
abbrev aP9:=@Bool.not_true
abbrev aP':=@Nat.add_mul
abbrev aQa:=@List.mem_map_of_mem
abbrev aQb:=@Option.some.inj
abbrev aQc:=@List.take_length
abbrev aQd:=@List.flatMap_cons
abbrev aQe:=@decide_false
abbrev aQf:=@List.filter_congr
abbrev aQg:=@Bool.or_eq_false_iff
abbrev aQh:=@List.filter_append
abbrev aQi:=@List.nil_append
abbrev aQj:=@List.mem_of_find?_eq_some
abbrev aQk:=@List.length_set
abbrev aQl:=@Nat.lt_succ_self
abbrev aQm:=@List.length_take
abbrev aQn:=@List.length_cons
abbrev aQo:=@Bool.false_or
abbrev aQp:=@List.getElem_map
abbrev aQq:=@List.all_cons
abbrev aQr:=@List.getElem?_toArray
abbrev aQs:=@Nat.zero_add
abbrev aQt:=@List.length_replicate
abbrev aQu:=@Bool.not_false
abbrev aQv:=@List.getElem?_cons_zero
abbrev aQw:=@List.getElem?_cons_succ
abbrev aQx:=@List.mem_of_getElem?
abbrev aQy:=@Array.getElem?_eq_getElem
abbrev aQz:=@List.getElem?_drop
abbrev aQA:=@List.mem_cons_self
abbrev aQB:=@List.range_eq_range'
abbrev aQC:=@List.any_cons
abbrev aQD:=@Nat.lt_or_ge
abbrev aQE:=@List.map_map
abbrev aQF:=@List.take_add_one
abbrev aQG:=@List.append_assoc
abbrev aQH:=@List.take_of_length_le
abbrev aQI:=@List.pairwise_lt_range
abbrev aQJ:=@and_self
abbrev aQK:=@List.perm_ext_iff_of_nodup
abbrev aQL:=@List.take_append_drop
abbrev aQM:=@List.getElem?_take
abbrev aQN:=@List.mem_cons
abbrev aQO:=@List.mem_singleton
abbrev aQP:=@Bool.true_and
abbrev aQQ:=@List.length_singleton
abbrev aQR:=@List.getElem_append_right
abbrev aQS:=@List.mem_append_left
abbrev aQT:=@Nat.pow_le_pow_right
abbrev aQU:=@Bool.eq_iff_iff
abbrev aQV:=@Array.getElem?_replicate
abbrev aQW:=@List.getElem?_map
abbrev aQX:=@List.ext_getElem
abbrev aQY:=@Nat.le_of_not_lt
abbrev aQZ:=@Nat.pos_of_ne_zero
abbrev aQ0:=@List.nodup_cons
abbrev aQ1:=@List.ext_getElem?
abbrev aQ2:=@List.pairwise_map
abbrev aQ3:=@List.Pairwise.filter
abbrev aQ4:=@List.mem_flatMap
abbrev aQ5:=@List.mem_map
abbrev aQ6:=@Int.le_trans
abbrev aQ7:=@and_true
abbrev aQ8:=@Nat.min_eq_left
abbrev aQ9:=@Option.map_some
abbrev aQ':=@List.range_succ
abbrev aRa:=@Option.toList_some
abbrev aRb:=@Bool.true_eq_false
abbrev aRc:=@List.flatten_cons
abbrev aRd:=@decide_true
abbrev aRe:=@Nat.mul_le_mul
abbrev aRf:=@List.mem_range
abbrev aRg:=@Bool.false_and
abbrev aRh:=@Nat.add_zero
abbrev aRi:=@Nat.le_of_eq
abbrev aRj:=@Int.zero_add
abbrev aRk:=@List.length_drop
abbrev aRl:=@List.cons_append
abbrev aRm:=@List.range'_succ
abbrev aRn:=@Nat.succ_lt_succ
abbrev aRo:=@Nat.zero_lt_succ
abbrev aRp:=@List.filter_cons
abbrev aRq:=@true_and
abbrev z1':=List Int
abbrev z2':=List (List UInt8)
abbrev z12':=Int×Int
abbrev z16':=Int×z12'
abbrev z30':=Int×z16'
abbrev z3':=List (z30')
abbrev z4':=List (z12')
abbrev z24':=Nat×Nat
abbrev z5':=List (Nat×z24')
abbrev z6':=List (z16')
abbrev z7':=List ((Int×Int×Int)×Int)
abbrev z8':=List (Nat×(Nat×Nat))
abbrev z9':=List (z24')
abbrev z10':=List (Option Nat)
abbrev z11':=z3'×List (List (Int×z1'×Int×Int))×Int×z3'
abbrev z13':=List (Nat×z1')×Unit
abbrev z14':=z1'×Unit
abbrev z15':=(Int×Int)×(Nat×Nat×Nat)×z13'
abbrev z17':=(Int×Int)×Int
abbrev z18':=Int×z1'×z12'
abbrev z19':=z1'×Int
abbrev z20':=Int×Int×Int×Int×z1'
abbrev z21':=Int×Int×Int×z16'
abbrev z22':=Int×Unit
abbrev z23':=Int×z14'
abbrev z25':=List (z1')×Unit
abbrev z26':=List (z5')×z13'
abbrev z27':=z5'×Int×Int×(Int×Int)×z1'×z1'×z13'
abbrev z28':=Int×Bool
abbrev z29':=z1'×(Int×Int)×z16'
abbrev z31':=List UInt8×Int
abbrev z32':=List (Int×z1'×Int×Int)×Unit
abbrev z33':=(z1'×(Int×Int)×Int×Int×Int)×z20'
abbrev z34':=Int×z22'
abbrev z35':=List UInt8×List (z2')×z2'×Unit
set_option linter.unusedVariables false
set_option linter.unusedSimpArgs false
namespace Go.Fer
@[ext] structure M (af:Type):Type where
 fm:Prop
 a7:af->Prop
section
variable {af bet hj A rho:Type}
def mpure(x:af):M af:=⟨True,λy=>y=x⟩
def aq(m:M af)(f:af->M bet):M bet:=⟨m.fm/\∀ x,m.a7 x->(f x).fm,λy=>∃ x,m.a7 x/\(f x).a7 y⟩
def ag(p:Prop)(m:M af):M af:=⟨p/\m.fm,m.a7⟩
def eF(p:Prop)(x:af):M af:=⟨p,λy=>y=x⟩
def mM(p:af->Prop):M af:=⟨∃ x,p x,p⟩
variable {m:M af}
theorem zV{n:M af}(E:m.fm<->n.fm)(L:∀ x,m.a7 x<->n.a7 x):m=n:=by
 cases m;cases n;simp only[M.mk.injEq];grind
@[simp] theorem tG (x:af):(mpure x).fm=True:=rfl
@[simp] theorem aLf (x y:af):(mpure x).a7 y=(y=x):=rfl
@[simp] theorem aK (x:af) (f:af->M bet):aq (mpure x) f=f x:=zV (by simp[aq,mpure]) (by simp[aq,mpure])
@[simp] theorem aLg (m:M af):aq m mpure=m:=zV (by simp[aq,mpure]) (by simp[aq,mpure])
variable {p:Prop}
theorem bb(h:p)(m:M af):ag p m=m:=zV (by simp[ag,h]) (by simp[ag])
@[simp] theorem cj (m:M af):ag True m=m:=bb trivial m
theorem Fz(p:Prop)(m:M af)(f:af->M bet):aq (ag p m) f=ag p (aq m f):=zV (by simp[aq,ag,and_assoc]) (by simp[aq,ag])
@[simp] theorem sy (x:af):eF True x=mpure x:=rfl
theorem bN(h:p)(x:af):eF p x=mpure x:=zV (by simp_all) (by simp_all)
theorem ff(p:Prop)(x:af)(f:af->M bet):aq (eF p x) f=ag p (f x):=by
 apply zV
 ·simp[aq,eF,ag]
 ·simp[aq,eF,ag]
theorem Pu{c:Prop}[Decidable c](m n:M af)(f:af->M bet):aq (if c then m else n) f=if c then aq m f else aq n f:=by grind
def a6(n m:M af):Prop:=m.fm->n.fm/\∀ y,n.a7 y->m.a7 y
theorem wK(m:M af):a6 m m:=λh=>⟨h,λ_ h=>h⟩
theorem FA{a b c:M af}(h:a6 a b)(k:a6 b c):a6 a c:=λay=>⟨(h (k ay).1).1,λy a_=>(k ay).2 y ((h (k ay).1).2 y a_)⟩
theorem FB{a b:M af}(h:a=b):a6 a b:=h ▸ wK a
def c6(m:M af)(p:af->Prop):Prop:=m.fm/\∀ y,m.a7 y->p y
variable {p:af->Prop}
theorem c6.mono{q:af->Prop}(h:c6 m p)(k:∀ y,p y->q y):c6 m q:=⟨h.1,λy a_=>k y (h.2 y a_)⟩
theorem dF{x:af}:c6 (mpure x) p<->p x:=⟨λh=>h.2 x rfl,λh=>⟨trivial,λ_ e=>e ▸ h⟩⟩
theorem fD{f:af->M bet}{p:bet->Prop}:c6 (aq m f) p<->c6 m λx=>c6 (f x) p:=
 ⟨λh=>⟨h.1.1,λx ao=>⟨h.1.2 x ao,λy a_=>h.2 y ⟨x,ao,a_⟩⟩⟩,λh=>⟨⟨h.1,λx ao=>(h.2 x ao).1⟩,λy ⟨x,ao,a_⟩=>(h.2 x ao).2 y a_⟩⟩
theorem h6{q:Prop}:c6 (ag q m) p<->q/\c6 m p:=by
 simp[c6,ag,and_assoc]
inductive aF(A rho:Type) where
 | next (s:A)
 | done (r:rho)
inductive FC(body:A->M (aF A rho)):A->Prop where
 | mk (s:A) (h:(body s).fm) (k:∀ s',(body s).a7 (.next s')->FC body s'):FC body s
inductive CB(body:A->M (aF A rho)):A->rho->Prop where
 | done (s:A) (r:rho) (h:(body s).a7 (.done r)):CB body s r
 | next (s s':A) (r:rho) (h:(body s).a7 (.next s')) (k:CB body s' r):CB body s r
def dG(body:A->M (aF A rho))(s:A):M rho:=⟨FC body s,CB body s⟩
theorem zW(body:A->M (aF A rho))(s:A) :
  dG body s=aq (body s) fun | .next s'=>dG body s' | .done r=>mpure r:=by
 apply zV
 ·constructor
  ·rintro⟨_,h,k⟩;refine⟨h,λx ao=>?_⟩;cases x with
   | next s'=>exact k s' ao
   | done r=>trivial
  ·rintro⟨h,k⟩;exact⟨s,h,λs' ay=>k _ ay⟩
 ·intro r;constructor
  ·rintro (⟨_,_,h⟩ | ⟨_,s',_,h,k⟩)
   ·exact⟨.done r,h,rfl⟩
   ·exact⟨.next s',h,k⟩
  ·rintro⟨x,ao,D⟩;cases x with
   | next s'=>exact .next s s' r ao D
   | done jO=>cases D;exact .done s _ ao
theorem FD{body:A->M (aF A rho)}{s s':A}(h:body s=mpure (.next s')):dG body s=dG body s':=by
 rw[zW,h,aK]
theorem wL{body:A->M (aF A rho)}{s:A}{r:rho}(h:body s=mpure (.done r)):dG body s=mpure r:=by
 rw[zW,h,aK]
theorem zX{body:A->M (aF A rho)}{p:rho->Prop}(I:A->Prop)(Pv:A->Nat)
  (round:∀ s,I s->c6 (body s) fun | .next s'=>I s'/\Pv s'<Pv s | .done r=>p r) (s:A) (h:I s):c6 (dG body s) p:=by
 have key:∀ n s,Pv s=n->I s->c6 (dG body s) p:=by
  intro n;induction n using Nat.strongRecOn with
  | _ n aO=>
   intro s aA ay;rw[zW,fD];refine (round s ay).mono λy a_=>?_;cases y with
   | next s'=>grind
   | done r=>exact dF.2 a_
 grind
end
end Go.Fer
namespace Go.Fer
def X6(b:Nat)(c:Nat->Option Value):Prop:=
 match b with
 | 0=>∃ m,c 0=some (.int .i64 m)
 | 1 | 2=>∃ v,c 0=some v/\(v=.nilIface\/∃ nU oF,v=.iface nU oF)
 | 5=>∀ i,c i=if i<20 then some (.int .u64 (10 ^ i)) else none
 | _=>True
end Go.Fer
namespace Go.Fer
open Go.RowKit
inductive V where
 | bool | int (k:IntKind) | str | dh
 | ad (t:V) | au (a b:V)
 | slice (e:V) | array (n:Nat) (e:V) | bM (e:V) | map (k v:V) | fn (a b:V) | cE (a:V) | eW | cN (e:V)
 deriving DecidableEq
@[reducible] def V.al:V->Type
 | .bool=>Bool
 | .int _=>Int
 | .str=>List UInt8
 | .dh=>Unit
 | .ad t=>t.al
 | .au a b=>a.al×b.al
 | .slice e=>List e.al
 | .array _ e=>List e.al
 | .bM e=>Option e.al
 | .map k v=>List (k.al×v.al)
 | .fn a b=>a.al->M b.al
 | .cE a=>List a.al->Prop
 | .eW=>Option Nat
 | .cN _=>Nat×z24'
def V.dU:(t:V)->t.al
 | .bool=>false
 | .int _=>(0:Int)
 | .str=>[]
 | .dh=>()
 | .ad t=>t.dU
 | .au a b=>(a.dU,b.dU)
 | .slice _=>[]
 | .array n e=>List.replicate n e.dU
 | .bM _=>none
 | .map _ _=>[]
 | .fn _ _=>λ_=>⟨False,λ_=>False⟩
 | .cE _=>λ_=>False
 | .eW=>none
 | .cN _=>(0,0,0)
def V.size:V->Nat
 | .dh=>0
 | .ad t=>t.size
 | .au a b=>a.size+b.size
 | .array n e=>n*e.size
 | _=>1
def V.fY:V->Bool
 | .dh | .ad _ | .au _ _ | .array _ _=>false
 | _=>true
def gQ(k:IntKind)(n:Int):Prop:=k.min<=n/\n<=k.max
instance (k:IntKind) (n:Int):Decidable (gQ k n):=inferInstanceAs (Decidable (_/\_))
def Holds(F:Nat->Prop)(w:World)(p:Addr)(cs:List Value):Prop:=
 F p.block/\p.spot=none/\∀ j (h:j<cs.length),w.cell? ⟨p.block,p.off+j,none⟩=some cs[j]
def di(F:Nat->Prop)(w w':World):Prop:=w.heap.size<=w'.heap.size/\∀ r,F r->w'.heap[r]?=w.heap[r]?
theorem di.refl(F:Nat->Prop)(w:World):di F w w:=⟨amo _,λ_ _=>rfl⟩
theorem di.trans{F F':Nat->Prop}{a b c:World}(h:di F a b)(bm:∀ r,F r->F' r)(k:di F' b c):di F a c:=
 ⟨aPG h.1 k.1,λr D=>(k.2 r (bm r D)).trans (h.2 r D)⟩
theorem di.cell{F:Nat->Prop}{w w':World}(h:di F w w'){a:Addr}(aW:F a.block):w'.cell? a=w.cell? a:=by
 simp  [World.cell?,h.2 _ aW]
def pd(P:Program)(F:Nat->Prop)(w:World):Prop:=∀ b,b<P.globals.size->F b/\X6 b λi=>w.cell? ⟨b,i,none⟩
variable {P:Program}{F:Nat->Prop}{F':Nat->Prop}{w:World}{w':World}
theorem pd.mono(h:pd P F w)(bm:∀ r,F r->F' r)(he:di F w w'):pd P F' w':=λb U=>by
 obtain⟨E,L⟩:=h b U;have e:=funext λi=>he.cell (a:=⟨b,i,none⟩) E;grind
theorem Holds.mono{p:Addr}{cs:List Value}(h:Holds F w p cs)(bm:∀ r,F r->F' r)(he:di F w w'):Holds F' w' p cs:=
 ⟨bm _ h.1,h.2.1,λj aJ=>(he.cell (a:=⟨p.block,p.off+j,none⟩) h.1).trans (h.2.2 j aJ)⟩
def l0:V->Value->Prop
 | .ad t,v=>∃ cs:Array Value,v=.agg cs/\cs.size=t.size
 | .array n e,v=>∃ cs:Array Value,v=.agg cs/\cs.size=n*e.size
 | .dh,_=>False
 | .au _ _,_=>False
 | _,v=>v.cells=#[v]
def fJ(aH:List Value):List Value:=aH.flatMap (·.cells.toList)
@[simp] theorem aLh:fJ []=[]:=rfl
@[simp] theorem amC (v:Value) (aH:List Value):fJ (v::aH)=v.cells.toList++fJ aH:=rfl
def wM:V->List Value->Prop
 | .au a b,v::aH=>l0 a v/\wM b aH
 | .au _ _,[]=>False
 | .dh,aH=>aH=[]
 | t,aH=>∃ v,aH=[v]/\l0 t v
def JM:V->Value->List Value->Prop
 | .au _ _,v,aH=>v=.tuple aH.toArray
 | .dh,v,aH=>v=.tuple #[]/\aH=[]
 | _,v,aH=>aH=[v]
def wN(F:Nat->Prop)(w w':World):Nat->Prop:=λr=>F r\/(w.heap.size<=r/\r<w'.heap.size)
structure JN(P:Program){af:Type}(R:(Nat->Prop)->World->List Value->af->Prop)(l:Nat)(S:List af->Prop)(I:List af->Bool->(Nat->Prop)->(Nat->Prop)->World->Prop):Prop where
 FE:∀ {pre ad} {F F' Y:Nat->Prop} {w w':World},I pre ad F Y w->(∀ r,F r->F' r)->(∀ r,F r\/Y r->w'.heap[r]?=w.heap[r]?)->w.heap.size<=w'.heap.size->w'.os=w.os/\w'.tape=w.tape/\w'.output=w.output->(∀ r,F' r->r<w'.heap.size)->(∀ r,F' r->¬Y r)->I pre ad F' Y w'
 yield:∀ {pre} {F Y:Nat->Prop} {w:World} {args:List Value} {x:af},I pre false F Y w->(∀ r,F r->r<w.heap.size)->(∀ r,Y r->r<w.heap.size/\¬F r)->(∃ T,S (pre++x::T))->R F w args x->
  YieldAt Fence.wide 0 P l args.toArray w λe w'=>∃ (b:Bool) (F' jh:Nat->Prop),e=.returned (.bool b)/\(∀ r,F r->F' r)/\(∀ r,F' r->F r\/Y r\/w.heap.size<=r)/\(∀ r,F' r->r<w'.heap.size)/\
   (∀ r,r<w.heap.size->¬Y r->w'.heap[r]?=w.heap[r]?)/\(∀ r,jh r->(Y r\/w.heap.size<=r)/\r<w'.heap.size/\¬F' r)/\w.heap.size<=w'.heap.size/\(w'.os=w.os/\w'.tape=w.tape/\w'.output=w.output)/\I (pre++[x]) (!b) F' jh w'
def X7{af:Type}(S:List af->Prop)(I:List af->Bool->(Nat->Prop)->(Nat->Prop)->World->Prop)(F Y:Nat->Prop)(w:World)(e:Ending)(w':World):Prop:=
 ∃ v pre ad F' jh,e=.returned v/\(ad=false->S pre)/\I pre ad F' jh w'/\(∀ r,F r->F' r)/\(∀ r,F' r->F r\/Y r\/w.heap.size<=r)/\(∀ r,F' r->r<w'.heap.size)/\
  (∀ r,r<w.heap.size->¬Y r->w'.heap[r]?=w.heap[r]?)/\(∀ r,jh r->(Y r\/w.heap.size<=r)/\r<w'.heap.size/\¬F' r)/\w.heap.size<=w'.heap.size/\(w'.os=w.os/\w'.tape=w.tape/\w'.output=w.output)
def amD:Option Nat->Value
 | none=>.nilFunc
 | some k=>.func (.func k) #[] #[]
def cp(P:Program):(t:V)->(Nat->Prop)->World->List Value->t.al->Prop
 | .bool,_,_,cs,x=>cs=[.bool x]
 | .int k,_,_,cs,x=>cs=[.int k x]/\gQ k x
 | .str,_,_,cs,x=>cs=[.string ⟨x.toArray⟩]/\x.length<2 ^ 63
 | .dh,_,_,cs,_=>cs=[]
 | .ad t,F,w,cs,x=>cp P t F w cs x
 | .au a b,F,w,cs,x=>∃ c d,cs=c++d/\cp P a F w c x.1/\cp P b F w d x.2
 | .slice e,F,w,cs,xs=>∃ a cap,cs=[.slice a xs.length cap]/\xs.length<=cap/\cap<2 ^ 63/\(a=none->cap=0)/\
   ∀ p,a=some p->0<cap->F p.block/\p.spot=none/\∀ i (h:i<xs.length),∃ bB,Holds F w ⟨p.block,p.off+i*e.size,none⟩ bB/\cp P e F w bB xs[i]
 | .array n e,F,w,cs,xs=>∃ gR:List (List Value),cs=gR.flatten/\gR.length=n/\xs.length=n/\∀ i (h:i<xs.length) (eX:i<gR.length),cp P e F w gR[i] xs[i]
 | .bM e,F,w,cs,x=>(cs=[.pointer none]/\x=none)\/∃ p y bB,cs=[.pointer (some p)]/\x=some y/\Holds F w p bB/\cp P e F w bB y
 | .map k v,F,w,cs,xs=>(cs=[.map none]/\xs=[])\/∃ r es clk,cs=[.map (some r)]/\F r/\w.heap[r]?=some (.map es clk)/\es.size=xs.length/\(xs.map (·.1)).Nodup/\
   (∀ i (h:i<xs.length) (eX:i<es.size),l0 k es[i].key/\cp P k F w es[i].key.cells.toList xs[i].1/\l0 v es[i].val/\cp P v F w es[i].val.cells.toList xs[i].2/\es[i].born<clk)/\
   (∀ i j (h:i<es.size) (eX:j<es.size),es[i].born=es[j].born->i=j)
 | .fn a b,F,w,cs,f=>∃ u,cs=[u]/\(u.cells=#[u]/\u.oneCell'=true)/\∀ (F':Nat->Prop) (w':World),(∀ r,F r->F' r)->di F w w'->(∀ r,F' r->r<w'.heap.size)->pd P F' w'->
   ∀ args x,wM a args->cp P a F' w' (fJ args) x->(f x).fm->∃ g dQ,u=.func (.func g) #[] dQ/\(∀ as w,(callFunc g as).run P w=.ok (.enter g as) w)/\
    Calls P g (args.toArray++dQ) w' λe wO=>∃ v y aH,e=.returned v/\(f x).a7 y/\JM b v aH/\wM b aH/\cp P b (wN F' w' wO) wO (fJ aH) y/\Below w'.heap.size w' wO
 | .cE a,F,w,cs,S=>∃ u,cs=[u]/\(u.cells=#[u]/\u.oneCell'=true)/\∀ (F':Nat->Prop) (w':World),(∀ r,F r->F' r)->di F w w'->(∀ r,F' r->r<w'.heap.size)->pd P F' w'->
   (∃ ab,S ab)->∃ g dQ,u=.func (.func g) #[] dQ/\(∀ as w,(callFunc g as).run P w=.ok (.enter g as) w)/\
    ∀ (l:Nat) (I:List a.al->Bool->(Nat->Prop)->(Nat->Prop)->World->Prop) (Y:Nat->Prop),(∀ r,Y r->r<w'.heap.size/\¬F' r)->
     JN P (λF w args x=>wM a args/\cp P a F w (fJ args) x) l S I->I [] false F' Y w'->Calls P g (#[Value.func (.yield l) #[] #[]]++dQ) w' (X7 S I F' Y w')
 | .eW,_,_,cs,x=>cs=[amD x]
 | .cN e,_,_,cs,x=>(cs=[.slice none 0 0]/\x.2.2=0)\/∃ o c,cs=[.slice (some ⟨x.1,o,none⟩) x.2.2 c]/\x.2.2<=c/\c<2 ^ 63/\(0<c->o=x.2.1*e.size)
theorem jP:∀ (t:V) {F:Nat->Prop} {w:World} {cs:List Value} {x:t.al},cp P t F w cs x->cs.length=t.size:=by
 intro t;induction t with
 | bool=>intro F w cs x h;simp  [cp]at h;simp[h,V.size]
 | int k=>intro F w cs x h;simp[h.1,V.size]
 | str=>intro F w cs x h;simp[h.1,V.size]
 | dh=>intro F w cs x h;simp  [cp]at h;simp[h,V.size]
 | ad t aO=>intro F w cs x h;exact aO h
 | au a b gI fS=>
  intro F w cs x h;obtain⟨c,d,rfl,aW,U⟩:=h;simp[V.size,gI aW,fS U]
 | slice e aO=>intro F w cs x h;obtain⟨a,cap,rfl,_⟩:=h;rfl
 | array n e aO=>
  intro F w cs x h;obtain⟨gR,rfl,E,L,ak⟩:=h;have:∀ l∈gR,l.length=e.size:=by
   intro l ah;obtain⟨i,G,rfl⟩:=List.mem_iff_getElem.1 ah;grind
  have aZ:gR.map List.length=List.replicate n e.size:=by
   rw[<-E];exact List.eq_replicate_iff.2 ⟨by simp,by grind⟩
  simp[aZ,V.size]
 | bM e aO=>intro F w cs x h;rcases h with⟨rfl,_⟩ | ⟨p,y,bB,rfl,_⟩<;>rfl
 | map k v zY zZ=>intro F w cs x h;rcases h with⟨rfl,_⟩ | ⟨r,es,clk,rfl,_⟩<;>rfl
 | fn a b gI fS=>intro F w cs x h;obtain⟨u,rfl,_⟩:=h;rfl
 | cE a aO=>intro F w cs x h;obtain⟨u,rfl,_⟩:=h;rfl
 | eW=>intro F w cs x h;subst h;rfl
 | cN e aO=>intro F w cs x h;simp only[cp]at h;rcases h with⟨rfl,_⟩ | ⟨o,c,rfl,_⟩<;>rfl
theorem fK:∀ (t:V) {F F':Nat->Prop} {w w':World} {cs:List Value} {x:t.al},(∀ r,F r->F' r)->di F w w'->cp P t F w cs x->cp P t F' w' cs x:=by
 intro t;induction t with
 | bool=>intro F F' w w' cs x _ _ h;exact h
 | int k=>intro F F' w w' cs x _ _ h;exact h
 | str=>intro F F' w w' cs x _ _ h;exact h
 | dh=>intro F F' w w' cs x _ _ h;exact h
 | ad t aO=>intro F F' w w' cs x bm he h;simp  [cp]at h ⊢;grind
 | au a b gI fS=>
  intro F F' w w' cs x bm he h;simp  [cp]at h ⊢;grind
 | slice e aO=>
  intro F F' w w' cs x bm he h;obtain⟨a,cap,rfl,E,L,ak,aZ⟩:=h;refine⟨a,cap,rfl,E,L,ak,λp aj hc=>?_⟩;obtain⟨aM,aS,b4⟩:=aZ p aj hc;refine⟨bm _ aM,aS,λi G=>?_⟩;obtain⟨bB,m1,m2⟩:=b4 i G;exact⟨bB,m1.mono bm he,aO bm he m2⟩
 | array n e aO=>
  intro F F' w w' cs x bm he h;simp  [cp]at h ⊢;grind
 | bM e aO=>
  intro F F' w w' cs x bm he h;simp  [cp]at h ⊢;rcases h with h | ⟨p,y,bB,E,L,ak,aZ⟩
  ·grind
  ·exact .inr ⟨p,y,bB,E,L,ak.mono bm he,aO bm he aZ⟩
 | map k v zY zZ=>
  intro F F' w w' cs x bm he h;simp only[cp]at h ⊢;rcases h with h | ⟨r,es,clk,E,L,ak,aZ,bP,ej,iW⟩
  ·grind
  ·refine .inr ⟨r,es,clk,E,bm _ L,(he.2 _ L).trans ak,aZ,bP,λi G dR=>?_,iW⟩;grind
 | fn a b gI fS=>
  intro F F' w w' cs x bm he h;obtain⟨u,rfl,hu,E⟩:=h;exact⟨u,rfl,hu,λPw wO yd z1 ay=>E Pw wO (λr D=>yd r (bm r D)) (he.trans bm z1) ay⟩
 | cE a aO=>
  intro F F' w w' cs x bm he h;obtain⟨u,rfl,hu,E⟩:=h;exact⟨u,rfl,hu,λPw wO yd z1 ay=>E Pw wO (λr D=>yd r (bm r D)) (he.trans bm z1) ay⟩
 | eW=>intro F F' w w' cs x _ _ h;exact h
 | cN e aO=>intro F F' w w' cs x _ _ h;exact h
def fo(P:Program)(t:V)(F:Nat->Prop)(w:World)(v:Value)(x:t.al):Prop:=l0 t v/\cp P t F w v.cells.toList x
def gv(P:Program)(t:V)(F:Nat->Prop)(w:World)(aH:List Value)(x:t.al):Prop:=wM t aH/\cp P t F w (fJ aH) x
def tH(P:Program)(t:V)(F:Nat->Prop)(w:World)(v:Value)(x:t.al):Prop:=∃ aH,JM t v aH/\gv P t F w aH x
variable {t:V}{v:Value}
theorem fo.mono{x:t.al}(h:fo P t F w v x)(bm:∀ r,F r->F' r)(he:di F w w'):fo P t F' w' v x:=
 ⟨h.1,fK t bm he h.2⟩
theorem JO(h:v.oneCell'=true):v.cells=#[v]:=by
 cases v<;>first | rfl | cases h
theorem X8(h:v.cells=#[v]):v.cells.toList=[v]:=by rw[h]
theorem l0.len(h:l0 t v):v.cells.toList.length=t.size:=by
 cases t<;>simp  [l0]at h<;>first
  | (obtain⟨cs,rfl,h⟩:=h;simpa [Value.cells,V.size]using h)
  | (rw[X8 h];rfl)
  | exact h.elim
variable {aH:List Value}
theorem z6{a b:V}{x:a.al}{y:b.al} :
  gv P (.au a b) F w (v::aH) (x,y)<->fo P a F w v x/\gv P b F w aH y:=by
 constructor
 ·rintro⟨⟨E,L⟩,c,d,e,hc,aw⟩;have ah:=jP a hc;have:=List.append_inj e (by rw[ah];exact E.len);obtain⟨aB,bt⟩:=this;subst aB;subst bt;exact⟨⟨E,hc⟩,L,aw⟩
 ·rintro⟨⟨E,L⟩,ak,aZ⟩;exact⟨⟨E,ak⟩,_,_,rfl,L,aZ⟩
theorem FF{a b:V}{x:(V.au a b).al}(h:gv P (.au a b) F w aH x) :
  ∃ v us,aH=v::us/\fo P a F w v x.1/\gv P b F w us x.2:=by
 cases aH with
 | nil=>exact h.1.elim
 | cons v us=>exact⟨v,us,rfl,z6.1 h⟩
def V.hN:V->Bool
 | .au _ _ | .dh=>false
 | _=>true
theorem pe(aG:t.hN=true){x:t.al} :
  gv P t F w aH x<->∃ v,aH=[v]/\fo P t F w v x:=by
 have key:wM t aH<->∃ v,aH=[v]/\l0 t v:=by cases t<;>simp[V.hN,wM]at aG ⊢
 unfold gv fo;constructor<;>simp_all
section
variable {P:Program} {F:Nat->Prop} {w:World} {v:Value}
@[simp] theorem gC {x:Bool}:fo P .bool F w v x<->v=.bool x:=by
 constructor
 ·rintro⟨E,L⟩;simp only[l0]at E;simp only[cp]at L;rw[X8 E]at L;simpa using L
 ·rintro rfl;exact⟨by simp[l0,Value.cells],by simp[cp,Value.cells]⟩
theorem hO{k:IntKind}{x:Int}:fo P (.int k) F w v x<->v=.int k x/\gQ k x:=by
 constructor
 ·rintro⟨E,L⟩;simp  [l0]at E;simp  [cp]at L;grind
 ·rintro⟨rfl,h⟩;exact⟨by rfl,by simpa [cp,Value.cells]using h⟩
theorem k3{x:List UInt8}:fo P .str F w v x<->v=.string ⟨x.toArray⟩/\x.length<2 ^ 63:=by
 constructor
 ·rintro⟨E,L⟩;simp  [l0]at E;simp  [cp]at L;grind
 ·rintro⟨rfl,h⟩;exact⟨by rfl,by simpa [cp,Value.cells]using h⟩
theorem eb(aG:t.fY=true){x:t.al}:fo P t F w v x<->v.cells=#[v]/\cp P t F w [v] x:=by
 have E:l0 t v<->v.cells=#[v]:=by cases t<;>simp[V.fY,l0]at aG ⊢
 unfold fo;grind
theorem Px(aG:t.fY=true){F:Nat->Prop}{w:World}{u:Value}{x:t.al}(h:cp P t F w [u] x):u.oneCell'=true:=by
 cases t<;>simp only[cp]at aG h<;>try contradiction
 ·obtain rfl:=(aPM h).1;rfl
 ·obtain rfl:=(aPM h.1).1;rfl
 ·obtain rfl:=(aPM h.1).1;rfl
 ·obtain⟨a,cap,h,_⟩:=h;obtain rfl:=(aPM h).1;rfl
 ·rcases h with⟨h,_⟩ | ⟨p,y,bB,h,_⟩<;>(obtain rfl:=(aPM h).1;rfl)
 ·rcases h with⟨h,_⟩ | ⟨r,es,clk,h,_⟩<;>(obtain rfl:=(aPM h).1;rfl)
 ·grind
 ·grind
 ·obtain rfl:=(aPM h).1;cases x<;>rfl
 ·rcases h with⟨h,_⟩ | ⟨o,c,h,_⟩<;>(obtain rfl:=(aPM h).1;rfl)
theorem JP(aG:t.fY=true){F:Nat->Prop}{w:World}{cs:List Value}{x:t.al}(h:cp P t F w cs x):∃ u,cs=[u]/\u.cells=#[u]:=by
 cases t<;>simp only[cp]at aG h<;>try contradiction
 ·exact⟨_,h,rfl⟩
 ·exact⟨_,h.1,rfl⟩
 ·exact⟨_,h.1,rfl⟩
 ·obtain⟨a,cap,rfl,_⟩:=h;exact⟨_,rfl,rfl⟩
 ·rcases h with⟨rfl,_⟩ | ⟨p,y,bB,rfl,_⟩<;>exact⟨_,rfl,rfl⟩
 ·rcases h with⟨rfl,_⟩ | ⟨r,es,clk,rfl,_⟩<;>exact⟨_,rfl,rfl⟩
 ·grind
 ·grind
 ·exact⟨_,h,by cases x<;>rfl⟩
 ·rcases h with⟨rfl,_⟩ | ⟨o,c,rfl,_⟩<;>exact⟨_,rfl,rfl⟩
end
structure hD(P:Program)(k:FuncId)(ts aR:V)(sh:ts.al->M aR.al):Prop where
 enter:∀ args w,(callFunc k args).run P w=.ok (.enter k args) w
 ik:∀ (F:Nat->Prop) (w:World) (args:List Value) (x:ts.al),(∀ r,F r->r<w.heap.size)->pd P F w->gv P ts F w args x->(sh x).fm->
  Calls P k args.toArray w λe w'=>∃ v y,e=.returned v/\(sh x).a7 y/\tH P aR (wN F w w') w' v y/\Below w.heap.size w w'
structure FG(P:Program)(k:FuncId)(ts aR:V)(sh:ts.al->M aR.al):Prop where
 ik:∀ (F:Nat->Prop) (w:World) (args:List Value) (x:ts.al),(∀ r,F r->r<w.heap.size)->pd P F w->gv P ts F w args x->(sh x).fm->
  Calls P k args.toArray w λe w'=>∃ v y,e=.returned v/\(sh x).a7 y/\tH P aR (λr=>w.heap.size<=r/\r<w'.heap.size) w' v y/\Below w.heap.size w w'
def hV:List V->V
 | []=>.dh
 | [t]=>t
 | t::u::l=>.au t (hV (u::l))
def JQ:(as dz:List V)->(hV as).al->(hV dz).al->(hV (as++dz)).al
 | [],_,_,y=>y
 | [_],[],x,_=>x
 | [_],_::_,x,y=>(x,y)
 | _::u::l,dz,x,y=>(x.1,JQ (u::l) dz x.2 y)
theorem X9{P:Program}{F:Nat->Prop}{w:World}:∀ (as dz:List V),as.all V.hN=true->∀ {aH us:List Value} {x:(hV as).al} {y:(hV dz).al},gv P (hV as) F w aH x->gv P (hV dz) F w us y->gv P (hV (as++dz)) F w (aH++us) (JQ as dz x y)
 | [],dz,_,aH,us,x,y,E,L=>by
  obtain rfl:=E.1;exact L
 | [t],[],_,aH,us,x,y,E,L=>by
  obtain rfl:=L.1;have e:=aPN aH;rw[e];exact E
 | [t],b::dz,h,aH,us,x,y,E,L=>by
  have aG:t.hN=true:=by grind
  obtain⟨v,rfl,ae⟩:=(pe aG).1 E;exact z6.2 ⟨ae,L⟩
 | t::u::l,dz,h,aH,us,x,y,E,L=>by
  obtain⟨v,tI,rfl,ak,aZ⟩:=FF     E;have ah:(u::l).all V.hN=true:=by
   grind
  have:=X9 (u::l) dz ah aZ L;exact z6.2 ⟨ak,this⟩
structure amE where
 ts:V
 aR:V
 sh:ts.al->M aR.al
structure JR where
 as:List V
 cs:List V
 aR:V
 sh:(hV (as++cs.map .bM)).al->M aR.al
structure z7 where
 cs:List V
 aI:V
 S:(hV (cs.map .bM)).al->List aI.al->Prop
structure ye(P:Program)(k:FuncId)(v:z7):Prop where
 enter:∀ args w,(callFunc k args).run P w=.ok (.enter k args) w
 ik:∀ (F:Nat->Prop) (w:World) (dQ:List Value) (x:(hV (v.cs.map .bM)).al),(∀ r,F r->r<w.heap.size)->pd P F w->gv P (hV (v.cs.map .bM)) F w dQ x->(∃ ab,v.S x ab)->
  ∀ (l:Nat) (I:List v.aI.al->Bool->(Nat->Prop)->(Nat->Prop)->World->Prop) (Y:Nat->Prop),(∀ r,Y r->r<w.heap.size/\¬F r)->
   JN P (gv P v.aI) l (v.S x) I->I [] false F Y w->Calls P k (#[Value.func (.yield l) #[] #[]]++dQ.toArray) w (X7 (v.S x) I F Y w)
def V.iI:V->V
 | .cN e=>.slice e
 | .ad t=>.ad t.iI
 | .au a b=>.au a.iI b.iI
 | .slice t=>.slice t.iI
 | t=>t
structure X_ where
 nV:V
 e:V
 aR:V
 pre:nV.iI.al->Prop
 g:nV.iI.al->aR.al
 tJ:Bool
structure dV where
 tK:Nat->Option amE
 tL:Nat->Option JR
 z8:Nat->Option z7:=λ_=>none
 z_:Nat->Option X_:=λ_=>none
structure qI(P:Program)(aP:dV):Prop where
 tK:∀ k v,aP.tK k=some v->hD P k v.ts v.aR v.sh
 tL:∀ k v,aP.tL k=some v->v.as.all V.hN=true/\hD P k (hV (v.as++v.cs.map .bM)) v.aR v.sh
 z8:∀ k v,aP.z8 k=some v->ye P k v:=by intro k v h;cases h
 z_:∀ k v,aP.z_ k=some v->hD P k v.nV.iI v.aR (λx=>eF (v.pre x) (v.g x))/\(v.tJ=true->FG P k v.nV.iI v.aR (λx=>eF (v.pre x) (v.g x))):=by intro k v h;cases h
theorem amF{k:FuncId}{ts aR:V}{sh:ts.al->M aR.al}(h:hD P k ts aR sh)(F:Nat->Prop)(w:World):cp P (.fn ts aR) F w [.func (.func k) #[] #[]] sh:=by
 refine⟨_,rfl,⟨rfl,rfl⟩,λF' w' _ _ ay aD args x E L ak=>⟨k,#[],rfl,h.enter,?_⟩⟩;have:=h.ik F' w' args x ay aD ⟨E,L⟩ ak;exact this.mono λe wO ⟨v,y,aB,bt,⟨aH,cT,bW,ek⟩,l1⟩=>⟨v,y,aH,aB,bt,cT,bW,ek,l1⟩
end Go.Fer
namespace Go.Fer
open Go.RowKit
inductive aL where
 | undef
 | val (t:V) (x:t.al)
 | ku (b:Bool) (a:aL)
 | eY (b g off:Nat)
 | own (b g:Nat)
 | qJ (b g i off:Nat)
 | eL (t:V) (x:t.al)
 | hk (b g:Nat)
 | ji (k:FuncId) (n:Nat) (dQ:Nat->aL)
 | u7 (k:FuncId) (n:Nat) (first:Nat->aL)
 | sz (n:Nat) (f:Nat->aL)
 | agg (n:Nat) (f:Nat->aL)
 | dW
 | k4 (v:Value)
 | l2 (b g:Nat)
 | aR (l:Nat) (aI:V) (S:List aI.al->Prop) (pre:List aI.al) (ad:Bool)
 | il (l:Nat)
 | sub (b g a1 G:Nat)
 | u9 (e:V) (xs:List e.al)
 | yf (e:V) (id i:Nat)
 | z' (b g:Nat)
 | hP (b g:Nat)
 | kQ (b g i:Nat)
inductive b8 where
 | ey
 | cells (t:V) (f:Nat->aL)
 | bl (e:V) (xs:List e.al)
 | jz (e:V) (xs:List e.al)
 | mp (k v:V) (es:List (k.al×v.al))
 | im (t:V) (x:t.al)
 | k5 (k v:V) (es:List (k.al×v.al))
 | bQ (e:V) (m:List (Nat×List e.al))
 | cE (k v:V) (cur:Option (k.al×v.al)) (b6:List (k.al×v.al))
 | h7 (e:V) (xs:List e.al) (i:Nat) (v:aL)
structure b7 where
 gen:Nat
 body:b8
structure bI where
 aa:Nat
 off:Nat
 cap:Nat
 fT:Bool
structure aC where
 az:Nat->aL
 aa:Nat->b7
def b8.hl:b8->Bool | .cells _ _=>true | .im _ _=>true | _=>false
def b8.gS:b8->Bool | .bl _ _=>true | .jz _ _=>true | .h7 _ _ _ _=>true | _=>false
def b8.l3:b8->Bool | .bQ _ _=>true | _=>false
def b8.iX:b8->Bool | .mp _ _ _=>true | .k5 _ _ _=>true | _=>false
def b8.qK:b8->Bool | .cE _ _ _ _=>true | _=>false
def b8.len:b8->Nat | .bl _ xs=>xs.length | .jz _ xs=>xs.length | .h7 _ xs _ _=>xs.length | _=>0
def b8.gJ:b8->Nat | .bl e _=>e.size | .jz e _=>e.size | .h7 e _ _ _=>e.size | _=>0
def b8.cd(k:bI):b8->Bool | .cells _ _=>true | .bl _ _=>!k.fT | .mp _ _ _=>true | .cE _ _ _ _=>true | .h7 _ _ _ _=>!k.fT | _=>false
def bI.slice(k:bI)(n:Nat):Value:=if k.fT then .slice none 0 0 else .slice (some ⟨k.aa,k.off,none⟩) n k.cap
def JS(k:bI)(gJ a1 G:Nat)(v:Value):Prop:=
 (k.fT=true/\v=.slice none 0 0)\/(k.fT=false/\∃ o,v=.slice (some ⟨k.aa,o,none⟩) (G - a1) (k.cap - a1)/\o<=k.off+a1*gJ/\(a1<k.cap->o=k.off+a1*gJ))
def bJ(P:Program)(H:Nat->b7)(kap:Nat->bI)(F:Nat->Prop)(w:World):aL->Value->Prop
 | .undef,_=>True
 | .val t x,v=>fo P t F w v x
 | .ku b a,v=>(b=true->bJ P H kap F w a v)/\(b=false->v=Go.undef)
 | .eY b g off,v=>(g<=(H b).gen/\v.oneCell'=true)/\(g=(H b).gen->(H b).body.hl=true->v=.pointer (some ⟨(kap b).aa,off,none⟩))
 | .own b g,v=>(g<=(H b).gen/\v.oneCell'=true)/\(g=(H b).gen->(H b).body.gS=true->v=(kap b).slice (H b).body.len)
 | .qJ b g i off,v=>(g<=(H b).gen/\v.oneCell'=true)/\(g=(H b).gen->(H b).body.gS=true->i<(H b).body.len/\(kap b).fT=false/\v=.pointer (some ⟨(kap b).aa,(kap b).off+i*(H b).body.gJ+off,none⟩))
 | .kQ b g i,v=>(g<=(H b).gen/\v.oneCell'=true)/\(g=(H b).gen->(H b).body.gS=true->i<(H b).body.len/\(kap b).fT=false/\v=.pointer (some ⟨(kap b).aa,(kap b).off+i*(H b).body.gJ,none⟩))
 | .eL t x,v=>∃ p bB,v=.pointer (some p)/\Holds F w p bB/\cp P t F w bB x
 | .hk b g,v=>(g<=(H b).gen/\v.oneCell'=true)/\(g=(H b).gen->(H b).body.iX=true->v=.map (some (kap b).aa))
 | .ji k n dQ,v=>∃ aH:List Value,v=.func (.func k) #[] aH.toArray/\aH.length=n/\∀ i,i<n->bJ P H kap F w (dQ i) (aH.getD i Go.undef)
 | .u7 k n f,v=>∃ aH:List Value,v=.func (.func k) aH.toArray #[]/\aH.length=n/\∀ i,i<n->bJ P H kap F w (f i) (aH.getD i Go.undef)
 | .sz n f,v=>∃ aH:List Value,v=.tuple aH.toArray/\aH.length=n/\∀ i,i<n->bJ P H kap F w (f i) (aH.getD i Go.undef)
 | .agg n f,v=>∃ aH:List Value,v=.agg aH.toArray/\aH.length=n/\∀ i,i<n->bJ P H kap F w (f i) (aH.getD i Go.undef)/\(aH.getD i Go.undef).oneCell'=true
 | .dW,v=>v=.slice none 0 0
 | .k4 u,v=>v=u
 | .l2 b g,v=>(g<=(H b).gen/\v.oneCell'=true)/\(g=(H b).gen->(H b).body.qK=true->v=.pointer (some ⟨(kap b).aa,0,none⟩))
 | .aR _ _ _ _ _,_=>True
 | .il l,v=>v=.func (.yield l) #[] #[]
 | .u9 e xs,v=>fo P (.slice e) F w v xs/\∃ q,v=.slice q xs.length xs.length
 | .yf e id i,v=>v=.pointer (some ⟨id,i*e.size,none⟩)
 | .z' b g,v=>(g<=(H b).gen/\∃ p,v=.pointer p)/\(g=(H b).gen->(H b).body.gS=true->0<(H b).body.len->v=.pointer (some ⟨(kap b).aa,(kap b).off,none⟩))
 | .hP b g,v=>(g<=(H b).gen/\v.oneCell'=true)/\(g=(H b).gen->(H b).body.hl=true->v=.pointer none\/v=.pointer (some ⟨(kap b).aa,0,none⟩))
 | .sub b g a1 G,v=>(g<=(H b).gen/\v.oneCell'=true)/\(g=(H b).gen->(H b).body.gS=true->(a1<=G/\G<=(H b).body.len)/\JS (kap b) (H b).body.gJ a1 G v)
def fL(H:Nat->b7)(kap:Nat->bI)(H':Nat->b7)(bR:Nat->bI):Prop:=
 ∀ b,(H b).gen<=(H' b).gen/\((H b).gen=(H' b).gen->
  ((H' b).body.hl=true->(H b).body.hl=true/\(bR b).aa=(kap b).aa)/\
  ((H' b).body.gS=true->(H b).body.gS=true/\bR b=kap b/\(H' b).body.len=(H b).body.len/\(H' b).body.gJ=(H b).body.gJ)/\
  ((H' b).body.iX=true->(H b).body.iX=true/\(bR b).aa=(kap b).aa)/\
  ((H' b).body.qK=true->(H b).body.qK=true/\(bR b).aa=(kap b).aa))
theorem fL.refl(H:Nat->b7)(kap:Nat->bI):fL H kap H kap:=λ_=>⟨amo _,λ_=>⟨λh=>⟨h,rfl⟩,λh=>⟨h,rfl,rfl,rfl⟩,λh=>⟨h,rfl⟩,λh=>⟨h,rfl⟩⟩⟩
def tM(x y:b7)(k k':bI):Prop:=
 x.gen<=y.gen/\(x.gen=y.gen->
  (y.body.hl=true->x.body.hl=true/\k'.aa=k.aa)/\
  (y.body.gS=true->x.body.gS=true/\k'=k/\y.body.len=x.body.len/\y.body.gJ=x.body.gJ)/\
  (y.body.iX=true->x.body.iX=true/\k'.aa=k.aa)/\
  (y.body.qK=true->x.body.qK=true/\k'.aa=k.aa))
theorem tM.refl(x:b7)(k:bI):tM x x k k:=⟨amo _,λ_=>⟨λh=>⟨h,rfl⟩,λh=>⟨h,rfl,rfl,rfl⟩,λh=>⟨h,rfl⟩,λh=>⟨h,rfl⟩⟩⟩
variable {H:Nat->b7}{kap:Nat->bI}{H':Nat->b7}{bR:Nat->bI}
theorem X':fL H kap H' bR<->∀ b,tM (H b) (H' b) (kap b) (bR b):=Iff.rfl
variable {P:Program}{F:Nat->Prop}{F':Nat->Prop}{w:World}{w':World}
theorem bJ.later(ah:fL H kap H' bR)(bm:∀ r,F r->F' r)(he:di F w w') :
  ∀ {a:aL} {v:Value},bJ P H kap F w a v->bJ P H' bR F' w' a v:=by
 intro a;induction a with
 | undef=>intro v h;trivial
 | val t x=>intro v h;exact fo.mono h bm he
 | ku b a aO=>intro v h;exact⟨λU=>aO (h.1 U),h.2⟩
 | eY b g off=>
  intro v h;obtain⟨E,L⟩:=h;obtain⟨aM,aS⟩:=ah b;refine⟨⟨aPG E.1 aM,E.2⟩,λaD hc=>?_⟩;grind
 | own b g=>
  intro v h;obtain⟨E,L⟩:=h;obtain⟨aM,aS⟩:=ah b;refine⟨⟨aPG E.1 aM,E.2⟩,λaD hc=>?_⟩;grind
 | qJ b g i off=>
  intro v h;obtain⟨E,L⟩:=h;obtain⟨aM,aS⟩:=ah b;refine⟨⟨aPG E.1 aM,E.2⟩,λaD hc=>?_⟩;grind
 | kQ b g i=>
  intro v h;obtain⟨E,L⟩:=h;obtain⟨aM,aS⟩:=ah b;refine⟨⟨aPG E.1 aM,E.2⟩,λaD hc=>?_⟩;grind
 | eL t x=>
  intro v h;obtain⟨p,bB,E,L,ak⟩:=h;exact⟨p,bB,E,L.mono bm he,fK t bm he ak⟩
 | hk b g=>
  intro v h;obtain⟨E,L⟩:=h;obtain⟨aM,aS⟩:=ah b;refine⟨⟨aPG E.1 aM,E.2⟩,λaD hc=>?_⟩;grind
 | l2 b g=>
  intro v h;obtain⟨E,L⟩:=h;obtain⟨aM,aS⟩:=ah b;refine⟨⟨aPG E.1 aM,E.2⟩,λaD hc=>?_⟩;grind
 | sub b g a1 G=>
  intro v h;obtain⟨E,L⟩:=h;obtain⟨aM,aS⟩:=ah b;refine⟨⟨aPG E.1 aM,E.2⟩,λaD hc=>?_⟩;grind
 | aR l aI ab n ad=>intro v _;trivial
 | il l=>intro v h;exact h
 | u9 e xs=>intro v h;exact⟨fo.mono h.1 bm he,h.2⟩
 | yf e id i=>intro v h;exact h
 | z' b g=>
  intro v h;obtain⟨E,L⟩:=h;obtain⟨aM,aS⟩:=ah b;refine⟨⟨aPG E.1 aM,E.2⟩,λaD hc aA=>?_⟩;grind
 | hP b g=>
  intro v h;obtain⟨E,L⟩:=h;obtain⟨aM,aS⟩:=ah b;refine⟨⟨aPG E.1 aM,E.2⟩,λaD hc=>?_⟩;grind
 | ji k n dQ aO=>
  intro v h;obtain⟨aH,E,L,ak⟩:=h;exact⟨aH,E,L,λi G=>aO i (ak i G)⟩
 | u7 k n f aO=>
  intro v h;obtain⟨aH,E,L,ak⟩:=h;exact⟨aH,E,L,λi G=>aO i (ak i G)⟩
 | sz n f aO=>
  intro v h;obtain⟨aH,E,L,ak⟩:=h;exact⟨aH,E,L,λi G=>aO i (ak i G)⟩
 | agg n f aO=>
  intro v h;obtain⟨aH,E,L,ak⟩:=h;exact⟨aH,E,L,λi G=>⟨aO i (ak i G).1,(ak i G).2⟩⟩
 | dW=>intro v h;exact h
 | k4 u=>intro v h;exact h
def yg(P:Program)(k v:V)(F:Nat->Prop)(w:World)(es:Array MapEntry)(clk:Nat)(xs:List (k.al×v.al)):Prop:=
 es.size=xs.length/\(xs.map (·.1)).Nodup/\
 (∀ i (h:i<xs.length) (eX:i<es.size),l0 k es[i].key/\cp P k F w es[i].key.cells.toList xs[i].1/\l0 v es[i].val/\cp P v F w es[i].val.cells.toList xs[i].2/\es[i].born<clk)/\
 (∀ i j (h:i<es.size) (eX:j<es.size),es[i].born=es[j].born->i=j)
theorem yg.mono{k v:V}{es:Array MapEntry}{clk:Nat}{xs:List (k.al×v.al)}(h:yg P k v F w es clk xs)(bm:∀ r,F r->F' r)(he:di F w w') :
  yg P k v F' w' es clk xs:=
 ⟨h.1,h.2.1,λi G dR=>let ⟨a,b,c,d,e⟩:=h.2.2.1 i G dR;⟨a,fK k bm he b,c,fK v bm he d,e⟩,h.2.2.2⟩
def nm(P:Program)(e:V)(F:Nat->Prop)(w:World)(cs:Array Value)(off:Nat)(xs:List e.al):Prop:=
 ∀ i (h:i<xs.length),∃ bB,(∀ j (h:j<bB.length),cs[off+i*e.size+j]?=some bB[j])/\cp P e F w bB xs[i]
theorem nm.mono{e:V}{cs:Array Value}{off:Nat}{xs:List e.al}(h:nm P e F w cs off xs)(bm:∀ r,F r->F' r)(he:di F w w') :
  nm P e F' w' cs off xs:=λi G=>let ⟨bB,a,b⟩:=h i G;⟨bB,a,fK e bm he b⟩
def CC(P:Program)(k v:V)(F:Nat->Prop)(w:World)(e:MapEntry)(x:k.al×v.al):Prop:=
 l0 k e.key/\cp P k F w e.key.cells.toList x.1/\l0 v e.val/\cp P v F w e.val.cells.toList x.2
theorem CC.mono{k v:V}{e:MapEntry}{x:k.al×v.al}(h:CC P k v F w e x)(bm:∀ r,F r->F' r)(he:di F w w'):CC P k v F' w' e x:=
 ⟨h.1,fK k bm he h.2.1,h.2.2.1,fK v bm he h.2.2.2⟩
def Aa(P:Program)(k v:V)(F:Nat->Prop)(w:World)(rv:Nat)(cur:Option (k.al×v.al))(b6:List (k.al×v.al)):Prop:=
 (w.heap[rv]?=some (.mapIter none 0 #[] 0)/\b6=[]/\cur=none)\/
 ∃ oG es clk hn,F oG/\w.heap[oG]?=some (.map es clk)/\w.heap[rv]?=some (.mapIter (some oG) clk hn clk)/\
  (∀ i (h:i<es.size),es[i].born<clk)/\(∀ i j (h:i<es.size) (eX:j<es.size),es[i].born=es[j].born->i=j)/\
  (∃ ids:List Nat,ids.length=b6.length/\ids.Nodup/\(∀ i,i∈ids<->∃ h:i<es.size,hn.contains es[i].born=false)/\
   (∀ j (h:j<ids.length) (eX:j<b6.length),∃ G:ids[j]<es.size,CC P k v F w es[ids[j]] b6[j]))/\
  (∀ c,cur=some c->∃ i,∃ h:i<es.size,hn.back?=some es[i].born/\CC P k v F w es[i] c)
theorem Aa.mono{P:Program}{k v:V}{F F':Nat->Prop}{w w':World}{rv:Nat}{cur:Option (k.al×v.al)}{b6:List (k.al×v.al)}(h:Aa P k v F w rv cur b6)(bm:∀ r,F r->F' r)(he:di F w w')
  (G:w'.heap[rv]?=w.heap[rv]?):Aa P k v F' w' rv cur b6:=by
 rcases h with⟨E,L⟩ | ⟨oG,es,clk,hn,E,L,ak,aZ,bP,⟨ids,i1,i2,i3,i4⟩,iW⟩
 ·exact .inl ⟨G.trans E,L⟩
 ·exact .inr ⟨oG,es,clk,hn,bm _ E,(he.2 _ E).trans L,G.trans ak,aZ,bP,⟨ids,i1,i2,i3,λj aJ gD=>let ⟨a,b⟩:=i4 j aJ gD;⟨a,b.mono bm he⟩⟩,λc hc=>let ⟨i,a,b,d⟩:=iW c hc;⟨i,a,b,d.mono bm he⟩⟩
def wP(P:Program)(e:V)(T:TypeId):Prop:=∀ k,e=.int k->P.underlying T=some (.int k)/\P.cellsOf T=1
def Py(P:Program)(t:V)(T:TypeId):Prop:=∀ n s,t=.ad (.au (.bM (.array n .dh)) s)->P.underlying n=some (.pointer T)
def mu(P:Program)(H:Nat->b7)(kap:Nat->bI)(F:Nat->Prop)(w:World)(k:bI):b8->Prop
 | .ey=>True
 | .cells t f=>∃ cs T,w.heap[k.aa]?=some (.cells cs T (0,0))/\(cs.size=t.size/\Py P t T)/\∀ i,i<t.size->bJ P H kap F w (f i) (cs.getD i Go.undef)/\(cs.getD i Go.undef).oneCell'=true
 | .bl e xs=>(k.fT=true->xs=[])/\(k.fT=false->∃ cs T,w.heap[k.aa]?=some (.cells cs T (0,0))/\k.off+k.cap*e.size<=cs.size/\xs.length<=k.cap/\(k.cap<2 ^ 63/\wP P e T)/\nm P e F w cs k.off xs)
 | .jz e xs=>cp P (.slice e) F w [k.slice xs.length] xs
 | .mp oH ry es=>∃ ms clk,w.heap[k.aa]?=some (.map ms clk)/\yg P oH ry F w ms clk es
 | .im t x=>∃ bB,Holds F w ⟨k.aa,0,none⟩ bB/\cp P t F w bB x
 | .k5 oH ry es=>cp P (.map oH ry) F w [.map (some k.aa)] es
 | .cE oH ry cur b6=>Aa P oH ry F w k.aa cur b6
 | .bQ _ _=>True
 | .h7 e xs i v=>k.fT=false/\∃ cs T,w.heap[k.aa]?=some (.cells cs T (0,0))/\k.off+k.cap*e.size<=cs.size/\xs.length<=k.cap/\(k.cap<2 ^ 63/\wP P e T)/\(e.size=1/\i<xs.length)/\
   (∀ j (h:j<xs.length),j≠i->∃ bB,(∀ q (h:q<bB.length),cs[k.off+j*e.size+q]?=some bB[q])/\cp P e F w bB xs[j])/\bJ P H kap F w v (cs.getD (k.off+i) Go.undef)/\(cs.getD (k.off+i) Go.undef).oneCell'=true
def c7(P:Program)(H:Nat->b7)(kap:Nat->bI)(F:Nat->Prop)(w:World)(b:Nat):Prop:=mu P H kap F w (kap b) (H b).body
variable {b:Nat}
theorem c7.k6(h:c7 P H kap F w b)(ah:fL H kap H' bR)(bm:∀ r,F r->F' r)(he:di F w w')
  (U:(H' b).body=(H b).body) (an:bR b=kap b) (hw:(H b).body.cd (kap b)=true->w'.heap[(kap b).aa]?=w.heap[(kap b).aa]?):c7 P H' bR F' w' b:=by
 unfold c7 at *
 rw[U,an];cases ch:(H b).body with
 | ey=>trivial
 | cells n f=>
  rw[ch]at h hw;obtain⟨cs,T,E,L,ak⟩:=h;exact⟨cs,T,(hw rfl).trans E,L,λi G=>⟨bJ.later ah bm he (ak i G).1,(ak i G).2⟩⟩
 | bl e xs=>
  rw[ch]at h hw;refine⟨h.1,λaA=>?_⟩;obtain⟨cs,T,E,L,ak,aZ,bP⟩:=h.2 aA;exact⟨cs,T,(hw (by grind [b8.cd])).trans E,L,ak,aZ,bP.mono bm he⟩
 | jz e xs=>
  rw[ch]at h;exact fK _ bm he h
 | mp oH ry es=>
  rw[ch]at h hw;obtain⟨ms,clk,E,L⟩:=h;exact⟨ms,clk,(hw rfl).trans E,L.mono bm he⟩
 | im t x=>
  rw[ch]at h;obtain⟨bB,E,L⟩:=h;exact⟨bB,E.mono bm he,fK t bm he L⟩
 | k5 oH ry es=>
  rw[ch]at h;exact fK (.map oH ry) bm he h
 | cE oH ry cur b6=>
  rw[ch]at h hw;exact Aa.mono h bm he (hw rfl)
 | bQ e m=>trivial
 | h7 e xs i v=>
  rw[ch]at h hw;obtain⟨aV,cs,T,E,L,ak,aZ,bP,ej,iW,kP⟩:=h;refine⟨aV,cs,T,(hw (by grind [b8.cd])).trans E,L,ak,aZ,bP,λj aJ wQ=>?_,bJ.later ah bm he iW,kP⟩;obtain⟨bB,d1,d2⟩:=ej j aJ wQ;exact⟨bB,d1,fK e bm he d2⟩
structure dM(w w':World):Prop where
 os:w'.os=w.os
 tape:w'.tape=w.tape
 output:w'.output=w.output
theorem dM.refl(w:World):dM w w:=⟨rfl,rfl,rfl⟩
theorem dM.trans{a b c:World}(h:dM a b)(k:dM b c):dM a c:=⟨k.os.trans h.os,k.tape.trans h.tape,k.output.trans h.output⟩
structure nW where
 l:Nat
 aI:V
 S:List aI.al->Prop
 I:List aI.al->Bool->(Nat->Prop)->(Nat->Prop)->World->Prop
structure nW.j1(P:Program)(p:nW):Prop where
 FE:∀ {pre ad} {F F' Y:Nat->Prop} {w w':World},p.I pre ad F Y w->(∀ r,F r->F' r)->(∀ r,F r\/Y r->w'.heap[r]?=w.heap[r]?)->w.heap.size<=w'.heap.size->dM w w'->(∀ r,F' r->r<w'.heap.size)->(∀ r,F' r->¬Y r)->p.I pre ad F' Y w'
 yield:∀ {pre} {F Y:Nat->Prop} {w:World} {args:List Value} {x:p.aI.al},p.I pre false F Y w->(∀ r,F r->r<w.heap.size)->(∀ r,Y r->r<w.heap.size/\¬F r)->(∃ T,p.S (pre++x::T))->gv P p.aI F w args x->
  YieldAt Fence.wide 0 P p.l args.toArray w λe w'=>∃ (b:Bool) (F' jh:Nat->Prop),e=.returned (.bool b)/\(∀ r,F r->F' r)/\(∀ r,F' r->F r\/Y r\/w.heap.size<=r)/\(∀ r,F' r->r<w'.heap.size)/\
   (∀ r,r<w.heap.size->¬Y r->w'.heap[r]?=w.heap[r]?)/\(∀ r,jh r->(Y r\/w.heap.size<=r)/\r<w'.heap.size/\¬F' r)/\w.heap.size<=w'.heap.size/\dM w w'/\p.I (pre++[x]) (!b) F' jh w'
def nW.at(p:nW)(aI:V)(pre:List aI.al)(ad:Bool)(F Y:Nat->Prop)(w:World):Prop:=∃ h:aI=p.aI,p.I (h ▸ pre) ad F Y w
theorem nW.CD{l:Nat}{aI:V}{S:List aI.al->Prop}{I}{pre:List aI.al}{ad:Bool}{Y:Nat->Prop}:(nW.mk l aI S I).at aI pre ad F Y w<->I pre ad F Y w:=⟨λ⟨_,h⟩=>h,λh=>⟨rfl,h⟩⟩
theorem nW.j1.JT{p:nW}(h:p.j1 P){aI:V}{pre:List aI.al}{ad}{Y:Nat->Prop}:p.at aI pre ad F Y w->(∀ r,F r->F' r)->(∀ r,F r\/Y r->w'.heap[r]?=w.heap[r]?)->w.heap.size<=w'.heap.size->dM w w'->(∀ r,F' r->r<w'.heap.size)->(∀ r,F' r->¬Y r)->p.at aI pre ad F' Y w':=
 λ⟨e,E⟩ L ak aZ bP ej iW=>⟨e,h.FE E L ak aZ bP ej iW⟩
def ca:Nat:=1000000
def fE:Nat:=100000
def yh:Nat:=200000
structure cF where
 P:Program
 ep:World
 jA:Nat->Prop
 K0:Nat->Prop
 bV:Nat
 r:Option Nat
 dj:List Deferred
 j':Nat->Option Nat
 cG:nW
 aU:dV
 Pz:Nat->Option (bI×Nat):=λ_=>none
def amG(C:cF)(s:aC)(w:World)(kap:Nat->bI)(F:Nat->Prop):Prop:=
 ∀ l aI ab n ad,s.az ca=.aR l aI ab n ad->(∃ I,C.cG=⟨l,aI,ab,I⟩)/\C.cG.j1 C.P/\
  ∃ Y:Nat->Prop,(∀ r,Y r->r<w.heap.size/\¬F r/\¬C.K0 r)/\(∀ b,(s.aa b).body.cd (kap b)=true->¬Y (kap b).aa)/\C.cG.at aI n ad F Y w
def cx:Nat:=140000
def Ab(P:Program)(e:V)(F:Nat->Prop)(w:World)(id:Nat)(xs:List e.al):Prop:=
 ∃ cs T a1 G,w.heap[id]?=some (.cells cs T (a1,G))/\xs.length*e.size<=cs.size/\(G<=a1\/xs.length*e.size<=a1)/\nm P e F w cs 0 xs
theorem Ab.mono{P:Program}{e:V}{F F':Nat->Prop}{w w':World}{id:Nat}{xs:List e.al}(h:Ab P e F w id xs)(bm:∀ r,F r->F' r)(he:di F w w')(G:w'.heap[id]?=w.heap[id]?):Ab P e F' w' id xs:=by
 obtain⟨cs,T,a1,dR,E,L,ak,aZ⟩:=h;exact⟨cs,T,a1,dR,G.trans E,L,ak,aZ.mono bm he⟩
def wR(C:cF)(s:aC)(w:World)(kap:Nat->bI)(F:Nat->Prop):Prop:=
 ∀ e m,(s.aa cx).body=.bQ e m->(m.map (·.1)).Nodup/\
  ∀ id xs,(id,xs)∈m->(∀ l aI ab n ad,s.az ca≠.aR l aI ab n ad)/\id<w.heap.size/\¬F id/\¬C.K0 id/\(∀ b,(s.aa b).body.cd (kap b)=true->(kap b).aa≠id)/\Ab C.P e F w id xs
variable {s:aC}
theorem wR.bX{C:cF}{s':aC}(h:wR C s w kap F)(U:s'.aa=s.aa)(aG:∀ l aI ab n ad,s'.az ca=.aR l aI ab n ad->s.az ca=.aR l aI ab n ad):wR C s' w kap F:=by
 intro e m hm;rw[U]at hm;obtain⟨E,L⟩:=h e m hm;grind
def k7(H:Nat->b7)(r:Nat):Prop:=∃ (e:V) (m:List (Nat×List e.al)) (xs:List e.al),(H cx).body=.bQ e m/\(r,xs)∈m
theorem wR.nX{C:cF}(h:wR C s w kap F){r:Nat}(D:k7 s.aa r):(∀ l aI ab n ad,s.az ca≠.aR l aI ab n ad)/\r<w.heap.size/\¬F r/\¬C.K0 r/\∀ b,(s.aa b).body.cd (kap b)=true->(kap b).aa≠r:=by
 obtain⟨e,m,xs,E,L⟩:=D;obtain⟨_,ak⟩:=h e m E;grind
def yi(H H':Nat->b7):Prop:=∀ e m,(H' cx).body=.bQ e m->(H cx).body=.bQ e m
theorem yi.refl(H:Nat->b7):yi H H:=λ_ _ h=>h
variable {x:b7}
theorem JU(h:x.body.l3=false):yi H (λi=>if i=b then x else H i):=λe m hm=>by
 by_cases k:cx=b
 ·simp  [if_pos k]at hm;rw[hm]at h;cases h
 grind
structure bw(C:cF)(s:aC)(a:Act)(w:World)(kap:Nat->bI)(F:Nat->Prop):Prop where
 dX:a.tmps.size=C.bV
 dj:a.defers=C.dj
 bX:∀ i,bJ C.P s.aa kap F w (s.az i) (a.tmps.getD i Go.undef)
 bC:∀ b,c7 C.P s.aa kap F w b
 own:∀ b,(s.aa b).body.cd (kap b)=true->(kap b).aa<w.heap.size/\¬F (kap b).aa/\¬C.K0 (kap b).aa
 inj:∀ b bf,(s.aa b).body.cd (kap b)=true->(s.aa bf).body.cd (kap bf)=true->(kap b).aa=(kap bf).aa->b=bf
 dr:∀ r,F r->r<w.heap.size
 hQ:∀ r,F r->C.jA r\/¬C.K0 r
 iq:∀ r,C.jA r->F r
 ir:∀ r,C.K0 r->r<C.ep.heap.size
 e2:∀ r,C.K0 r->w.heap[r]?=C.ep.heap[r]?
 size:C.ep.heap.size<=w.heap.size
 eN:dM C.ep w
 hE:C.bV<=fE
 k8:∀ b r,C.j' b=some r->fE<=b
 iY:∀ b r,C.j' b=some r->(s.aa b).body.hl=true\/(s.aa b).body.iX=true->(kap b).aa=r
 k9:∀ b k,C.Pz b=some k->yh<=b
 jB:∀ b k,C.Pz b=some k->(s.aa b).gen=0->(s.aa b).body.gS=true->kap b=k.1/\(s.aa b).body.len=k.2
 e7:amG C s w kap F
 bQ:wR C s w kap F
 j2:qI C.P C.aU
 hW:pd C.P F w
def dc(C:cF)(s:aC)(a:Act)(w:World):Prop:=∃ kap F,bw C s a w kap F
def aC.set(s:aC)(d:Option Nat)(v:aL):aC:=
 match d with
 | none=>s
 | some d=>{ s with az:=λi=>if i=d then v else s.az i }
def aC.cn(s:aC)(b:Nat)(x:b7):aC:={ s with aa:=λi=>if i=b then x else s.aa i }
variable {a:Act}
theorem amH{d:Nat}{v:Value}(aw:d<a.tmps.size)(i:Nat):(a.put (some d) v).tmps.getD i Go.undef=if i=d then v else a.tmps.getD i Go.undef:=by
 simp  [Act.put];grind
theorem bw.set{C:cF}{s:aC}{a:Act}{w:World}{kap:Nat->bI}{F:Nat->Prop}(h:bw C s a w kap F){d:Option Nat}(aw:∀ i,d=some i->i<C.bV){av:aL}{v:Value}
  (ae:bJ C.P s.aa kap F w av v):bw C (s.set d av) (a.put d v) w kap F:=by
 cases d with
 | none=>exact h
 | some d=>
  have JV:=aw d rfl;have aA:=h.hE;refine { h with dX:=by simpa [Act.put]using h.dX,dj:=h.dj,bX:=λi=>?_,e7:=λl aI ab n ad e=>?_,bQ:=λe m hm=>⟨(h.bQ e m hm).1,λid xs ao=>⟨λl aI ab n ad=>?_,((h.bQ e m hm).2 id xs ao).2⟩⟩ }
  ·rw[amH (by rw[h.dX];omega)];simp only[aC.set];by_cases G:i=d
   ·grind
   ·rw[if_neg G,if_neg G];exact h.bX i
  ·simp  [aC.set]at e;rw[if_neg (by grind [ca,fE])]at e;exact h.e7 l aI ab n ad e
  ·simp  [aC.set];rw[if_neg (by grind [ca,fE])];exact ((h.bQ e m hm).2 id xs ao).1 l aI ab n ad
theorem bw.move{C:cF}(h:bw C s a w kap F)
  (ah:fL s.aa kap H' bR) (bm:∀ r,F r->F' r) (yd:∀ r,F' r->F r\/(∃ b,(s.aa b).body.cd (kap b)=true/\(kap b).aa=r)\/w.heap.size<=r)
  (cI:w.heap.size<=w'.heap.size) (hw:∀ r,r<w.heap.size->(∀ b,(s.aa b).body.cd (kap b)=true->(kap b).aa≠r)->w'.heap[r]?=w.heap[r]?) (hc:dM w w')
  (U:di F w w'->∀ b,c7 C.P H' bR F' w' b)
  (ar:∀ b,(H' b).body.cd (bR b)=true->(bR b).aa<w'.heap.size/\¬F' (bR b).aa/\((∃ b0,(s.aa b0).body.cd (kap b0)=true/\(kap b0).aa=(bR b).aa)\/w.heap.size<=(bR b).aa))
  (G:∀ b bf,(H' b).body.cd (bR b)=true->(H' bf).body.cd (bR bf)=true->(bR b).aa=(bR bf).aa->b=bf)
  (ay:∀ r,F' r->r<w'.heap.size)
  (amI:∀ b,fE<=b->(H' b).body.hl=true\/(H' b).body.iX=true->bR b=kap b/\((s.aa b).body.hl=true\/(s.aa b).body.iX=true)) (u_:yi s.aa H':=by first | exact yi.refl _ | exact JU rfl):bw C ⟨s.az,H'⟩ a w' bR F':=by
 have amJ:∀ r,C.K0 r->(∀ b,(s.aa b).body.cd (kap b)=true->(kap b).aa≠r):=λr D b U e=>(h.own b U).2.2 (e ▸ D);have an:=λr D=>hw r (aPB (h.ir r D) h.size) (amJ r D);have he:di F w w':=⟨cI,λr D=>hw r (h.dr r D) λb U e=>(h.own b U).2.1 (e ▸ D)⟩
 refine { dX:=h.dX,dj:=h.dj,bX:=λi=>bJ.later ah bm he (h.bX i),bC:=U he,own:=λb U=>?_,inj:=G,dr:=ay,hQ:=λr D=>?_,iq:=λr D=>bm r (h.iq r D),ir:=h.ir,e2:=λr D=>(an r D).trans (h.e2 r D),size:=aPG h.size cI,eN:=h.eN.trans hc,hE:=h.hE,k8:=h.k8,iY:=λb r D hc=>?_,k9:=h.k9,jB:=λb k an aV aW=>?_,e7:=λl aI ab n ad e=>?_,bQ:=λe m hm=>?_,j2:=h.j2,hW:=h.hW.mono bm he }
 ·grind
 ·rcases yd r D with E | ⟨b,E,rfl⟩ | E
  ·exact h.hQ r E
  ·grind
  grind
 ·obtain⟨aM,aS⟩:=amI b (h.k8 b r D) hc;rw[aM];exact h.iY b r D aS
 ·obtain⟨dx,ec⟩:=ah b;have aV:(H' b).gen=0:=aV;obtain⟨cw,b2,ef,_⟩:=(ec (by omega)).2.1 aW;obtain⟨aM,aS⟩:=h.jB b k an (by omega) cw;grind
 ·obtain⟨E,L,Y,ak,aZ,bP⟩:=h.e7 l aI ab n ad e;have FH:∀ r,Y r->¬F' r:=λr D ax=>by
   grind
  refine⟨E,L,Y,λr D=>⟨aPB (ak r D).1 cI,FH r D,(ak r D).2.2⟩,λb U a_=>?_,L.JT bP bm (λr D=>?_) cI hc ay λr ax a_=>FH r a_ ax⟩
  ·grind
  ·rcases D with D | D
   ·exact he.2 r D
   grind
 ·obtain⟨e8,mv⟩:=h.bQ e m (u_ e m hm);refine⟨e8,λid xs ao=>?_⟩;obtain⟨nn,cO,cJ,gT,ly,cu⟩:=mv id xs ao;refine⟨nn,aPB cO cI,λax=>?_,gT,λb U e=>?_,cu.mono bm he (hw id cO ly)⟩<;>grind
theorem rz(w:World)(o:Obj){r:Nat}(h:r<w.heap.size):(w.alloc o).heap[r]?=w.heap[r]?:=Below.heap_alloc w o r h
theorem tN(w:World)(o:Obj):(w.alloc o).heap[w.heap.size]?=some o:=by
 show (w.heap.push o)[w.heap.size]?=_;simp
theorem di.alloc{F:Nat->Prop}{w:World}(ay:∀ r,F r->r<w.heap.size)(o:Obj):di F w (w.alloc o):=
 ⟨by simp,λr D=>rz w o (ay r D)⟩
theorem CE(aD:(H b).gen<x.gen)(JW:∀ bf,bf≠b->bR bf=kap bf) :
  fL H kap (λi=>if i=b then x else H i) bR:=by
 intro i;by_cases G:i=b
 ·subst G;simp;exact⟨by omega,λh=>by omega⟩
 grind [tM.refl]
theorem CF(U:b<fE\/(x.body.hl=false/\x.body.iX=false))(JW:∀ bf,bf≠b->bR bf=kap bf) :
  ∀ i,fE<=i->(if i=b then x else H i).body.hl=true\/(if i=b then x else H i).body.iX=true->bR i=kap i/\((H i).body.hl=true\/(H i).body.iX=true):=by
 grind
theorem bw.alloc{C:cF}{s:aC}{a:Act}{w:World}{kap:Nat->bI}{F:Nat->Prop}(h:bw C s a w kap F){b:Nat}{x:b7}(FI:b<fE)(aD:(s.aa b).gen<x.gen)
  {o:Obj} {k:bI} (an:k.aa=w.heap.size)
  (ao:∀ (H:Nat->b7) (bR:Nat->bI),H=(λi=>if i=b then x else s.aa i)->bR=(λi=>if i=b then k else kap i)->fL s.aa kap H bR->mu C.P H bR F (w.alloc o) k x.body) (FJ:x.body.l3=false:=by rfl) :
  bw C (s.cn b x) a (w.alloc o) (λi=>if i=b then k else kap i) F:=by
 have ah:fL s.aa kap (λi=>if i=b then x else s.aa i) (λi=>if i=b then k else kap i):=CE aD λbf eg=>by grind
 refine h.move   ah (λ_ D=>D) (λ_ D=>.inl D) (by simp) (λr D _=>rz w o D) ⟨rfl,rfl,rfl⟩ (λhe=>?_) ?_ ?_ ?_ (CF (.inl FI) λbf eg=>by grind) (JU FJ)
 ·intro i;by_cases G:i=b
  ·grind [c7]
  ·refine c7.k6 (h.bC i) ah (λ_ D=>D) he (by grind) (by grind) λar=>?_;exact rz w o (h.own i ar).1
 ·intro i G;by_cases bg:i=b
  ·subst bg;simp  at G ⊢;refine⟨by omega,λax=>?_,.inr (by omega)⟩;have:=h.dr _ ax;omega
  ·simp only[if_neg bg]at G ⊢;have:=h.own i G;exact⟨by simp;omega,this.2.1,.inl ⟨i,G,rfl⟩⟩
 ·intro i j G aJ e;by_cases bg:i=b<;>by_cases oI:j=b
  ·omega
  ·simp  [if_pos bg,if_neg oI]at G aJ e;have:=(h.own j aJ).1;omega
  ·simp  [if_neg bg,if_pos oI]at G aJ e;have:=(h.own i G).1;omega
  ·simp  [if_neg bg,if_neg oI]at G aJ e;exact h.inj i j G aJ e
 ·intro r D;have:=h.dr r D;simp;omega
theorem pf(aD:x.gen=(H b).gen)(E:x.body.hl=true->(H b).body.hl=true)
  (L:x.body.gS=true->(H b).body.gS=true/\x.body.len=(H b).body.len/\x.body.gJ=(H b).body.gJ) (ak:x.body.iX=true->(H b).body.iX=true)
  (aZ:x.body.qK=true->(H b).body.qK=true) :
  fL H kap (λi=>if i=b then x else H i) kap:=by
 rw[X'];intro i;by_cases G:i=b
 ·subst G;simp;exact⟨by omega,λ_=>⟨λh=>⟨E h,rfl⟩,λh=>⟨(L h).1,rfl,(L h).2⟩,λh=>⟨ak h,rfl⟩,λh=>⟨aZ h,rfl⟩⟩⟩
 grind [tM.refl]
theorem amK(E:x.body.hl=true->(H b).body.hl=true)(ak:x.body.iX=true->(H b).body.iX=true) :
  ∀ i,fE<=i->(if i=b then x else H i).body.hl=true\/(if i=b then x else H i).body.iX=true->kap i=kap i/\((H i).body.hl=true\/(H i).body.iX=true):=by
 grind
theorem bw.qL{C:cF}(h:bw C s a w kap F)
  (eJ:(s.aa b).body.cd (kap b)=true) (yj:x.body.cd (kap b)=true) (ah:fL s.aa kap (λi=>if i=b then x else s.aa i) kap)
  (E:x.body.hl=true->(s.aa b).body.hl=true) (ak:x.body.iX=true->(s.aa b).body.iX=true)
  (hw:∀ r,r≠(kap b).aa->w'.heap[r]?=w.heap[r]?) (cI:w'.heap.size=w.heap.size) (hc:dM w w')
  (ao:∀ (H:Nat->b7),H=(λi=>if i=b then x else s.aa i)->fL s.aa kap H kap->di F w w'->mu C.P H kap F w' (kap b) x.body) (FJ:x.body.l3=false:=by rfl) :
  bw C (s.cn b x) a w' kap F:=by
 have ar:=h.own b eJ;refine h.move   ah (λ_ D=>D) (λ_ D=>.inl D) (by omega) (λr _ D=>hw r λe=>D b eJ e.symm) hc (λhe=>?_) ?_ ?_ (λr D=>by rw[cI];exact h.dr r D) (amK E ak) (JU FJ)
 ·intro i;by_cases G:i=b
  ·grind [c7]
  ·refine c7.k6 (h.bC i) ah (λ_ D=>D) he (by grind) rfl λamL=>hw _ λe=>G (h.inj i b amL eJ e)
 ·intro i G;by_cases bg:i=b
  ·grind
  ·simp  [if_neg bg]at G;have:=h.own i G;grind
 ·intro i j G aJ e;have dR:(s.aa i).body.cd (kap i)=true:=by
   grind
  have gD:(s.aa j).body.cd (kap j)=true:=by
   grind
  exact h.inj i j dR gD e
theorem bw.drew{C:cF}{s:aC}{a:Act}{w:World}{kap:Nat->bI}{F:Nat->Prop}(h:bw C s a w kap F):bw C s a w.drew kap F:=
 h.move (H':=s.aa) (fL.refl _ _) (λ_ D=>D) (λ_ D=>.inl D) (amo _) (λ_ _ _=>rfl) ⟨rfl,rfl,rfl⟩
  (λ_ b=>c7.k6 (h.bC b) (fL.refl _ _) (λ_ D=>D) ⟨amo _,λ_ _=>rfl⟩ rfl rfl λ_=>rfl) (λb U=>⟨(h.own b U).1,(h.own b U).2.1,.inl ⟨b,U,rfl⟩⟩) h.inj h.dr (λ_ _ h=>⟨rfl,h⟩) (yi.refl _)
def aC.le(s' s:aC):Prop:=(∀ i,s'.az i=s.az i\/s'.az i=.undef)/\∀ b,s'.aa b=s.aa b\/s'.aa b=⟨(s.aa b).gen,.ey⟩
theorem bw.u'{C:cF}{s':aC}(h:bw C s a w kap F)(ay:s'.le s):bw C s' a w kap F:=by
 have eJ:∀ b,(s'.aa b).body.cd (kap b)=true->(s.aa b).body.cd (kap b)=true:=λb U=>by
  rcases ay.2 b with e | e
  ·grind
  ·rw[e]at U;cases U
 have ah:fL s.aa kap s'.aa kap:=λb=>by
  rcases ay.2 b with e | e
  ·grind
  ·rw[e];exact⟨amo _,λ_=>⟨λh=>(by cases h),λh=>(by cases h),λh=>(by cases h),λh=>(by cases h)⟩⟩
 have L:=h.move ah (λ_ D=>D) (λ_ D=>.inl D) (amo _) (λ_ _ _=>rfl) (dM.refl _)
  (λ_ b=>by
   rcases ay.2 b with e | e
   ·exact c7.k6 (h.bC b) ah (λ_ D=>D) (di.refl _ _) (by rw[e]) rfl λ_=>rfl
   ·unfold c7;rw[e];trivial)
  (λb U=>⟨(h.own b (eJ b U)).1,(h.own b (eJ b U)).2.1,.inl ⟨b,eJ b U,rfl⟩⟩) (λb bf U eg=>h.inj b bf (eJ b U) (eJ bf eg)) h.dr (λb _ U=>⟨rfl,by
   rcases ay.2 b with e | e
   ·grind
   grind [b8.hl,b8.iX]⟩) (λe m hm=>by
   rcases ay.2 cx with k | k<;>grind)
 refine { L with bX:=λi=>?_,dX:=L.dX,dj:=L.dj,e7:=λl aI ab n ad e=>?_,bQ:=λe m hm=>⟨(L.bQ e m hm).1,λid xs ao=>⟨λl aI ab n ad aG=>?_,((L.bQ e m hm).2 id xs ao).2⟩⟩ }
 ·rcases ay.1 i with e | e
  ·rw[e];exact L.bX i
  ·rw[e];trivial
 ·rcases ay.1 ca with k | k
  ·exact L.e7 l aI ab n ad (k ▸ e)
  grind
 ·rcases ay.1 ca with k | k
  ·exact ((L.bQ e m hm).2 id xs ao).1 l aI ab n ad (k ▸ aG)
  grind
end Go.Fer
namespace Go.Fer
inductive aE(af:Type) where
 | ret (a:af)
 | fp (b:Nat) (k:b7->aE af)
def aE.run{af:Type}(H:Nat->b7):aE af->af
 | .ret a=>a
 | .fp b k=>(k (H b)).run H
def aE.looks{af:Type}(H:Nat->b7):aE af->List Nat
 | .ret _=>[]
 | .fp b k=>b::(k (H b)).looks H
def aE.bind{af bet:Type}:aE af->(af->aE bet)->aE bet
 | .ret a,f=>f a
 | .fp b k,f=>.fp b λx=>(k x).bind f
variable {af:Type}{bet:Type}
def aE.map(f:af->bet)(m:aE af):aE bet:=m.bind λa=>.ret (f a)
def aE.none{af:Type}:aE (Option af):=.ret Option.none
def aE.eG(m:aE (Option af))(f:af->aE (Option bet)):aE (Option bet):=m.bind fun | some a=>f a | Option.none=>.none
@[simp] theorem aE.dy (H:Nat->b7) (a:af):(aE.ret a).run H=a:=rfl
@[simp] theorem aE.gU (H:Nat->b7) (b:Nat) (k:b7->aE af):(aE.fp b k).run H=(k (H b)).run H:=rfl
theorem aE.run_bind(H:Nat->b7)(m:aE af)(f:af->aE bet):(m.bind f).run H=(f (m.run H)).run H:=by
 induction m with
 | ret a=>rfl
 | fp b k aO=>simp[aE.bind,aO]
theorem aE.fZ(H:Nat->b7)(m:aE (Option af))(f:af->aE (Option bet)):(m.eG f).run H=(m.run H).bind λa=>(f a).run H:=by
 unfold aE.eG;rw[aE.run_bind];cases m.run H<;>rfl
theorem aE.Ya{af:Type}{H H':Nat->b7}:∀ (m:aE af),(∀ b∈m.looks H,H' b=H b)->m.run H'=m.run H/\m.looks H'=m.looks H
 | .ret a,_=>⟨rfl,rfl⟩
 | .fp b k,h=>by
  have U:=h b (by simp[aE.looks]);have:=aE.Ya (k (H b)) λc hc=>h c (by simp[aE.looks,hc]);simp only[aE.run,aE.looks,U,this];simp
def fF(t dN:V)(x:t.al):Option dN.al:=if h:t=dN then some (h ▸ x) else none
theorem mN{t dN:V}{x:t.al}{y:dN.al}(h:fF t dN x=some y):∃ e:t=dN,y=e ▸ x:=by
 unfold fF at h;grind
def FK:(t:V)->Value->Option t.al
 | .bM _,.pointer Option.none=>some Option.none
 | .map _ _,.map Option.none=>some []
 | .eW,.nilFunc=>some Option.none
 | _,_=>Option.none
def V.isAgg:V->Bool
 | .ad _ | .array _ _=>true
 | _=>false
def eK(t:V):aL->aE (Option (t.al×List Nat))
 | .val dN x=>.ret ((fF dN t x).map (·,[]))
 | .dW=>match t with
  | .slice _=>.ret (some ([],[]))
  | .cN _=>.ret (some ((0,0,0),[]))
  | _=>.none
 | .own b g=>match t with
  | .slice e=>.fp b λx=>.ret (if x.gen=g then (match x.body with
    | .bl aY xs=>(fF (.slice aY) (.slice e) xs).map (·,[b])
    | .jz aY xs=>(fF (.slice aY) (.slice e) xs).map (·,[])
    | _=>Option.none) else Option.none)
  | _=>.none
 | .sub b g a1 G=>match t with
  | .slice e=>.fp b λx=>.ret (if x.gen=g then (match x.body with
    | .bl aY xs=>(fF (.slice aY) (.slice e) ((xs.take G).drop a1)).map (·,[b])
    | .jz aY xs=>(fF (.slice aY) (.slice e) ((xs.take G).drop a1)).map (·,[])
    | _=>Option.none) else Option.none)
  | _=>.none
 | .u9 aY xs=>match t with
  | .slice e=>.ret ((fF (.slice aY) (.slice e) xs).map (·,[]))
  | _=>.none
 | .hk b g=>match t with
  | .map k v=>.fp b λx=>.ret (if x.gen=g then (match x.body with
    | .mp k' iu es=>(fF (.map k' iu) (.map k v) es).map (·,[b])
    | .k5 k' iu es=>(fF (.map k' iu) (.map k v) es).map (·,[])
    | _=>Option.none) else Option.none)
  | _=>.none
 | .eL dN x=>match t with
  | .bM e=>.ret ((fF (.bM dN) (.bM e) (some x)).map (·,[]))
  | _=>.none
 | .k4 v=>.ret ((FK t v).map (·,[]))
 | .ji k n _=>match t with
  | .eW=>if n=0 then .ret (some (some k,[])) else .none
  | _=>.none
 | _=>.none
def wS(e:V)(cq:List aL->aE (Option (e.al×List Nat×List aL)))(av:aL):aE (Option (Option e.al×List Nat)):=
 match av with
 | .eY b g off=>.fp b λx=>if x.gen=g/\off=0 then (match x.body with
   | .im dN y=>.ret ((fF dN e y).map λz=>(some z,[]))
   | .cells dN f=>if dN=e then (cq ((List.range e.size).map f)).eG λ(y,l,r)=>.ret (if r.isEmpty then some (some y,b::l) else Option.none) else .none
   | _=>.none) else .none
 | av=>eK (.bM e) av
def k_:(t:V)->List aL->aE (Option (t.al×List Nat×List aL))
 | .dh,cs=>.ret (some ((),[],cs))
 | .ad t,cs=>k_ t cs
 | .au a b,cs=>(k_ a cs).eG λ(x,l,r)=>(k_ b r).eG λ(y,m,q)=>.ret (some ((x,y),l++m,q))
 | .array n e,cs=>n.rec (motive:=λ_=>List aL->aE (Option (List e.al×List Nat×List aL))) (λcs=>.ret (some ([],[],cs)))
   (λ_ aO cs=>(k_ e cs).eG λ(x,l,r)=>(aO r).eG λ(xs,m,q)=>.ret (some (x::xs,l++m,q))) cs
 | .bool,cs=>match cs with | c::r=>(eK .bool c).map λo=>o.map λ(x,l)=>(x,l,r) | []=>.none
 | .int k,cs=>match cs with | c::r=>(eK (.int k) c).map λo=>o.map λ(x,l)=>(x,l,r) | []=>.none
 | .str,cs=>match cs with | c::r=>(eK .str c).map λo=>o.map λ(x,l)=>(x,l,r) | []=>.none
 | .slice e,cs=>match cs with | c::r=>(eK (.slice e) c).map λo=>o.map λ(x,l)=>(x,l,r) | []=>.none
 | .bM e,cs=>match cs with | c::r=>(wS e (k_ e) c).map λo=>o.map λ(x,l)=>(x,l,r) | []=>.none
 | .cN e,cs=>match cs with | c::r=>(eK (.cN e) c).map λo=>o.map λ(x,l)=>(x,l,r) | []=>.none
 | .map k v,cs=>match cs with | c::r=>(eK (.map k v) c).map λo=>o.map λ(x,l)=>(x,l,r) | []=>.none
 | .fn a b,cs=>match cs with | c::r=>(eK (.fn a b) c).map λo=>o.map λ(x,l)=>(x,l,r) | []=>.none
 | .cE a,cs=>match cs with | c::r=>(eK (.cE a) c).map λo=>o.map λ(x,l)=>(x,l,r) | []=>.none
 | .eW,cs=>match cs with | c::r=>(eK .eW c).map λo=>o.map λ(x,l)=>(x,l,r) | []=>.none
def l4(t:V)(av:aL):aE (Option (t.al×List Nat)):=
 match t with
 | .bM e=>wS e (k_ e) av
 | t=>if t.fY then eK t av else .none
def eh(t:V)(av:aL):aE (Option (t.al×List Nat)):=
 match av with
 | .val dN x=>.ret ((fF dN t x).map (·,[]))
 | .agg n f=>if t.fY then .none else (k_ t ((List.range n).map f)).eG λ(x,l,r)=>.ret (if r.isEmpty&&t.isAgg then some (x,l) else Option.none)
 | _=>l4 t av
def p4:(t:V)->t.al->List aL
 | .dh,_=>[]
 | .ad t,x=>p4 t x
 | .au a b,x=>p4 a x.1++p4 b x.2
 | .array n e,xs=>(List.range n).flatMap λi=>p4 e (List.getD xs i e.dU)
 | .bool,x=>[.val .bool x]
 | .int k,x=>[.val (.int k) x]
 | .str,x=>[.val .str x]
 | .slice e,x=>[.val (.slice e) x]
 | .cN e,x=>[.val (.cN e) x]
 | .bM e,x=>[.val (.bM e) x]
 | .map k v,x=>[.val (.map k v) x]
 | .fn a b,x=>[.val (.fn a b) x]
 | .cE a,x=>[.val (.cE a) x]
 | .eW,x=>[.val .eW x]
def va:V->List aL
 | .dh=>[]
 | .ad t=>va t
 | .au a b=>va a++va b
 | .array n e=>(List.range n).flatMap λ_=>va e
 | .bool=>[.val .bool false]
 | .int k=>[.val (.int k) (0:Int)]
 | .str=>[.val .str []]
 | .cN _=>[.dW]
 | .slice _=>[.dW]
 | .bM e=>[.val (.bM e) Option.none]
 | .map k v=>[.val (.map k v) []]
 | .fn _ _=>[.k4 .nilFunc]
 | .cE _=>[.k4 .nilFunc]
 | .eW=>[.val .eW Option.none]
def hX(l:List aL)(i:Nat):aL:=l.getD i .undef
def p5:V->Nat->Option (V×Nat)
 | .au a _,0=>some (a,0)
 | .au a b,f+1=>(p5 b f).map λ(t,o)=>(t,a.size+o)
 | .dh,_=>Option.none
 | t,0=>some (t,0)
 | _,_+1=>Option.none
def yk:(t:V)->t.al->Nat->Option ((s:V)×s.al)
 | .au a _,x,0=>some ⟨a,x.1⟩
 | .au _ b,x,f+1=>yk b x.2 f
 | .dh,_,_=>Option.none
 | t,x,0=>some ⟨t,x⟩
 | _,_,_+1=>Option.none
def vb:(t:V)->t.al->Nat->(s:V)->Option s.al
 | .ad t,x,off,s=>if off=0/\V.ad t=s then fF (.ad t) s x else vb t x off s
 | .au a b,x,off,s=>if off<a.size then vb a x.1 off s else vb b x.2 (off - a.size) s
 | .dh,_,_,_=>Option.none
 | .array _ _,_,_,_=>Option.none
 | .bool,x,off,s=>if off=0 then fF .bool s x else Option.none
 | .int k,x,off,s=>if off=0 then fF (.int k) s x else Option.none
 | .cN e,x,off,s=>if off=0 then fF (.cN e) s x else Option.none
 | .str,x,off,s=>if off=0 then fF .str s x else Option.none
 | .slice e,x,off,s=>if off=0 then fF (.slice e) s x else Option.none
 | .bM e,x,off,s=>if off=0 then fF (.bM e) s x else Option.none
 | .map k v,x,off,s=>if off=0 then fF (.map k v) s x else Option.none
 | .fn a b,x,off,s=>if off=0 then fF (.fn a b) s x else Option.none
 | .cE a,x,off,s=>if off=0 then fF (.cE a) s x else Option.none
 | .eW,x,off,s=>if off=0 then fF .eW s x else Option.none
def Ac:(t:V)->t.al->Nat->(s:V)->s.al->Option t.al
 | .ad t,x,off,s,y=>if off=0/\s=V.ad t then fF s (.ad t) y else Ac t x off s y
 | .au a b,x,off,s,y=>if off<a.size then (Ac a x.1 off s y).map (·,x.2) else (Ac b x.2 (off - a.size) s y).map (x.1,·)
 | .dh,_,_,_,_=>Option.none
 | .array _ _,_,_,_,_=>Option.none
 | .bool,_,off,s,y=>if off=0 then fF s .bool y else Option.none
 | .cN e,_,off,s,y=>if off=0 then fF s (.cN e) y else Option.none
 | .int k,_,off,s,y=>if off=0 then fF s (.int k) y else Option.none
 | .str,_,off,s,y=>if off=0 then fF s .str y else Option.none
 | .slice e,_,off,s,y=>if off=0 then fF s (.slice e) y else Option.none
 | .bM e,_,off,s,y=>if off=0 then fF s (.bM e) y else Option.none
 | .map k v,_,off,s,y=>if off=0 then fF s (.map k v) y else Option.none
 | .fn a b,_,off,s,y=>if off=0 then fF s (.fn a b) y else Option.none
 | .cE a,_,off,s,y=>if off=0 then fF s (.cE a) y else Option.none
 | .eW,_,off,s,y=>if off=0 then fF s .eW y else Option.none
def nY(k:IntKind)(a b:Int):Int:=k.wrap (BitVec.ofInt k.bits a&&& BitVec.ofInt k.bits b).toNat
def Yb(k:IntKind)(a b:Int):Int:=k.wrap (BitVec.ofInt k.bits a||| BitVec.ofInt k.bits b).toNat
def Yc(k:IntKind)(a b:Int):Int:=k.wrap (BitVec.ofInt k.bits a ^^^ BitVec.ofInt k.bits b).toNat
def Yd(k:IntKind)(a b:Int):Int:=k.wrap (BitVec.ofInt k.bits a&&& ~~~BitVec.ofInt k.bits b).toNat
def amM(k:IntKind)(a b:Int):Int:=k.wrap (a*2 ^ (min b.toNat k.bits))
def la(k:IntKind)(a b:Int):Int:=a.fdiv (2 ^ (min b.toNat k.bits))
def mO(t:V)(xs:List t.al)(i:Int):t.al:=xs.getD i.toNat t.dU
def cb(n:Nat):Prop:=n<=4294967296
def iJ:(t:V)->t.al->t.al->Bool
 | .bool,x,y=>x == y
 | .int _,x,y=>decide ((x:Int)=y)
 | .str,x,y=>decide ((x:List UInt8)=y)
 | .ad t,x,y=>iJ t x y
 | .au a b,x,y=>iJ a x.1 y.1&&iJ b x.2 y.2
 | _,_,_=>false
def V.oJ:V->Bool
 | .bool | .int _ | .str=>true
 | .ad t=>t.oJ
 | .au a b=>a.oJ&&b.oJ
 | _=>false
end Go.Fer
namespace Go.Fer
open Go.RowKit
section
variable {P:Program} {H:Nat->b7} {kap:Nat->bI} {F F':Nat->Prop} {w:World}
def fy(P:Program)(H:Nat->b7)(kap:Nat->bI)(F:Nat->Prop)(w:World):List aL->List Value->Prop
 | [],[]=>True
 | a::as,v::aH=>(bJ P H kap F w a v/\v.oneCell'=true)/\fy P H kap F w as aH
 | _,_=>False
theorem fy.append:∀ {as dz:List aL} {us aH:List Value},fy P H kap F w as us->fy P H kap F w dz aH->fy P H kap F w (as++dz) (us++aH)
 | [],_,[],_,_,k=>k
 | _::_,_,_::_,_,h,k=>⟨h.1,fy.append h.2 k⟩
 | [],_,_::_,_,h,_=>h.elim
 | _::_,_,[],_,h,_=>h.elim
theorem fy.len:∀ {as:List aL} {us:List Value},fy P H kap F w as us->as.length=us.length
 | [],[],_=>rfl
 | _::_,_::_,h=>by simp[fy.len h.2]
 | [],_::_,h=>h.elim
 | _::_,[],h=>h.elim
theorem fy.mO:∀ {as:List aL} {us:List Value},fy P H kap F w as us->∀ i,i<as.length->bJ P H kap F w (hX as i) (us.getD i Go.undef)/\(us.getD i Go.undef).oneCell'=true
 | a::as,v::aH,h,0,_=>h.1
 | a::as,v::aH,h,i+1,G=>by
  have:=fy.mO h.2 i (by grind);simpa [hX]using this
 | [],[],_,i,G=>by grind
 | [],_::_,h,_,_=>h.elim
 | _::_,[],h,_,_=>h.elim
theorem fy.Ye:∀ {as:List aL} {us:List Value},as.length=us.length->(∀ i,i<as.length->bJ P H kap F w (hX as i) (us.getD i Go.undef)/\(us.getD i Go.undef).oneCell'=true)->fy P H kap F w as us
 | [],[],_,_=>trivial
 | a::as,v::aH,ah,h=>⟨h 0 (by simp),fy.Ye (by grind) λi G=>by have:=h (i+1) (by grind);simpa [hX]using this⟩
 | [],_::_,ah,_=>by grind
 | _::_,[],ah,_=>by grind
theorem CG:∀ (t:V) {cs:List Value} {x:t.al},cp P t F w cs x->fy P H kap F w (p4 t x) cs:=by
 have fg:∀ (t:V),t.fY=true->∀ {cs:List Value} {x:t.al},cp P t F w cs x->fy P H kap F w [.val t x] cs:=by
  intro t aG cs x h;obtain⟨u,rfl,hu⟩:=JP aG h;exact⟨⟨(eb aG).2 ⟨hu,h⟩,Px aG h⟩,trivial⟩
 intro t;induction t with
 | bool=>intro cs x h;exact fg _ rfl h
 | int k=>intro cs x h;exact fg (.int k) rfl h
 | str=>intro cs x h;exact fg _ rfl h
 | dh=>intro cs x h;subst h;trivial
 | ad t aO=>intro cs x h;exact aO h
 | au a b gI fS=>
  intro cs x h;obtain⟨c,d,rfl,aW,U⟩:=h;exact (gI aW).append (fS U)
 | slice e aO=>intro cs x h;exact fg (.slice e) rfl h
 | array n e aO=>
  intro cs xs h;simp  [cp]at h;simp only[p4];have key:∀ (k:Nat) (l:List (List Value)),(∀ i (G:i<l.length),fy P H kap F w (p4 e (List.getD xs (k+i) e.dU)) l[i])->fy P H kap F w ((List.range' k l.length).flatMap λi=>p4 e (List.getD xs i e.dU)) l.flatten:=by
   intro k l;induction l generalizing k with
   | nil=>intro _;trivial
   | cons c l amN=>
    intro df;refine fy.append ?_ (amN (k+1) λi G=>?_)
    ·have:=df 0 (by simp);grind
    ·have:=df (i+1) (by grind);grind
  rw[aQB];grind
 | bM e aO=>intro cs x h;exact fg (.bM e) rfl h
 | map k v zY zZ=>intro cs x h;exact fg (.map k v) rfl h
 | fn a b gI fS=>intro cs x h;exact fg (.fn a b) rfl h
 | cE a aO=>intro cs x h;exact fg (.cE a) rfl h
 | eW=>intro cs x h;exact fg .eW rfl h
 | cN e aO=>intro cs x h;exact fg (.cN e) rfl h
variable {e:V}{k:bI}
theorem PA{xs:List e.al}(aX:mu P H kap F w k (.bl e xs))(bm:∀ r,F r->F' r)(an:k.fT=false->F' k.aa):cp P (.slice e) F' w [k.slice xs.length] xs:=by
 obtain⟨E,L⟩:=aX;simp  [bI.slice];cases aA:k.fT with
 | true=>rw[E aA];exact⟨none,0,rfl,amo _,by decide,λ_=>rfl,λp aj=>by simp⟩
 | false=>
  obtain⟨cs,T,bE,c2,c3,c4,c5⟩:=L aA;refine⟨some ⟨k.aa,k.off,none⟩,k.cap,by simp,c3,c4.1,(by simp),λp aj _=>?_⟩;cases aj;refine⟨an aA,rfl,λi G=>?_⟩;obtain⟨bB,d1,d2⟩:=c5 i G;refine⟨bB,⟨an aA,rfl,λj aJ=>?_⟩,fK e bm (di.refl F w) d2⟩;simp  [World.cell?];grind
variable {t:V}{v:Value}
theorem CH{dN:V}{x:t.al}{y:dN.al}(hc:fF t dN x=some y)(h:fo P t F w v x):fo P dN F w v y:=by
 obtain⟨e,rfl⟩:=mN hc;grind
theorem wT{dN:V}{x:t.al}{y:dN.al}{cs:List Value}(hc:fF t dN x=some y)(h:cp P t F w cs x):cp P dN F w cs y:=by
 obtain⟨e,rfl⟩:=mN hc;grind
def kR(H:Nat->b7)(kap:Nat->bI)(F':Nat->Prop)(l:List Nat):Prop:=∀ b∈l,(H b).body.cd (kap b)=true->F' (kap b).aa
variable {l:List Nat}
theorem kR.left{m:List Nat}(h:kR H kap F' (l++m)):kR H kap F' l:=λb U=>h b (aQS _ U)
theorem kR.right{m:List Nat}(h:kR H kap F' (l++m)):kR H kap F' m:=λb U=>h b (aP7 _ U)
theorem Yf{oH ry:V}{es:List (oH.al×ry.al)}(aX:mu P H kap F w k (.mp oH ry es))(bm:∀ r,F r->F' r)(an:F' k.aa):cp P (.map oH ry) F' w [.map (some k.aa)] es:=by
 obtain⟨ms,clk,E,L⟩:=aX;obtain⟨L,ak,aZ,bP⟩:=L.mono bm (di.refl F w);exact .inr ⟨_,ms,clk,rfl,an,E,L,ak,aZ,bP⟩
theorem JX{xs:List e.al}{a1 G:Nat}(h:cp P (.slice e) F' w [k.slice xs.length] xs)(E:a1<=G)(L:G<=xs.length)(ay:JS k e.size a1 G v) :
  cp P (.slice e) F' w [v] ((xs.take G).drop a1):=by
 have hlen:((xs.take G).drop a1).length=G - a1:=by grind
 obtain⟨a,cap,aB,bE,c2,c3,c4⟩:=h;rcases ay with⟨aA,rfl⟩ | ⟨aA,o,rfl,jQ,gV⟩
 ·have:xs=[]:=by
   simp  [bI.slice,aQ7]at aB;grind
  subst this;have bL:(([]:List e.al).take G).drop a1=[]:=by simp
  rw[bL];exact⟨none,0,rfl,amo _,by decide,λ_=>rfl,λp aj=>by simp⟩
 ·simp  [bI.slice,aA,aQ7]at aB;obtain⟨rfl,_,rfl⟩:=aB;refine⟨some ⟨k.aa,o,none⟩,k.cap - a1,by grind,by omega,by omega,(by simp),λp aj CJ=>?_⟩;cases aj;obtain⟨d1,d2,d3⟩:=c4 _ rfl (by omega);refine⟨d1,rfl,λi dR=>?_⟩;obtain⟨bB,m1,m2⟩:=d3 (a1+i) (by omega);grind
theorem PB(aX:∀ b,c7 P H kap F w b)(bm:∀ r,F r->F' r)(aG:t.fY=true){av:aL}{x:t.al}(h:(eK t av).run H=some (x,l))
  (ah:kR H kap F' l) (ae:bJ P H kap F w av v):fo P t F' w v x:=by
 cases av with
 | undef=>cases h
 | ku b a=>cases h
 | eY b g off=>cases h
 | qJ b g i off=>cases h
 | kQ b g i=>cases h
 | ji k n c=>
  cases t<;>simp  [eK,aE.none,reduceCtorEq]at h;split at h
  ·rename_i aA;subst aA;cases h;obtain⟨aH,rfl,ah,_⟩:=ae;obtain rfl:=aPU ah;exact (eb rfl).2 ⟨rfl,rfl⟩
  simp_all
 | u7 k n c=>cases h
 | sz n f=>cases h
 | agg n f=>cases h
 | l2 b g=>cases h
 | aR l aI ab n ad=>cases h
 | il l=>cases h
 | u9 aY xs=>
  cases t<;>simp only[eK,aE.none,aE.dy,reduceCtorEq,aP3,aPD]at h;obtain⟨z,bA,rfl,rfl⟩:=h;exact (CH bA ae.1).mono bm (di.refl F w)
 | yf e id i=>cases h
 | z' b g=>cases h
 | hP b g=>cases h
 | sub b g a1 G=>
  cases t<;>simp only[eK,aE.none,aE.dy,aE.gU,reduceCtorEq]at h;split at h
  ·rename_i aD;obtain⟨rA,jR⟩:=ae;have lz:=aX b;unfold c7 at lz;cases ch:(H b).body with
   | bl aY xs=>
    rw[ch]at h lz jR;simp  at h;obtain⟨z,bA,rfl,rfl⟩:=h;obtain⟨⟨aM,aS⟩,b4⟩:=jR aD.symm rfl;exact (eb rfl).2 ⟨JO rA.2,wT bA (JX (PA lz bm λaA=>ah b (by simp) (by rw[ch];simp[b8.cd,aA])) aM aS b4)⟩
   | jz aY xs=>
    rw[ch]at h lz jR;simp  at h;obtain⟨z,bA,rfl,rfl⟩:=h;obtain⟨⟨aM,aS⟩,b4⟩:=jR aD.symm rfl;exact (eb rfl).2 ⟨JO rA.2,wT bA (JX (fK (.slice aY) bm (di.refl F w) lz) aM aS b4)⟩
   | _=>rw[ch]at h;cases h
  grind
 | hk b g=>
  cases t<;>simp only[eK,aE.none,aE.dy,aE.gU,reduceCtorEq]at h;split at h
  ·rename_i aD;obtain⟨rA,jR⟩:=ae;have lz:=aX b;unfold c7 at lz;cases ch:(H b).body with
   | mp k' iu es=>
    rw[ch]at h lz jR;simp  at h;obtain⟨z,bA,rfl,rfl⟩:=h;have:=jR aD.symm rfl;subst this;exact (eb rfl).2 ⟨rfl,wT bA (Yf lz bm (ah b (by simp) (by rw[ch];rfl)))⟩
   | k5 k' iu es=>
    rw[ch]at h lz jR;simp  at h;obtain⟨z,bA,rfl,rfl⟩:=h;have:=jR aD.symm rfl;subst this;exact (eb rfl).2 ⟨rfl,wT bA (fK (.map k' iu) bm (di.refl F w) lz)⟩
   | _=>rw[ch]at h;cases h
  grind
 | val dN y=>
  simp  [eK,aPD]at h;obtain⟨z,bA,rfl,rfl⟩:=h;exact (CH bA ae).mono bm (di.refl F w)
 | dW=>
  cases t<;>simp  [eK,aE.none,aPD]at h
  ·obtain⟨rfl,rfl⟩:=h;subst ae;exact (eb rfl).2 ⟨rfl,none,0,rfl,amo _,by decide,λ_=>rfl,λp aj=>by simp⟩
  ·obtain⟨rfl,rfl⟩:=h;subst ae;exact (eb rfl).2 ⟨rfl,.inl ⟨rfl,rfl⟩⟩
 | own b g=>
  cases t<;>simp only[eK,aE.none,aE.dy,aE.gU,reduceCtorEq]at h;split at h
  ·rename_i aD;obtain⟨rA,jR⟩:=ae;have lz:=aX b;unfold c7 at lz;cases ch:(H b).body with
   | bl aY xs=>
    rw[ch]at h lz jR;simp  at h;obtain⟨z,bA,rfl,rfl⟩:=h;have:=jR aD.symm rfl;subst this;refine (eb rfl).2 ⟨by unfold bI.slice;split<;>rfl,wT bA (PA lz bm λaA=>ah b (by simp) (by rw[ch];simp[b8.cd,aA]))⟩
   | jz aY xs=>
    rw[ch]at h lz jR;simp  at h;obtain⟨z,bA,rfl,rfl⟩:=h;have:=jR aD.symm rfl;subst this;exact (eb rfl).2 ⟨by unfold bI.slice;split<;>rfl,wT bA (fK _ bm (di.refl F w) lz)⟩
   | _=>rw[ch]at h;cases h
  grind
 | eL dN y=>
  cases t<;>simp  [eK,aE.none,aPD]at h;obtain⟨z,bA,rfl,rfl⟩:=h;obtain⟨p,bB,rfl,L,ak⟩:=ae;refine (eb rfl).2 ⟨rfl,wT bA ?_⟩;exact .inr ⟨p,y,bB,rfl,rfl,L.mono bm (di.refl F w),fK dN bm (di.refl F w) ak⟩
 | k4 u=>
  subst ae;simp  [eK,aPD]at h;obtain⟨z,bA,rfl,rfl⟩:=h;unfold FK at bA;split at bA
  ·cases bA;exact (eb rfl).2 ⟨rfl,.inl ⟨rfl,rfl⟩⟩
  ·cases bA;exact (eb rfl).2 ⟨rfl,.inl ⟨rfl,rfl⟩⟩
  ·cases bA;exact (eb rfl).2 ⟨rfl,rfl⟩
  grind
theorem FL{n:Nat}{f:Nat->aL}{aH:List Value}(ah:aH.length=n)(h:∀ i,i<n->bJ P H kap F w (f i) (aH.getD i Go.undef)/\(aH.getD i Go.undef).oneCell'=true) :
  fy P H kap F w ((List.range n).map f) aH:=by
 refine fy.Ye (by grind) λi G=>?_;have dR:i<n:=by grind
 have:hX ((List.range n).map f) i=f i:=by simp[hX,dR]
 grind
theorem Yg(aX:∀ b,c7 P H kap F w b)(bm:∀ r,F r->F' r){cq:List aL->aE (Option (e.al×List Nat×List aL))}
  (fq:∀ {cs:List aL} {aH:List Value} {x:e.al} {l:List Nat} {r:List aL},(cq cs).run H=some (x,l,r)->kR H kap F' l->fy P H kap F w cs aH->∃ c d,aH=c++d/\cp P e F' w c x/\fy P H kap F w r d)
  {av:aL} {v:Value} {x:Option e.al} {l:List Nat} (h:(wS e cq av).run H=some (x,l)) (ah:kR H kap F' l) (ae:bJ P H kap F w av v):fo P (.bM e) F' w v x:=by
 have b6:(eK (.bM e) av).run H=some (x,l)->fo P (.bM e) F' w v x:=λh=>PB aX bm rfl h ah ae;cases av with
 | eY b g off=>
  simp only[wS,aE.gU]at h;split at h
  ·rename_i aD;obtain⟨aD,rfl⟩:=aD;obtain⟨rA,jR⟩:=ae;have lz:=aX b;unfold c7 at lz;cases ch:(H b).body with
   | im t y=>
    rw[ch]at h lz jR;simp  at h;obtain⟨z,bA,rfl,rfl⟩:=h;obtain⟨eq,rfl⟩:=mN bA;subst eq;obtain rfl:=jR aD.symm rfl;obtain⟨bB,E,L⟩:=lz;exact (eb rfl).2 ⟨rfl,.inr ⟨_,_,bB,rfl,rfl,E.mono bm (di.refl F w),fK t bm (di.refl F w) L⟩⟩
   | cells t f=>
    rw[ch]at h lz jR;simp only at h;split at h
    ·rename_i aG;subst aG;simp only[aE.fZ,amj,aE.dy]at h;obtain⟨⟨y,m,q⟩,E,L⟩:=h;split at L
     ·rename_i bq;obtain⟨rfl,rfl⟩:=L;obtain rfl:=jR aD.symm rfl;obtain⟨cs,T,aM,aS,b4⟩:=lz;have ka:fy P H kap F w ((List.range t.size).map f) cs.toList:=FL (by have:=aS.1;omega) λi G=>by
       simp_all
      obtain⟨c,d,amO,bE,c2⟩:=fq E (λbf eg=>ah bf (amr _ eg)) ka;have bq:=List.isEmpty_iff.1 bq;subst bq;cases d with
      | cons _ _=>exact c2.elim
      | nil=>
       refine (eb rfl).2 ⟨rfl,.inr ⟨_,y,c,rfl,rfl,⟨ah b (by simp) (by rw[ch];rfl),rfl,λj aJ=>?_⟩,bE⟩⟩;have gD:j<cs.size:=by grind
       simp  [World.cell?,aQy gD];grind
     grind
    ·cases h
   | _=>rw[ch]at h;cases h
  ·cases h
 | _=>exact b6 h
theorem PC(aX:∀ b,c7 P H kap F w b)(bm:∀ r,F r->F' r):∀ (t:V) {cs:List aL} {aH:List Value} {x:t.al} {l:List Nat} {r:List aL},(k_ t cs).run H=some (x,l,r)->
  kR H kap F' l->fy P H kap F w cs aH->∃ c d,aH=c++d/\cp P t F' w c x/\fy P H kap F w r d:=by
 have rB:∀ (t:V) (g:aL->aE (Option (t.al×List Nat))),t.fY=true->(∀ {av:aL} {v:Value} {x:t.al} {l:List Nat},(g av).run H=some (x,l)->kR H kap F' l->bJ P H kap F w av v->fo P t F' w v x)->
   ∀ {cs:List aL} {aH:List Value} {x:t.al} {l:List Nat} {r:List aL},(match cs with | c::r=>(g c).map λo=>o.map λ(x,l)=>(x,l,r) | []=>.none:aE (Option (t.al×List Nat×List aL))).run H=some (x,l,r)->
   kR H kap F' l->fy P H kap F w cs aH->∃ c d,aH=c++d/\cp P t F' w c x/\fy P H kap F w r d:=by
  intro t g aG aD cs aH x l r h ah aW;cases cs with
  | nil=>cases h
  | cons c cs=>
   cases aH with
   | nil=>exact aW.elim
   | cons v aH=>
    simp only[aE.map,aE.run_bind,aE.dy,aP3]at h;obtain⟨⟨y,m⟩,bA,rfl,rfl,rfl⟩:=h;refine⟨[v],aH,rfl,?_,aW.2⟩;exact ((eb aG).1 (aD bA ah aW.1.1)).2
 have fg:∀ (t:V),t.fY=true->∀ {cs:List aL} {aH:List Value} {x:t.al} {l:List Nat} {r:List aL},(match cs with | c::r=>(eK t c).map λo=>o.map λ(x,l)=>(x,l,r) | []=>.none:aE (Option (t.al×List Nat×List aL))).run H=some (x,l,r)->
   kR H kap F' l->fy P H kap F w cs aH->∃ c d,aH=c++d/\cp P t F' w c x/\fy P H kap F w r d:=
  λt aG=>rB t (eK t) aG λh ah ae=>PB aX bm aG h ah ae
 intro t;induction t with
 | bool=>intro cs aH x l r h ah aW;exact fg _ rfl h ah aW
 | int k=>intro cs aH x l r h ah aW;exact fg (.int k) rfl h ah aW
 | str=>intro cs aH x l r h ah aW;exact fg _ rfl h ah aW
 | dh=>
  intro cs aH x l r h ah aW;obtain⟨_,rfl,rfl⟩:=h;exact⟨[],aH,rfl,rfl,aW⟩
 | ad t aO=>intro cs aH x l r h ah aW;exact aO h ah aW
 | au a b gI fS=>
  intro cs aH x l r h ah aW;simp only[k_,aE.fZ,amj,aPD]at h;obtain⟨⟨y,m,q⟩,E,⟨z,dp,q'⟩,L,rfl,rfl,rfl⟩:=h;obtain⟨c,d,rfl,bE,c2⟩:=gI E ah.left aW;obtain⟨gl,Ad,rfl,d1,d2⟩:=fS L ah.right c2;exact⟨c++gl,Ad,by simp,⟨c,gl,rfl,bE,d1⟩,d2⟩
 | slice e aO=>intro cs aH x l r h ah aW;exact fg (.slice e) rfl h ah aW
 | array n e aO=>
  intro cs aH xs l r h ah aW;have key:∀ (n:Nat) {cs:List aL} {aH:List Value} {xs:List e.al} {l:List Nat} {r:List aL},(n.rec (motive:=λ_=>List aL->aE (Option (List e.al×List Nat×List aL))) (λcs=>.ret (some ([],[],cs)))
     (λ_ aO cs=>(k_ e cs).eG λ(x,l,r)=>(aO r).eG λ(xs,m,q)=>.ret (some (x::xs,l++m,q))) cs).run H=some (xs,l,r)->
    kR H kap F' l->fy P H kap F w cs aH->
    ∃ gR d,aH=List.flatten gR++d/\gR.length=n/\xs.length=n/\(∀ i (h:i<xs.length) (eX:i<gR.length),cp P e F' w gR[i] xs[i])/\fy P H kap F w r d:=by
   intro n;induction n with
   | zero=>
    intro cs aH xs l r h ah aW;cases h;exact⟨[],aH,rfl,rfl,rfl,λi G=>(by simp),aW⟩
   | succ n FM=>
    intro cs aH xs l r h ah aW;simp only[aE.fZ,amj,aPD]at h;obtain⟨⟨y,m,q⟩,E,⟨z,dp,q'⟩,L,rfl,rfl,rfl⟩:=h;obtain⟨c,d,rfl,bE,c2⟩:=aO E ah.left aW;obtain⟨gR,Ad,rfl,d1,d2,d3,d4⟩:=FM L ah.right c2;refine⟨c::gR,Ad,by simp,by grind,by grind,λi G dR=>?_,d4⟩;grind
  obtain⟨gR,d,aB,bt,cT,bW,ek⟩:=key n h ah aW;exact⟨gR.flatten,d,aB,⟨gR,rfl,bt,cT,bW⟩,ek⟩
 | bM e aO=>intro cs aH x l r h ah aW;exact rB (.bM e) (wS e (k_ e)) rfl (λh ah ae=>Yg aX bm aO h ah ae) h ah aW
 | map k v zY zZ=>intro cs aH x l r h ah aW;exact fg (.map k v) rfl h ah aW
 | fn a b gI fS=>intro cs aH x l r h ah aW;exact fg (.fn a b) rfl h ah aW
 | cE a aO=>intro cs aH x l r h ah aW;exact fg (.cE a) rfl h ah aW
 | eW=>intro cs aH x l r h ah aW;exact fg .eW rfl h ah aW
 | cN e aO=>intro cs aH x l r h ah aW;exact fg (.cN e) rfl h ah aW
theorem oK(aX:∀ b,c7 P H kap F w b)(bm:∀ r,F r->F' r){av:aL}{x:t.al}(h:(eh t av).run H=some (x,l))
  (ah:kR H kap F' l) (ae:bJ P H kap F w av v):fo P t F' w v x:=by
 have b6:(l4 t av).run H=some (x,l)->fo P t F' w v x:=by
  intro h;unfold l4 at h;split at h
  ·exact Yg aX bm (λh ah aW=>PC aX bm _ h ah aW) h ah ae
  ·split at h
   ·rename_i aG;exact PB aX bm aG h ah ae
   ·cases h
 cases av with
 | val dN y=>
  simp  [eh,aPD]at h;obtain⟨z,bA,rfl,rfl⟩:=h;exact (CH bA ae).mono bm (di.refl F w)
 | agg n f=>
  simp  [eh]at h;split at h
  ·cases h
  ·simp only[aE.fZ,amj,aE.dy]at h;obtain⟨⟨y,m,q⟩,E,L⟩:=h;split at L
   ·rename_i hc;simp  at hc;obtain⟨rfl,rfl⟩:=L;obtain⟨aH,rfl,aZ,bP⟩:=ae;obtain⟨c,d,rfl,bE,c2⟩:=PC aX bm t E ah (FL aZ bP);rw[hc.1]at c2;cases d with
    | cons _ _=>exact c2.elim
    | nil=>
     rw[aPN]at *
     have hlen:=jP t bE;have ay:=hc.2;cases t<;>simp  [V.isAgg]at ay
     ·exact⟨⟨c.toArray,rfl,by simpa [V.size]using hlen⟩,by simpa [Value.cells]using bE⟩
     ·exact⟨⟨c.toArray,rfl,by simpa [V.size]using hlen⟩,by simpa [Value.cells]using bE⟩
   grind
 | undef=>exact b6 h
 | ku b a=>exact b6 h
 | eY b g off=>exact b6 h
 | own b g=>exact b6 h
 | qJ b g i off=>exact b6 h
 | kQ b g i=>exact b6 h
 | eL dN y=>exact b6 h
 | hk b g=>exact b6 h
 | ji k n c=>exact b6 h
 | u7 k n c=>exact b6 h
 | sz n f=>exact b6 h
 | dW=>exact b6 h
 | k4 u=>exact b6 h
 | l2 b g=>exact b6 h
 | aR l aI ab n ad=>exact b6 h
 | il l=>exact b6 h
 | u9 e xs=>exact b6 h
 | yf e id i=>exact b6 h
 | z' b g=>exact b6 h
 | hP b g=>exact b6 h
 | sub b g a1 G=>exact b6 h
end
def V.pure:V->Bool
 | .bool | .int _ | .str | .dh | .cN _=>true
 | .ad t=>t.pure
 | .au a b=>a.pure&&b.pure
 | .array _ e=>e.pure
 | _=>false
theorem PD{P:Program}{F F':Nat->Prop}{w w':World}:∀ (t:V) {cs:List Value} {x:t.al},t.pure=true->cp P t F w cs x->cp P t F' w' cs x:=by
 intro t;induction t with
 | bool=>intro cs x _ h;exact h
 | int k=>intro cs x _ h;exact h
 | str=>intro cs x _ h;exact h
 | dh=>intro cs x _ h;exact h
 | ad t aO=>intro cs x aG h;exact aO aG h
 | au a b gI fS=>
  intro cs x aG h;simp  [V.pure]at aG;obtain⟨c,d,rfl,aW,U⟩:=h;exact⟨c,d,rfl,gI aG.1 aW,fS aG.2 U⟩
 | slice e aO=>intro cs x aG;cases aG
 | array n e aO=>
  intro cs x aG h;obtain⟨gR,rfl,E,L,ak⟩:=h;exact⟨gR,rfl,E,L,λi G dR=>aO aG (ak i G dR)⟩
 | bM e aO=>intro cs x aG;cases aG
 | map k v zY zZ=>intro cs x aG;cases aG
 | fn a b gI fS=>intro cs x aG;cases aG
 | cE a aO=>intro cs x aG;cases aG
 | eW=>intro cs x aG;cases aG
 | cN e aO=>intro cs x _ h;exact h
end Go.Fer
namespace Go.Fer
open Go.RowKit
section
variable {P:Program} {F:Nat->Prop} {w:World}
variable {t:V}
theorem amP{x y:t.al}(h:fF t t x=some y):y=x:=by
 obtain⟨e,rfl⟩:=mN h;rfl
theorem Yh:∀ (t:V) {f:Nat} {cs:List Value} {x:t.al} {s:V} {y:s.al},cp P t F w cs x->yk t x f=some ⟨s,y⟩->
  ∃ bE c2 c3,cs=bE++(c2++c3)/\cp P s F w c2 y/\p5 t f=some (s,bE.length):=by
 have fg:∀ (t:V),(∀ a b,t≠.au a b)->t≠.dh->∀ {f:Nat} {cs:List Value} {x:t.al} {s:V} {y:s.al},cp P t F w cs x->yk t x f=some ⟨s,y⟩->
   ∃ bE c2 c3,cs=bE++(c2++c3)/\cp P s F w c2 y/\p5 t f=some (s,bE.length):=by
  intro t E L f cs x s y h ax;cases f with
  | zero=>
   have e:yk t x 0=some ⟨t,x⟩:=by cases t<;>first | rfl | grind | grind
   have aY:p5 t 0=some (t,0):=by cases t<;>first | rfl | grind | grind
   rw[e]at ax;cases ax;exact⟨[],cs,[],by simp,h,aY⟩
  | succ f=>
   have e:yk t x (f+1)=none:=by cases t<;>first | rfl | grind
   grind
 intro t;induction t with
 | au a b gI fS=>
  intro f cs x s y h ax;obtain⟨c,d,rfl,aW,U⟩:=h;cases f with
  | zero=>
   simp  [yk,Sigma.mk.injEq]at ax;obtain⟨rfl,ax⟩:=ax;cases ax;exact⟨[],c,d,by simp,aW,rfl⟩
  | succ f=>
   obtain⟨bE,c2,c3,rfl,aM,aS⟩:=fS U ax;refine⟨c++bE,c2,c3,by simp,aM,?_⟩;simp[p5,aS,jP a aW]
 | dh=>intro f cs x s y _ ax;cases f<;>cases ax
 | bool=>grind
 | int k=>grind
 | str=>grind
 | ad t _=>grind
 | slice e _=>grind
 | array n e _=>grind
 | bM e _=>grind
 | map k v _ _=>grind
 | fn a b _ _=>grind
 | cE a _=>grind
 | eW=>grind
 | cN e _=>exact fg (.cN e) (by simp) (by simp)
theorem Yi:∀ (t:V) {off:Nat} {cs:List Value} {x:t.al} {s:V} {y:s.al},cp P t F w cs x->vb t x off s=some y->
  ∃ bE c2 c3,cs=bE++(c2++c3)/\bE.length=off/\cp P s F w c2 y:=by
 have fg:∀ (t:V) {off:Nat} {cs:List Value} {x:t.al} {s:V} {y:s.al},cp P t F w cs x->(if off=0 then fF t s x else none)=some y->
   ∃ bE c2 c3,cs=bE++(c2++c3)/\bE.length=off/\cp P s F w c2 y:=by
  intro t off cs x s y h ax;split at ax
  ·rename_i ar;exact⟨[],cs,[],by simp,ar.symm,wT ax h⟩
  grind
 intro t;induction t with
 | au a b gI fS=>
  intro off cs x s y h ax;obtain⟨c,d,rfl,aW,U⟩:=h;simp  [vb]at ax;split at ax
  ·grind
  ·have:=jP a aW;grind
 | ad t aO=>
  intro off cs x s y h ax;simp  [vb]at ax;split at ax
  ·rename_i ar;exact⟨[],cs,[],by simp,ar.1.symm,wT ax h⟩
  ·simp  [cp]at h;grind
 | dh=>intro off cs x s y _ ax;cases ax
 | array n e _=>intro off cs x s y _ ax;cases ax
 | bool=>intro off cs x s y h ax;exact fg _ h ax
 | int k=>intro off cs x s y h ax;exact fg (.int k) h ax
 | str=>intro off cs x s y h ax;exact fg _ h ax
 | slice e _=>intro off cs x s y h ax;exact fg (.slice e) h ax
 | bM e _=>intro off cs x s y h ax;exact fg (.bM e) h ax
 | map k v _ _=>intro off cs x s y h ax;exact fg (.map k v) h ax
 | fn a b _ _=>intro off cs x s y h ax;exact fg (.fn a b) h ax
 | cE a _=>intro off cs x s y h ax;exact fg (.cE a) h ax
 | eW=>intro off cs x s y h ax;exact fg .eW h ax
 | cN e _=>intro off cs x s y h ax;exact fg (.cN e) h ax
theorem amQ:∀ (t:V) {off:Nat} {cs bB:List Value} {x eP:t.al} {s:V} {y:s.al},cp P t F w cs x->Ac t x off s y=some eP->cp P s F w bB y->
  ∃ bE c2 c3,cs=bE++(c2++c3)/\bE.length=off/\c2.length=s.size/\cp P t F w (bE++(bB++c3)) eP:=by
 have fg:∀ (t:V) {off:Nat} {cs bB:List Value} {x eP:t.al} {s:V} {y:s.al},cp P t F w cs x->(if off=0 then fF s t y else none)=some eP->cp P s F w bB y->
   ∃ bE c2 c3,cs=bE++(c2++c3)/\bE.length=off/\c2.length=s.size/\cp P t F w (bE++(bB++c3)) eP:=by
  intro t off cs bB x eP s y h ax aw;split at ax
  ·rename_i ar;obtain⟨e,rfl⟩:=mN ax;subst e;exact⟨[],cs,[],by simp,ar.symm,jP s h,by grind⟩
  grind
 intro t;induction t with
 | au a b gI fS=>
  intro off cs bB x eP s y h ax aw;obtain⟨c,d,rfl,aW,U⟩:=h;simp  [Ac]at ax;split at ax
  ·simp  at ax;obtain⟨z,bA,rfl⟩:=ax;obtain⟨bE,c2,c3,rfl,aM,aS,b4⟩:=gI aW bA aw;exact⟨bE,c2,c3++d,by simp,aM,aS,⟨_,d,by simp,b4,U⟩⟩
  ·simp  at ax;obtain⟨z,bA,rfl⟩:=ax;obtain⟨bE,c2,c3,rfl,aM,aS,b4⟩:=fS U bA aw;have:=jP a aW;exact⟨c++bE,c2,c3,by simp,by grind,aS,⟨c,_,by simp,aW,b4⟩⟩
 | ad t aO=>
  intro off cs bB x eP s y h ax aw;simp  [Ac]at ax;split at ax
  ·rename_i ar;obtain⟨ar,e⟩:=ar;subst e;have:=amP ax;exact⟨[],cs,[],by simp,ar.symm,jP _ h,by grind⟩
  ·simp  [cp]at h ⊢;grind
 | dh=>intro off cs bB x eP s y _ ax;cases ax
 | array n e _=>intro off cs bB x eP s y _ ax;cases ax
 | bool=>intro off cs bB x eP s y h ax aw;exact fg _ h ax aw
 | int k=>intro off cs bB x eP s y h ax aw;exact fg (.int k) h ax aw
 | str=>intro off cs bB x eP s y h ax aw;exact fg _ h ax aw
 | slice e _=>intro off cs bB x eP s y h ax aw;exact fg (.slice e) h ax aw
 | bM e _=>intro off cs bB x eP s y h ax aw;exact fg (.bM e) h ax aw
 | map k v _ _=>intro off cs bB x eP s y h ax aw;exact fg (.map k v) h ax aw
 | fn a b _ _=>intro off cs bB x eP s y h ax aw;exact fg (.fn a b) h ax aw
 | cE a _=>intro off cs bB x eP s y h ax aw;exact fg (.cE a) h ax aw
 | eW=>intro off cs bB x eP s y h ax aw;exact fg .eW h ax aw
 | cN e _=>intro off cs bB x eP s y h ax aw;exact fg (.cN e) h ax aw
end
def l5:V->List Value->Option (List Value)
 | .dh,cs=>some cs
 | .ad t,cs=>l5 t cs
 | .au a b,cs=>(l5 a cs).bind (l5 b)
 | .array n e,cs=>n.rec (motive:=λ_=>List Value->Option (List Value)) some (λ_ aO cs=>(l5 e cs).bind aO) cs
 | .bool,cs=>match cs with | .bool false::r=>some r | _=>none
 | .int k,cs=>match cs with | .int k' n::r=>if k'=k/\n=0 then some r else none | _=>none
 | .str,cs=>match cs with | .string s::r=>if s.size=0 then some r else none | _=>none
 | .slice _,cs=>match cs with | .slice none 0 0::r=>some r | _=>none
 | .bM _,cs=>match cs with | .pointer none::r=>some r | _=>none
 | .map _ _,cs=>match cs with | .map none::r=>some r | _=>none
 | .fn _ _,cs=>match cs with | .nilFunc::r=>some r | _=>none
 | .cE _,cs=>match cs with | .nilFunc::r=>some r | _=>none
 | .eW,cs=>match cs with | .nilFunc::r=>some r | _=>none
 | .cN _,cs=>match cs with | .slice none 0 0::r=>some r | _=>none
theorem Yj(k:IntKind):gQ k 0:=by cases k<;>decide
variable {P:Program}
theorem yl{H:Nat->b7}{kap:Nat->bI}{F:Nat->Prop}{w:World}:∀ (t:V) {cs r:List Value},l5 t cs=some r->
  ∃ c,cs=c++r/\cp P t F w c t.dU/\fy P H kap F w (va t) c:=by
 intro t;induction t with
 | dh=>intro cs r h;cases h;exact⟨[],by simp,rfl,trivial⟩
 | ad t aO=>intro cs r h;exact aO h
 | au a b gI fS=>
  intro cs r h;simp  [l5,amj]at h;obtain⟨q,E,L⟩:=h;obtain⟨c,rfl,bE,c2⟩:=gI E;obtain⟨d,rfl,d1,d2⟩:=fS L;exact⟨c++d,by simp,⟨c,d,rfl,bE,d1⟩,c2.append d2⟩
 | array n e aO=>
  intro cs r h;have key:∀ (n k:Nat) {cs r:List Value},n.rec   some (λ_ aO cs=>(l5 e cs).bind aO) cs=some r->
    ∃ gR:List (List Value),cs=gR.flatten++r/\gR.length=n/\(∀ c∈gR,cp P e F w c e.dU)/\fy P H kap F w ((List.range' k n).flatMap λ_=>va e) gR.flatten:=by
   intro n;induction n with
   | zero=>intro k cs r h;cases h;exact⟨[],by simp,rfl,by simp,trivial⟩
   | succ n FM=>
    intro k cs r h;simp  [amj]at h;obtain⟨q,E,L⟩:=h;obtain⟨c,rfl,bE,c2⟩:=aO E;obtain⟨gR,rfl,d1,d2,d3⟩:=FM (k+1) L;refine⟨c::gR,by simp,by grind,?_,?_⟩
    ·grind
    ·exact c2.append d3
  obtain⟨gR,rfl,E,L,ak⟩:=key n 0 h;refine⟨gR.flatten,rfl,⟨gR,rfl,E,by simp[V.dU],λi G dR=>?_⟩,?_⟩
  ·have:(V.array n e).dU[i]=e.dU:=by simp[V.dU]
   grind
  ·simp  [va,aQB];omega
 | bool=>
  intro cs r h;simp  [l5]at h;split at h
  ·cases h;exact⟨[.bool false],rfl,rfl,⟨gC.2 rfl,rfl⟩,trivial⟩
  grind
 | int k=>
  intro cs r h;simp  [l5]at h;split at h
  ·split at h
   ·rename_i an;obtain⟨rfl,rfl⟩:=an;cases h;exact⟨[.int _ 0],rfl,⟨rfl,Yj _⟩,⟨hO.2 ⟨rfl,Yj _⟩,rfl⟩,trivial⟩
   grind
  grind
 | str=>
  intro cs r h;simp only[l5]at h;split at h
  ·rename_i s jO;split at h
   ·rename_i ay;cases h;have:s=⟨([]).toArray⟩:=by
     cases s with | mk d=>simp  [ByteArray.size]at ay;grind
    subst this;exact⟨[.string ⟨([]).toArray⟩],rfl,⟨rfl,by decide⟩,⟨k3.2 ⟨rfl,by decide⟩,rfl⟩,trivial⟩
   grind
  grind
 | slice e _=>
  intro cs r h;simp  [l5]at h;split at h
  ·cases h;exact⟨[.slice none 0 0],rfl,⟨none,0,rfl,amo _,by decide,λ_=>rfl,λp aj=>by simp⟩,⟨rfl,rfl⟩,trivial⟩
  grind
 | bM e _=>
  intro cs r h;simp  [l5]at h;split at h
  ·cases h;exact⟨[.pointer none],rfl,.inl ⟨rfl,rfl⟩,⟨(eb rfl).2 ⟨rfl,.inl ⟨rfl,rfl⟩⟩,rfl⟩,trivial⟩
  grind
 | map k v _ _=>
  intro cs r h;simp  [l5]at h;split at h
  ·cases h;exact⟨[.map none],rfl,.inl ⟨rfl,rfl⟩,⟨(eb rfl).2 ⟨rfl,.inl ⟨rfl,rfl⟩⟩,rfl⟩,trivial⟩
  grind
 | fn a b _ _=>
  intro cs r h;simp  [l5]at h;split at h
  ·cases h;exact⟨[.nilFunc],rfl,⟨.nilFunc,rfl,⟨rfl,rfl⟩,λF' w' _ _ _ _ args x _ _ ay=>(ay).elim⟩,⟨rfl,rfl⟩,trivial⟩
  grind
 | cE a _=>
  intro cs r h;simp  [l5]at h;split at h
  ·cases h;exact⟨[.nilFunc],rfl,⟨.nilFunc,rfl,⟨rfl,rfl⟩,λF' w' _ _ _ _ ay=>(ay).elim λ_ h=>h.elim⟩,⟨rfl,rfl⟩,trivial⟩
  grind
 | eW=>
  intro cs r h;simp  [l5]at h;split at h
  ·cases h;exact⟨[.nilFunc],rfl,rfl,⟨(eb rfl).2 ⟨rfl,rfl⟩,rfl⟩,trivial⟩
  grind
 | cN e _=>
  intro cs r h;simp  [l5]at h;split at h
  ·cases h;exact⟨[.slice none 0 0],rfl,.inl ⟨rfl,rfl⟩,⟨rfl,rfl⟩,trivial⟩
  grind
def nZ(P:Program)(t:V)(id:TypeId):Bool:=
 match P.info? id with
 | some i=>i.size == t.size&&decide (i.bytes<=1024)&&(match i.zero with
  | some z=>(match l5 t z.cells.toList with | some []=>true | _=>false)&&(match t,z with
   | .ad _,.agg _=>true
   | .array _ _,.agg _=>true
   | .ad _,_=>false
   | .array _ _,_=>false
   | _,.agg _=>false
   | _,_=>true)
  | none=>false)
 | none=>false
def Yk(P:Program)(t:V)(id:TypeId):Bool:=
 match t with
 | .au (.bM (.array n .dh)) _=>(match P.underlying n with | some (.pointer i)=>i == id | _=>false)
 | _=>true
def de(P:Program):V->Sum TypeId (List Field×Nat)->Bool
 | .au a b, .inr (f :: g :: [], off) => f.offset == off && de P a (.inl f.type) && a.size != 0 && f.name != "_" && (g.offset == off + a.size && de P b (.inl g.type) && b.size != 0 && g.name != "_")
 | .au a b, .inr (f :: g :: h :: f_, off) => f.offset == off && de P a (.inl f.type) && a.size != 0 && f.name != "_" && de P b (.inr (g :: h :: f_, off + a.size))
 | .ad t,.inl id=>(nZ P (.ad t) id&&Yk P t id)&&!P.stoodInHeld id&&!P.eqGuardType P.depth id&&match P.underlying id with
  | some (.struct f_)=>(match f_.toList with
   | []=>decide (t=.dh)
   | [f] => f.offset == 0 && de P t (.inl f.type) && t.size != 0 && f.name != "_"
   | l=>de P t (.inr (l,0)))
  | _=>false
 | .bool,.inl id=>nZ P .bool id&&(match P.underlying id with | some .bool=>true | _=>false)
 | .int k,.inl id=>nZ P (.int k) id&&(match P.underlying id with | some (.int k')=>decide (k'=k) | _=>false)
 | .str,.inl id=>nZ P .str id&&(match P.underlying id with | some .string=>true | _=>false)
 | .slice e,.inl id=>nZ P (.slice e) id&&(match P.underlying id with | some (.slice i)=>de P e (.inl i)&&e.size != 0 | _=>false)
 | .array n e,.inl id=>nZ P (.array n e) id&&(match P.underlying id with | some (.array m i)=>decide (m=n)&&de P e (.inl i)&&e.size != 0 | _=>false)
 | .bM e,.inl id=>nZ P (.bM e) id&&(match P.underlying id with | some (.pointer i)=>(match e with | .array n .dh=>n == id | _=>false)||(de P e (.inl i)&&e.size != 0) | _=>false)
 | .map k v,.inl id=>nZ P (.map k v) id&&(match P.underlying id with | some (.map i j)=>de P k (.inl i)&&de P v (.inl j) | _=>false)
 | .fn a b,.inl id=>nZ P (.fn a b) id&&(match P.underlying id with | some (.func _ _ _)=>true | _=>false)
 | .cE a,.inl id=>nZ P (.cE a) id&&(match P.underlying id with | some (.func _ _ _)=>true | _=>false)
 | .eW,.inl id=>nZ P .eW id&&(match P.underlying id with | some (.func _ _ _)=>true | _=>false)
 | .cN e,.inl id=>nZ P (.cN e) id&&(match P.underlying id with | some (.slice i)=>de P e (.inl i)&&e.size != 0 | _=>false)
 | _,_=>false
def cv(P:Program)(t:V)(id:TypeId):Prop:=de P t (.inl id)=true
theorem cv.np{t:V}{id:TypeId}(h:cv P t id):nZ P t id=true:=by
 unfold cv at h;cases t<;>simp  [de,aml]at h<;>first | exact h.1.1.1.1 | exact h.1
theorem nq{t:V}{id:TypeId}(h:nZ P t id=true):∃ i z,P.info? id=some i/\i.size=t.size/\i.bytes<=1024/\i.zero=some z/\
  l5 t z.cells.toList=some []/\((∃ cs,z=.agg cs)<->t.isAgg=true):=by
 unfold nZ at h;split at h
 ·rename_i i G;simp  at h;obtain⟨⟨E,L⟩,ak⟩:=h;split at ak
  ·rename_i z bA;refine⟨i,z,G,E,L,bA,?_,?_⟩
   ·grind
   ·cases t<;>cases z<;>simp_all[V.isAgg]
  grind
 grind
end Go.Fer
namespace Go.Fer
open Go.RowKit
structure eA where
 cy:Prop
 c:Prop
 ho:aL
 jC:List (Nat×b7)
def use:aL->Prop×aL
 | .ku b a=>(b=true,a)
 | a=>(True,a)
def Ae:Value->aL
 | .bool b=>.val .bool b
 | .int k n=>if gQ k n then .val (.int k) n else .k4 (.int k n)
 | .string s=>if s.size<1048576 then .val .str s.data.toList else .k4 (.string s)
 | .slice none 0 0=>.dW
 | v=>.k4 v
def be(aP:dV)(s:Nat->aL):Operand->aL
 | .tmp t=>s t
 | .const v=>Ae v
 | .func f=>match aP.tK f with
  | some v=>.val (.fn v.ts v.aR) v.sh
  | none=>.ji f 0 λ_=>.undef
 | .global _=>.undef
structure aN where
 ts:V
 aR:V
 pre:ts.al->Prop
 g:ts.al->aR.al
def kc:(t:V)->t.al->Nat->aL
 | .au a _,x,0=>.val a x.1
 | .au _ b,x,i+1=>kc b x.2 i
 | t,x,0=>.val t x
 | _,_,_+1=>.undef
def jS:V->Nat
 | .au _ b=>jS b+1
 | .dh=>0
 | _=>1
def qM(t:V)(x:t.al):aL:=
 match t with
 | .au a b=>.sz (jS (.au a b)) (kc (.au a b) x)
 | .dh=>.k4 (.tuple #[])
 | t=>.val t x
def kd:(t:V)->List aL->aE (Option (t.al×List Nat))
 | .au a b,v::aH=>(eh a v).eG λ(x,l)=>(kd b aH).eG λ(y,m)=>.ret (some ((x,y),l++m))
 | .au _ _,[]=>.none
 | .dh,[]=>.ret (some ((),[]))
 | .dh,_::_=>.none
 | t,[v]=>eh t v
 | _,_=>.none
def ke:List Nat->aE (List (Nat×b7))
 | []=>.ret []
 | b::l=>.fp b λx=>(ke l).bind λr=>match x.body with
  | .bl e xs=>.ret ((b,⟨x.gen,.jz e xs⟩)::r)
  | .mp k v es=>.ret ((b,⟨x.gen,.k5 k v es⟩)::r)
  | .cells t f=>(k_ t ((List.range t.size).map f)).bind λo=>.ret (match o with
   | some (y,_,[])=>(b,⟨x.gen,.im t y⟩)::r
   | _=>r)
  | _=>.ret r
def cellsOf(t:V)(av:aL):Option (List aL):=
 match t,av with
 | .ad t,.val (.ad dN) x=>if dN=t then some (p4 dN x) else none
 | .ad t,.agg n f=>if n=t.size then some ((List.range n).map f) else none
 | .array n e,.val (.array kf aY) x=>if kf=n/\aY=e then some (p4 (.array kf aY) x) else none
 | .array n e,.agg m f=>if m=n*e.size then some ((List.range m).map f) else none
 | t,av=>if t.fY then (match av with
  | .val dN _=>if dN.fY then some [av] else none
  | .eY _ _ _ | .own _ _ | .qJ _ _ _ _ | .eL _ _ | .hk _ _ | .ji _ _ _ | .dW | .sub _ _ _ _=>some [av]
  | .k4 (.agg _) | .k4 (.tuple _)=>none
  | .k4 _=>some [av]
  | _=>none) else none
def aL.n0:aL->Option (IntKind×Int)
 | .val (.int k) x=>some (k,x)
 | _=>none
def aL.wU:aL->Option (List UInt8)
 | .val .str x=>some x
 | _=>none
def CK(op:BinOp)(k:IntKind)(a b:Int):Option (Prop×aL):=
 match op with
 | .add=>some (True,.val (.int k) (k.wrap (a+b)))
 | .sub=>some (True,.val (.int k) (k.wrap (a - b)))
 | .mul=>some (True,.val (.int k) (k.wrap (a*b)))
 | .quo=>some (b≠0,.val (.int k) (k.wrap (a.tdiv b)))
 | .rem=>some (b≠0,.val (.int k) (a.tmod b))
 | .and=>some (True,.val (.int k) (nY k a b))
 | .or=>some (True,.val (.int k) (Yb k a b))
 | .xor=>some (True,.val (.int k) (Yc k a b))
 | .andNot=>some (True,.val (.int k) (Yd k a b))
 | .eql=>some (True,.val .bool (decide (a=b)))
 | .neq=>some (True,.val .bool (decide (a≠b)))
 | .lss=>some (True,.val .bool (decide (a<b)))
 | .leq=>some (True,.val .bool (decide (a<=b)))
 | .gtr=>some (True,.val .bool (decide (a > b)))
 | .geq=>some (True,.val .bool (decide (a>=b)))
 | _=>none
def PE(op:BinOp)(k:IntKind)(a b:Int):Option (Prop×aL):=
 match op with
 | .shl=>some (0<=b,.val (.int k) (amM k a b))
 | .shr=>some (0<=b,.val (.int k) (la k a b))
 | _=>none
def FN(op:BinOp)(a b:List UInt8):Option (Prop×aL):=
 match op with
 | .add=>some (cb (a.length+b.length),.val .str (a++b))
 | .eql=>some (True,.val .bool (decide (a=b)))
 | .neq=>some (True,.val .bool (decide (a≠b)))
 | .lss=>some (True,.val .bool (Op.bytesLess a b))
 | .geq=>some (True,.val .bool (!Op.bytesLess a b))
 | _=>none
def V.nr:V->Nat
 | .ad t=>t.nr+1
 | .au a b=>max a.nr b.nr
 | _=>1
def FO(op:BinOp)(t:V)(x y:aL):aE (Option (Prop×aL)):=
 (match t,x,y with
 | .bM _,.val (.bM _) p,.k4 (.pointer none)=>.ret (some p.isNone)
 | .bM _,.eL _ _,.k4 (.pointer none)=>.ret (some false)
 | .bM _,.eY b g _,.k4 (.pointer none)=>.fp b λz=>.ret (if z.gen=g&&z.body.hl then some false else none)
 | t,x,y=>if t.oJ&&decide (t.nr<=100) then (eh t x).eG λ(a,_)=>(eh t y).eG λ(b,_)=>.ret (some (iJ t a b)) else .none:aE (Option Bool)).eG λe=>
 .ret (match op with
  | .eql=>some (True,.val .bool e)
  | .neq=>some (True,.val .bool (!e))
  | _=>none)
def da(cy c:Prop)(v:aL):aE (Option eA):=.ret (some ⟨cy,c,v,[]⟩)
def JY(t:V)(av:aL):aE (Option (Prop×Int)):=
 match t with
 | .slice _=>match av with
  | .val (.slice _) xs=>.ret (some (True,xs.length))
  | .dW=>.ret (some (True,0))
  | .own b g=>.fp b λx=>.ret (if x.gen=g&&x.body.gS then some (True,x.body.len) else none)
  | .sub b g a1 G=>.fp b λx=>.ret (if x.gen=g&&x.body.gS then some (True,((G - a1:Nat):Int)) else none)
  | _=>.none
 | .str=>match av with
  | .val .str xs=>.ret (some (True,xs.length))
  | _=>.none
 | .map _ _=>match av with
  | .val (.map _ _) xs=>.ret (some (cb xs.length,xs.length))
  | .hk b g=>.fp b λx=>.ret (if x.gen=g then (match x.body with | .mp _ _ es=>some (cb es.length,(es.length:Int)) | .k5 _ _ es=>some (cb es.length,(es.length:Int)) | _=>none) else none)
  | _=>.none
 | _=>.none
def CL(t:V):aL->aE (Option aL)
 | .eL dN x=>.ret (if dN=t/\(t.fY||t.isAgg)=true then some (.val dN x) else none)
 | .eY b g off=>.fp b λx=>.ret (if x.gen=g then (match x.body with
   | .cells t0 f=>if t.fY then (if off<t0.size then some (f off) else none) else if t.isAgg then (if off+t.size<=t0.size then some (.agg t.size λi=>f (off+i)) else none) else none
   | .im t0 y=>if t.fY||t.isAgg then (vb t0 y off t).map (.val t) else none
   | _=>none) else none)
 | .qJ b g i off=>.fp b λx=>.ret (if x.gen=g then (match x.body with
   | .bl e xs=>if t.fY||t.isAgg then (vb e (xs.getD i e.dU) off t).map (.val t) else none
   | .jz e xs=>if t.fY||t.isAgg then (vb e (xs.getD i e.dU) off t).map (.val t) else none
   | _=>none) else none)
 | _=>.none
def putCells(f:Nat->aL)(off:Nat)(l:List aL):Nat->aL:=λi=>if off<=i/\i<off+l.length then l.getD (i - off) .undef else f i
def Yl(t:V)(p v:aL):aE (Option (List (Nat×b7))):=
 match p with
 | .eY b g off=>.fp b λx=>.ret (if x.gen=g then (match x.body with
   | .cells t0 f=>(cellsOf t v).bind λl=>if off+l.length<=t0.size/\l.length=t.size then some [(b,⟨x.gen,.cells t0 (putCells f off l)⟩)] else none
   | _=>none) else none)
 | .qJ b g i off=>(eh t v).eG λ(y,l)=>(ke l).bind λwl=>.fp b λx=>.ret (if x.gen=g/\!l.contains b then (match x.body with
   | .bl e xs=>(Ac e (xs.getD i e.dU) off t y).map λz=>wl++[(b,⟨x.gen,.bl e (xs.set i z)⟩)]
   | _=>none) else none)
 | _=>.none
def Ym(bL:V)(x:aL)(i:Int):aE (Option (Prop×aL)):=
 match x with
 | .val (.slice e) xs=>.ret (if e=bL then some (0<=i/\i<(xs.length:Int),.eL e (mO e xs i)) else none)
 | .own b g=>.fp b λz=>.ret (if z.gen=g then (match z.body with
   | .bl e xs=>if e=bL then some (0<=i/\i<(xs.length:Int),.qJ b g i.toNat 0) else none
   | .jz e xs=>if e=bL then some (0<=i/\i<(xs.length:Int),.eL e (mO e xs i)) else none
   | _=>none) else none)
 | .sub b g a1 G=>.fp b λz=>.ret (if z.gen=g then (match z.body with
   | .bl e _=>if e=bL then some (0<=i/\i<((G - a1:Nat):Int),.qJ b g (a1+i.toNat) 0) else none
   | .jz e xs=>if e=bL then some (0<=i/\i<((G - a1:Nat):Int),.eL e (mO e xs ((a1:Int)+i))) else none
   | _=>none) else none)
 | .dW=>.ret (some (False,.eL bL bL.dU))
 | _=>.none
def dA:Option Int->Int | some l=>l | none=>0
def fU(n:Nat):Option Int->Int | some h=>h | none=>n
def FP(a1 G:Option Int)(n m:Nat):Nat:=match a1,G with | some _,some _=>m | _,_=>n
def Yn(bL:V)(x:aL)(a1 G:Option Int):aE (Option (Prop×aL)):=
 match x with
 | .val (.slice e) xs=>.ret (if e=bL then some (0<=dA a1/\dA a1<=fU xs.length G/\fU xs.length G<=(xs.length:Int),.val (.slice e) ((xs.take (fU xs.length G).toNat).drop (dA a1).toNat)) else none)
 | .dW=>.ret (some (0<=dA a1/\dA a1<=fU 0 G/\fU 0 G<=0,.dW))
 | .own b g=>.fp b λz=>.ret (if z.gen=g&&z.body.gS&&z.body.gJ == bL.size then some (0<=dA a1/\dA a1<=fU z.body.len G/\fU z.body.len G<=(z.body.len:Int),.sub b g (dA a1).toNat (fU z.body.len G).toNat) else none)
 | .sub b g fM aV=>.fp b λz=>.ret (if z.gen=g&&z.body.gS&&z.body.gJ == bL.size then some (0<=dA a1/\dA a1<=fU (aV - fM) G/\fU (aV - fM) G<=((FP a1 G (aV - fM) (z.body.len - fM):Nat):Int),.sub b g (fM+(dA a1).toNat) (fM+(fU (aV - fM) G).toNat)) else none)
 | _=>.none
def Yo(x:aL)(a1 G:Option Int):Option (Prop×aL):=
 match x with
 | .val .str xs=>some (0<=dA a1/\dA a1<=fU xs.length G/\fU xs.length G<=(xs.length:Int),.val .str ((xs.take (fU xs.length G).toNat).drop (dA a1).toNat))
 | _=>none
def n1(d:Option Nat)(k:Nat->Nat->Option eA):aE (Option eA):=
 match d with
 | none=>.none
 | some d=>.fp d λx=>.ret (k d (x.gen+1))
def FQ(d:Option Nat)(e:V)(x y:aL)(cy:Prop):aE (Option eA):=
 match x with
 | .own b g=>.fp b λz=>match (if z.gen=g then z.body else .ey) with
  | .bl aY xs=>if h:aY=e then (eh (.slice e) y).eG λ(br,_)=>.ret (some ⟨cy,cb (xs.length+br.length),.own b (g+1),[(b,⟨g+1,.bl e ((h ▸ xs)++br)⟩)]⟩) else .none
  | _=>.none
 | .sub b g a1 G=>.fp b λz=>match (if z.gen=g then z.body else .ey) with
  | .bl aY xs=>if h:aY=e then (eh (.slice e) y).eG λ(br,_)=>.ret (some ⟨cy,cb (((xs.take G).drop a1).length+br.length),.own b (g+2),[(b,⟨g+2,.bl e ((h ▸ (xs.take G).drop a1)++br)⟩)]⟩) else .none
  | _=>.none
 | .dW=>(eh (.slice e) y).eG λ(br,_)=>n1 d λb g=>some ⟨cy,cb br.length,.own b g,[(b,⟨g,.bl e br⟩)]⟩
 | .u9 aY xs=>if h:aY=e then (eh (.slice e) y).eG λ(br,_)=>n1 d λb g=>some ⟨cy,0<br.length/\cb (xs.length+br.length),.own b g,[(b,⟨g,.bl e ((h ▸ xs)++br)⟩)]⟩ else .none
 | _=>.none
def JZ(t:V):List aL->List (Nat×aL)->Option (List aL)
 | cs,[]=>some cs
 | cs,(i,av)::r=>
  match p5 t i with
  | none=>none
  | some (s,off)=>match cellsOf s av with
   | none=>none
   | some l=>if l.length=s.size/\off+s.size<=cs.length then JZ t (cs.take off++(l++cs.drop (off+s.size))) r else none
def wV(e:V)(bu:List (Nat×aL)):Nat->Nat->aE (Option (List e.al×List Nat))
 | _,0=>.ret (some ([],[]))
 | i,n+1=>(match bu.find? (λp=>p.1 == i) with
   | some p=>eh e p.2
   | none=>.ret (some (e.dU,[])):aE (Option (e.al×List Nat))).eG λ(x,l)=>(wV e bu (i+1) n).eG λ(xs,m)=>.ret (some (x::xs,l++m))
def ym(bu:List (Nat×aL)):Prop:=bu.foldr (λp q=>match p.2 with | .ku b _=>b=true/\q | _=>q) True
def lA(bu:List (Nat×aL)):List (Nat×aL):=bu.map λp=>(p.1,(use p.2).2)
def kg(bu:List aL):Prop:=bu.foldr (λp q=>match p with | .ku b _=>b=true/\q | _=>q) True
def lb(rho:Operand->aL):Option Operand->Option (Prop×Option Int)
 | none=>some (True,none)
 | some x=>match use (rho x) with
  | (o,.val (.int _) n)=>some (o,some n)
  | _=>none
def J0(T:Nat->V)(rho:Operand->aL)(ty:TypeId)(x:Operand)(a1 G:Option Operand):aE (Option eA):=
 let (cz,e9):=use (rho x)
 match lb rho a1,lb rho G with
 | some (ol,l),some (sA,h)=>match T ty with
  | .slice e=>(Yn e e9 l h).eG λ(c,v)=>da (cz/\(ol/\sA)) c v
  | .str=>match Yo e9 l h with
   | some (c,v)=>da (cz/\(ol/\sA)) c v
   | none=>.none
  | _=>.none
 | _,_=>.none
def Yp(bL:V)(x:aL)(a1 G:Option Int)(m:Int):aE (Option (Prop×aL)):=
 match x with
 | .val (.slice e) xs=>.ret (if e=bL then some (0<=dA a1/\dA a1<=fU xs.length G/\fU xs.length G=m/\m<=(xs.length:Int),.u9 e ((xs.take m.toNat).drop (dA a1).toNat)) else none)
 | .dW=>.ret (some (dA a1=0/\fU 0 G=0/\m=0,.u9 bL []))
 | .own b g=>.fp b λz=>.ret (if z.gen=g&&z.body.gS then some (0<=dA a1/\dA a1<=fU z.body.len G/\fU z.body.len G<=m/\m<=(z.body.len:Int),.undef) else none)
 | _=>.none
def J1(T:Nat->V)(rho:Operand->aL)(ty:TypeId)(x:Operand)(a1 G l6:Option Operand):aE (Option eA):=
 let (cz,e9):=use (rho x)
 match lb rho a1,lb rho G,lb rho l6 with
 | some (ol,l),some (sA,some h),some (Af,some m)=>match T ty with
  | .slice e=>(Yp e e9 l (some h) m).eG λ(c,v)=>da (cz/\(ol/\(sA/\Af))) c v
  | _=>.none
 | _,_,_=>.none
def FR(T:Nat->V)(rho:Operand->aL)(args:List Operand)(dq:List TypeId):aE (Option eA):=
 match args,dq with
 | [x],[t]=>let (cz,e9):=use (rho x);(JY (T t) e9).eG λ(c,n)=>da cz c (.val (.int .i64) n)
 | _,_=>.none
def c_(s:List UInt8):z1':=s.map λb=>(b.toNat:Int)
def FT(T:Nat->V)(rho:Operand->aL)(d:Option Nat)(args:List Operand)(dq:List TypeId):aE (Option eA):=
 match args,dq with
 | [x,y],[t,u]=>match T t,T u with
  | .slice e,.slice _=>let (cz,e9):=use (rho x);let (lB,kv):=use (rho y);FQ d e e9 kv (cz/\lB)
  | .slice (.int .u8),.str=>let (cz,e9):=use (rho x);let (lB,kv):=use (rho y);match kv with
   | .val .str s=>FQ d (.int .u8) e9 (.val (.slice (.int .u8)) (c_ s)) (cz/\lB)
   | _=>.none
  | _,_=>.none
 | _,_=>.none
def p6(rho:Operand->aL)(k:IntKind):List Operand->Option (Prop×z1')
 | []=>none
 | [x]=>match (use (rho x)).2.n0 with
  | some (k',n)=>if k'=k then some ((use (rho x)).1,[n]) else none
  | none=>none
 | x::l=>match (use (rho x)).2.n0,p6 rho k l with
  | some (k',n),some (cy,jD)=>if k'=k then some ((use (rho x)).1/\cy,n::jD) else none
  | _,_=>none
def Ag(rho:Operand->aL)(f:Int->Int->Int)(args:List Operand):aE (Option eA):=
 match args with
 | x::y::l=>match (use (rho x)).2.n0 with
  | some (k,a)=>match p6 rho k (y::l) with
   | some (cy,jD)=>da ((use (rho x)).1/\cy) True (.val (.int k) (jD.foldl f a))
   | none=>.none
  | none=>.none
 | _=>.none
def FU(T:Nat->V)(rho:Operand->aL)(args:List Operand)(dq:List TypeId):aE (Option eA):=
 match args,dq with
 | [x],[t]=>match T t,use (rho x) with
  | .slice _,(cz,.dW)=>da cz True (.val (.int .i64) 0)
  | _,_=>.none
 | _,_=>.none
def p7(t:V):Bool:=match t with | .au (.slice _) .dh=>true | _=>false
def FV(t:V)(y:t.al):Option ((e:V)×List e.al):=match t,y with | .au (.slice e) .dh,y=>some ⟨e,y.1⟩ | _,_=>none
def J2(bs:Nat->Option aN)(rho:Operand->aL)(d:Option Nat)(k:Nat)(args:List Operand):aE (Option eA):=
 let l:=args.map rho
 match bs k with
 | some c=>(kd c.ts (l.map λv=>(use v).2)).eG λ(x,b9)=>match FV c.aR (c.g x) with
  | some y=>(ke b9).bind λwl=>n1 d λb g=>if b9.contains b then none else some ⟨kg l,c.pre x,.own b g,wl++[(b,⟨g,.bl y.1 y.2⟩)]⟩
  | none=>(if c.aR.pure then .ret [] else ke b9:aE (List (Nat×b7))).bind λwl=>.ret (some ⟨kg l,c.pre x,qM c.aR (c.g x),wl⟩)
 | none=>.none
def CM{k v:V}(es:List (k.al×v.al))(x:k.al):Option v.al:=(es.find? λp=>iJ k x p.1).map (·.2)
def oL{k v:V}:List (k.al×v.al)->k.al->v.al->List (k.al×v.al)
 | [],x,y=>[(x,y)]
 | p::es,x,y=>if iJ k x p.1=true then (p.1,y)::es else p::oL es x y
def yn(k:V):Bool:=k.oJ&&decide (k.nr<=100)
def J3(k v:V)(m:aL):aE (Option (List (k.al×v.al))):=
 match m with
 | .val t es=>.ret (fF t (.map k v) es)
 | .k4 (.map none)=>.ret (some [])
 | .hk b g=>.fp b λx=>.ret (if x.gen=g then (match x.body with
   | .mp k' iu es=>fF (.map k' iu) (.map k v) es
   | .k5 k' iu es=>fF (.map k' iu) (.map k v) es
   | _=>none) else none)
 | _=>.none
def Yq(v:V)(r:Option v.al)(ok:Bool):aL:=
 match ok with
 | true=>.sz 2 (hX [.val v (r.getD v.dU),.val .bool r.isSome])
 | false=>.val v (r.getD v.dU)
def CN(T:Nat->V)(rho:Operand->aL)(ty:TypeId)(m x:Operand)(ok:Bool):aE (Option eA):=
 match T ty with
 | .map k v=>let (Af,PF):=use (rho m);let (cz,e9):=use (rho x);if yn k&&(v.fY||v.isAgg) then
   (J3 k v PF).eG λes=>(eh k e9).eG λ(y,_)=>
    da (Af/\cz) True (Yq v (CM es y) ok)
  else .none
 | _=>.none
def vc(T:Nat->V)(rho:Operand->aL)(ty:TypeId)(m x y:Operand):aE (Option eA):=
 match T ty with
 | .map k v=>let (Af,PF):=use (rho m);let (cz,e9):=use (rho x);let (lB,kv):=use (rho y);if yn k then
   match PF with
   | .hk b g=>(eh k e9).eG λ(x,sB)=>(eh v kv).eG λ(y,ld)=>(ke (sB++ld)).bind λwl=>.fp b λz=>.ret (if z.gen=g/\!(sB++ld).contains b then (match z.body with
     | .mp k' iu es=>(fF (.map k' iu) (.map k v) es).map λes=>⟨Af/\cz/\lB,True,.undef,wl++[(b,⟨z.gen,.mp k v (oL es x y)⟩)]⟩
     | _=>none) else none)
   | _=>.none
  else .none
 | _=>.none
def J4(T:Nat->V)(rho:Operand->aL)(d:Option Nat)(ty:TypeId)(l c:Operand):aE (Option eA):=
 match T ty with
 | .slice e=>let (ol,amR):=use (rho l);let (vd,amS):=use (rho c);match amR.n0,amS.n0 with
  | some (.i64,n),some (.i64,m)=>n1 d λb g=>some ⟨ol/\vd,0<=n/\n=m/\cb n.toNat,.own b g,[(b,⟨g,.bl e (List.replicate n.toNat e.dU)⟩)]⟩
  | _,_=>.none
 | _=>.none
variable {af:Type}
def hU(xs:List af)(a1:Nat)(br:List af):List af:=xs.take a1++br++xs.drop (a1+br.length)
def J5(T:Nat->V)(rho:Operand->aL)(args:List Operand)(dq:List TypeId):aE (Option eA):=
 match args,dq with
 | [x,y],[t,u]=>match T t,T u with
  | .slice e,.slice _=>let (cz,e9):=use (rho x);let (lB,kv):=use (rho y);match (match e9 with | .own b g=>some (b,g,0,none) | .sub b g a1 G=>some (b,g,a1,some G) | _=>none:Option (Nat×Nat×Nat×Option Nat)) with
   | some (b,g,a1,G)=>(eh (.slice e) kv).eG λ(br,_)=>.fp b λz=>.ret (if z.gen=g then (match z.body with
     | .bl aY xs=>if h:aY=e then some ⟨cz/\lB,True,.val (.int .i64) ((min (G.getD xs.length - a1) br.length:Nat):Int),[(b,⟨z.gen,.bl e (hU (h ▸ xs) a1 (br.take (G.getD xs.length - a1)))⟩)]⟩ else none
     | _=>none) else none)
   | none=>.none
  | _,_=>.none
 | _,_=>.none
def Ah(rho:Operand->aL)(args:List Operand):Option (Nat×Nat×z24'):=
 match args with
 | [x,y]=>match (use (rho x)).2,(use (rho y)).2 with
  | .sub b g a1 G,.sub bf g' _ _=>if bf=b/\g'=g then some (b,g,a1,G) else none
  | _,_=>none
 | _=>none
def FW(T:Nat->V)(rho:Operand->aL)(args:List Operand)(dq:List TypeId)(b g a1 G:Nat):aE (Option eA):=
 match args,dq with
 | [x,y],[t,u]=>match T t,T u with
  | .slice e,.slice _=>let (cz,_):=use (rho x);let (lB,kv):=use (rho y);(eh (.slice e) kv).eG λ(br,_)=>.fp b λz=>.ret (if z.gen=g then (match z.body with
    | .bl aY xs=>if h:aY=e then some ⟨cz/\lB,G+br.length<=xs.length,.sub b g a1 (G+br.length),[(b,⟨z.gen,.bl e (hU (h ▸ xs) G br)⟩)]⟩ else none
    | _=>none) else none)
  | _,_=>.none
 | _,_=>.none
def FX(T:Nat->V)(rho:Operand->aL)(args:List Operand)(dq:List TypeId):aE (Option eA):=
 match args,dq with
 | [x],[t]=>match T t with
  | .slice e=>let (cz,e9):=use (rho x);match e9 with
   | .sub b g a1 G=>.fp b λz=>.ret (if z.gen=g then (match z.body with
     | .bl aY xs=>if h:aY=e then some ⟨cz,True,.undef,[(b,⟨z.gen,.bl e (hU (h ▸ xs) a1 (List.replicate (G - a1) e.dU))⟩)]⟩ else none
     | _=>none) else none)
   | _=>.none
  | _=>.none
 | _,_=>.none
def pg(T:Nat->V)(bs:Nat->Option aN)(rho:Operand->aL)(d:Option Nat)(c:Call):aE (Option eA):=
 match c.callee with
 | .builtin b=>match b with
  | .len=>FR T rho c.args.toList c.argTypes.toList
  | .append=>match Ah rho c.args.toList with
   | some (b,g,a1,G)=>FW T rho c.args.toList c.argTypes.toList b g a1 G
   | none=>FT T rho d c.args.toList c.argTypes.toList
  | .clear=>FX T rho c.args.toList c.argTypes.toList
  | .copy=>J5 T rho c.args.toList c.argTypes.toList
  | .min=>Ag rho (λa b=>if b<a then b else a) c.args.toList
  | .max=>Ag rho (λa b=>if b > a then b else a) c.args.toList
  | .cap=>FU T rho c.args.toList c.argTypes.toList
  | _=>.none
 | .value f=>match f with
  | .func k=>J2 bs rho d k c.args.toList
  | _=>.none
 | _=>.none
def fh(br:z1'):List UInt8:=br.map λn=>UInt8.ofNat n.toNat
def Yr(t:V)(cy:Prop)(b g i:Nat):aE (Option eA):=
 .fp b λz=>.ret (match z.body with
  | .h7 _ _ n2 v=>if z.gen=g/\t.fY=true then some ⟨cy,i=n2,v,[]⟩ else none
  | _=>none)
def PG(t:V)(cy:Prop)(b g i:Nat)(v:aL):aE (Option eA):=
 match v with
 | .own bf g'=>.fp b λz=>.ret (match z.body with
  | .h7 e xs n2 _=>if z.gen=g/\t.fY=true then some ⟨cy,i=n2,.undef,[(b,⟨z.gen,.h7 e xs n2 (.own bf g')⟩)]⟩ else none
  | _=>none)
 | _=>.none
def cP(aP:dV)(T:Nat->V)(bs:Nat->Option aN)(rho:Operand->aL)(o:Oper):aE (Option eA):=
 match o.op with
 | .move x=>da True True (rho x)
 | .assign x=>match rho x,T o.type with
  | .dW,.slice e=>n1 o.dst λb g=>some ⟨True,True,.own b g,[(b,⟨g,.bl e []⟩)]⟩
  | v,_=>da True True v
 | .pick c a b=>match use (rho c) with
  | (vd,.val .bool lC)=>match a,b with
   | _,.const (.bool false)=>match use (rho a) with
    | (Ys,.val .bool av)=>da (vd/\(lC=true->Ys)) True (.val .bool (lC&&av))
    | _=>.none
   | .const (.bool true),_=>match use (rho b) with
    | (cy,.val .bool bv)=>da (vd/\(lC=false->cy)) True (.val .bool (lC||bv))
    | _=>.none
   | _,_=>.none
  | _=>.none
 | .binOp op ty x y _=>
  let (cz,e9):=use (rho x)
  let (lB,kv):=use (rho y)
  match e9.n0,kv.n0 with
  | some (k,a),some (k',b)=>(match op with
   | .shl | .shr=>match PE op k a b with
    | some (c,v)=>da (cz/\lB) c v
    | none=>.none
   | _=>if k=k' then (match CK op k a b with
    | some (c,v)=>da (cz/\lB) c v
    | none=>.none) else .none)
  | _,_=>match e9.wU,kv.wU with
   | some a,some b=>match FN op a b with
    | some (c,v)=>da (cz/\lB) c v
    | none=>.none
   | _,_=>(FO op (T ty) e9 kv).eG λ(c,v)=>da (cz/\lB) c v
 | .unOp op _ x=>match op,use (rho x) with
  | .not,(cz,.val .bool b)=>da cz True (.val .bool (!b))
  | .neg,(cz,.val (.int k) n)=>da cz True (.val (.int k) (k.wrap (0 - n)))
  | _,_=>.none
 | .extract x i=>match use (rho x) with
  | (cz,.sz n f)=>if i<n then da cz True (f i) else .none
  | _=>.none
 | .nilCheck x=>match use (rho x) with
  | (cz,.kQ b g i)=>.fp b λz=>.ret (if z.gen=g&&z.body.gS then some ⟨cz,True,.kQ b g i,[]⟩ else none)
  | (cz,.eL t d)=>da cz True (.eL t d)
  | (cz,.val (.bM e) p)=>da cz (p.isSome=true) (.eL e (p.getD e.dU))
  | (cz,.eY b g off)=>.fp b λz=>.ret (if z.gen=g&&z.body.hl then some ⟨cz,True,.eY b g off,[]⟩ else none)
  | _=>.none
 | .fieldAddr ty x f=>match T ty with
  | .ad t=>match p5 t f with
   | some (_,Ai)=>match use (rho x) with
    | (cz,.eY b g off)=>.fp b λz=>.ret (if z.gen=g&&z.body.hl then some ⟨cz,True,.eY b g (off+Ai),[]⟩ else none)
    | (cz,.qJ b g i off)=>.fp b λz=>.ret (if z.gen=g&&z.body.gS then some ⟨cz,True,.qJ b g i (off+Ai),[]⟩ else none)
    | (cz,.kQ b g i)=>.fp b λz=>.ret (if z.gen=g&&z.body.gS&&Ai == 0 then some ⟨cz,True,.kQ b g i,[]⟩ else none)
    | (cz,.eL (.ad dN) d)=>if dN=t then (match yk dN d f with
     | some ⟨s',y⟩=>da cz True (.eL s' y)
     | none=>.none) else .none
    | _=>.none
   | none=>.none
  | _=>.none
 | .field ty x f=>match T ty with
  | .ad t=>match use (rho x) with
   | (cz,.val (.ad dN) d)=>if dN=t then (match yk dN d f with
     | some ⟨s',y⟩=>da cz True (.val s' y)
     | none=>.none) else .none
   | _=>.none
  | _=>.none
 | .load ty x=>match use (rho x) with
  | (cz,.kQ b g i)=>Yr (T ty) cz b g i
  | (cz,e9)=>(CL (T ty) e9).eG λv=>da cz True v
 | .store ty x y=>let (lB,kv):=use (rho y);match use (rho x) with
  | (cz,.kQ b g i)=>PG (T ty) (cz/\lB) b g i kv
  | (cz,e9)=>(Yl (T ty) e9 kv).eG λwl=>.ret (some ⟨cz/\lB,True,.undef,wl⟩)
 | .alloc ty=>n1 o.dst λb g=>if T ty=.dh then none else some ⟨True,True,.eY b g 0,[(b,⟨g,.cells (T ty) (hX (va (T ty)))⟩)]⟩
 | .box ty x=>let (cz,e9):=use (rho x);match cellsOf (T ty) e9 with
  | some l=>n1 o.dst λb g=>if l.length=(T ty).size then some ⟨cz,True,.eY b g 0,[(b,⟨g,.cells (T ty) (hX l)⟩)]⟩ else none
  | none=>.none
 | .build ty bu=>let l:=bu.toList.map λp=>(p.1,rho p.2);match T ty with
  | .ad t=>match JZ t (va t) (lA l) with
   | some cs=>da (ym l) True (.agg cs.length (hX cs))
   | none=>.none
  | .array m e=>(wV e (lA l) 0 m).eG λ(xs,b9)=>if (b9.isEmpty&&decide ((lA l).map (·.1)).Nodup&&(lA l).all (λp=>decide (p.1<m)))=true then da (ym l) True (.val (.array m e) xs) else .none
  | _=>.none
 | .buildSlice ty n bu=>let l:=bu.toList.map λp=>(p.1,rho p.2);match T ty with
  | .slice e=>(wV e (lA l) 0 n).eG λ(xs,b9)=>(ke b9).bind λwl=>n1 o.dst λb g=>if n*e.size<=65536/\(!b9.contains b&&decide ((lA l).map (·.1)).Nodup&&(lA l).all (λp=>decide (p.1<n)))=true then some ⟨ym l,True,.own b g,wl++[(b,⟨g,.bl e xs⟩)]⟩ else none
  | _=>.none
 | .indexAddr ty x i=>let (cz,e9):=use (rho x);let (Aj,PH):=use (rho i);match T ty,PH.n0 with
  | .slice e,some (_,n)=>(Ym e e9 n).eG λ(c,v)=>da (cz/\Aj) c v
  | .array m e,some (_,n)=>match e9 with
   | .eL (.array dp aY) xs=>if dp=m/\aY=e then da (cz/\Aj) (0<=n/\n<(m:Int)) (.eL aY (mO aY xs n)) else .none
   | .eY b g off=>.fp b λz=>.ret (if z.gen=g&&z.body.hl then some ⟨cz/\Aj,0<=n/\n<(m:Int),.eY b g (off+n.toNat*e.size),[]⟩ else none)
   | _=>.none
  | _,_=>.none
 | .index ty x i=>let (cz,e9):=use (rho x);let (Aj,PH):=use (rho i);match T ty,e9.wU,PH.n0 with
  | .str,some s,some (_,n)=>da (cz/\Aj) (0<=n/\n<(s.length:Int)) (.val (.int .u8) ((s.getD n.toNat 0).toNat:Int))
  | .array m e,_,some (_,n)=>match e9 with
   | .val (.array dp aY) xs=>if dp=m/\aY=e then da (cz/\Aj) (0<=n/\n<(m:Int)) (.val aY (mO aY xs n)) else .none
   | .agg k f=>if k=m*e.size then da (cz/\Aj) (0<=n/\n<(m:Int)) (if e.isAgg=true then .agg e.size (λq=>f (n.toNat*e.size+q)) else f (n.toNat*e.size)) else .none
   | _=>.none
  | _,_,_=>.none
 | .convert a b x=>let (cz,e9):=use (rho x);match T a,T b,e9.n0 with
  | .int _,.int k,some (_,n)=>da cz True (.val (.int k) (k.wrap n))
  | .slice (.int .u8),.str,_=>(eh (.slice (.int .u8)) e9).eG λ(br,_)=>da cz True (.val .str (fh br))
  | _,_,_=>.none
 | .makeFunc fn first dQ=>match fn with
  | .func k=>let l:=dQ.toList.map rho;if first.isEmpty then (match aP.tL k with
   | some v=>(kd (hV (v.cs.map .bM)) (l.map λv=>(use v).2)).eG λ(y,b9)=>(ke b9).bind λwl=>.ret (some ⟨kg l,True,.val (.fn (hV v.as) v.aR) (λx=>v.sh (JQ v.as (v.cs.map .bM) x y)),wl⟩)
   | none=>match aP.z8 k with
    | some v=>(kd (hV (v.cs.map .bM)) (l.map λv=>(use v).2)).eG λ(y,b9)=>(ke b9).bind λwl=>.ret (some ⟨kg l,True,.val (.cE v.aI) (v.S y),wl⟩)
    | none=>da (kg l) True (.ji k l.length (hX (l.map λv=>(use v).2)))) else (if dQ.isEmpty then da (kg (first.toList.map rho)) True (.u7 k first.size (hX ((first.toList.map rho).map λv=>(use v).2))) else .none)
  | _=>.none
 | .makeMap ty r=>if r.isSome then .none else match T ty with
  | .map k v=>n1 o.dst λb g=>some ⟨True,True,.hk b g,[(b,⟨g,.mp k v []⟩)]⟩
  | _=>.none
 | .lookup ty m x ok=>CN T rho ty m x ok
 | .mapUpdate ty m x y=>vc T rho ty m x y
 | .insert ty m x y=>vc T rho ty m x y
 | .makeSlice ty l c=>J4 T rho o.dst ty l c
 | .makeInterface _ _=>da True False .undef
 | .panic _=>da True False .undef
 | .slice ty x a1 G l6=>if l6.isSome then J1 T rho ty x a1 G l6 else J0 T rho ty x a1 G
 | .call c=>pg T bs rho o.dst c
 | _=>.none
def cQ(m:List (Nat×List af))(id:Nat):List af:=match m.find? (λp=>p.1 == id) with
 | some p=>p.2
 | none=>[]
def eS(m:List (Nat×List af))(id i:Nat)(d:af):List (Nat×List af):=m.map λp=>if p.1=id then (p.1,p.2.set i d) else p
def Ak(e:V):b8->Option (List (Nat×List e.al))
 | .bQ aY m=>if h:aY=e then some (h ▸ m) else none
 | _=>none
def gw(e:V)(m:List (Nat×List e.al)):(t:V)->t.al->t.iI.al
 | .cN aY,x=>if h:aY=e then h ▸ ((cQ m x.1).drop x.2.1).take x.2.2 else []
 | .ad t,x=>gw e m t x
 | .au a b,x=>(gw e m a x.1,gw e m b x.2)
 | .slice t,xs=>xs.map (gw e m t)
 | .bool,x=>x
 | .int _,x=>x
 | .str,x=>x
 | .dh,x=>x
 | .array _ _,x=>x
 | .bM _,x=>x
 | .map _ _,x=>x
 | .fn _ _,x=>x
 | .cE _,x=>x
 | .eW,x=>x
def n3(e:V)(m:List (Nat×List e.al)):(t:V)->t.al->Prop
 | .cN aY,x=>aY=e/\m.any (λp=>p.1 == x.1)=true/\x.2.1+x.2.2<=(cQ m x.1).length
 | .ad t,x=>n3 e m t x
 | .au a b,x=>n3 e m a x.1/\n3 e m b x.2
 | .slice t,xs=>∀ x∈(xs:List t.al),n3 e m t x
 | _,_=>True
def PI(rho:Operand->aL)(c:X_)(args:List Operand):aE (Option eA):=
 (kd c.nV ((args.map rho).map λv=>(use v).2)).bind λr=>match r with
 | some (x,b9)=>.fp cx λz=>match Ak c.e z.body with
  | some m=>(if (c.aR.pure||c.tJ)=true then .ret [] else ke b9:aE (List (Nat×b7))).bind λwl=>
  .ret (some ⟨kg (args.map rho),n3 c.e m c.nV x/\c.pre (gw c.e m c.nV x),qM c.aR (c.g (gw c.e m c.nV x)),if (c.aR.pure||c.tJ)=true then [] else wl++[(cx,⟨z.gen,.ey⟩)]⟩)
  | none=>.none
 | none=>(kd c.nV.iI ((args.map rho).map λv=>(use v).2)).eG λ(x,b9)=>(if c.aR.pure then .ret [] else ke b9:aE (List (Nat×b7))).bind λwl=>.ret (some ⟨kg (args.map rho),c.pre x,qM c.aR (c.g x),wl⟩)
def e1(aP:dV)(T:Nat->V)(rho:Operand->aL)(o:Oper):Option (aE (Option eA)):=
 match o.op with
 | .load ty x=>match use (rho x) with
  | (cz,.yf (.int k) id i)=>some (.fp cx λz=>.ret (match Ak (.int k) z.body with
    | some m=>if T ty=.int k then some ⟨cz,i<(cQ m id).length,.val (.int k) ((cQ m id).getD i 0),[]⟩ else none
    | none=>none))
  | _=>none
 | .store ty x y=>match use (rho x) with
  | (cz,.yf (.int k) id i)=>match use (rho y) with
   | (lB,.val (.int k') d)=>some (.fp cx λz=>.ret (match Ak (.int k) z.body with
    | some m=>if T ty=.int k/\k'=k then some ⟨cz/\lB,i<(cQ m id).length,.undef,[(cx,⟨z.gen,.bQ (.int k) (eS m id i d)⟩)]⟩ else none
    | none=>none))
   | _=>none
  | _=>none
 | .indexAddr ty x i=>match use (rho x) with
  | (cz,.val (.cN e) r)=>match (use (rho i)).2.n0 with
   | some (_,n)=>some (.ret (if T ty=.cN e then some ⟨cz/\(use (rho i)).1,0<=n/\n<(r.2.2:Int),.yf e r.1 (r.2.1+n.toNat),[]⟩ else none))
   | none=>none
  | _=>none
 | .slice ty x a1 G l6=>match use (rho x) with
  | (cz,.val (.cN e) r)=>match lb rho a1,lb rho G,l6 with
   | some (ol,l),some (sA,h),none=>some (.ret (if T ty=.cN e then some ⟨cz/\(ol/\sA),0<=dA l/\dA l<=fU r.2.2 h/\fU r.2.2 h<=(r.2.2:Int),.val (.cN e) (r.1,r.2.1+(dA l).toNat,(fU r.2.2 h).toNat - (dA l).toNat),[]⟩ else none))
   | _,_,_=>none
  | _=>none
 | .call c=>match c.callee with
  | .builtin .len=>match c.args.toList,c.argTypes.toList with
   | [x],[t]=>match use (rho x) with
    | (cz,.val (.cN e) r)=>some (.ret (if T t=.cN e then some ⟨cz,True,.val (.int .i64) (r.2.2:Int),[]⟩ else none))
    | _=>none
   | _,_=>none
  | .builtin .unsafeSliceData=>match c.args.toList with
   | [x]=>match use (rho x) with
    | (cz,.own b g)=>some (.fp b λz=>.ret (match z.body with
     | .bl _ _=>if z.gen=g/\T o.type=.bM (.int .u8) then some ⟨cz,True,.z' b g,[]⟩ else none
     | _=>none))
    | _=>none
   | _=>none
  | .builtin .unsafeString=>match c.args.toList,c.argTypes.toList with
   | [x,n],[sC,_]=>match use (rho x),use (rho n) with
    | (cz,.z' b g),(on,.val (.int .i64) m)=>some (.fp b λz=>.ret (match z.body with
     | .bl (.int .u8) xs=>if z.gen=g/\T sC=.bM (.int .u8) then some ⟨cz/\on,m=(List.length xs:Int),.val .str (fh xs),[(b,⟨z.gen,.ey⟩)]⟩ else none
     | _=>none))
    | _,_=>none
   | _,_=>none
  | .value (.func k)=>(aP.z_ k).map λgl=>PI rho gl c.args.toList
  | _=>none
 | _=>none
def iv(aP:dV)(T:Nat->V)(bs:Nat->Option aN)(rho:Operand->aL)(o:Oper):aE (Option eA):=
 match e1 aP T rho o with
 | some r=>r
 | none=>cP aP T bs rho o
def eZ(r:Option Nat):Fence:={ Fence.wide with round:=r }
section
variable {P:Program} {w:World}
variable {t:TypeId}
theorem en{d:TypeDesc}(h:P.underlying t=some d):(underlying t).run P w=.ok d w:=by simp[underlying,h]
variable {i:TypeInfo}
theorem FY(h:P.info? t=some i):(typeInfo t).run P w=.ok i w:=by simp[typeInfo,h]
theorem tO(h:P.info? t=some i):(sizeOf t).run P w=.ok i.size w:=by simp[sizeOf,FY h]
theorem sD{z:Value}(h:P.info? t=some i)(bA:i.zero=some z):(zeroValue t).run P w=.ok z w:=by simp[zeroValue,FY h,bA]
theorem cv.size{t:V}{id:TypeId}(h:cv P t id):(sizeOf id).run P w=.ok t.size w:=by
 obtain⟨i,z,E,L,_⟩:=nq h.np;rw[tO E,L]
variable {t:V}{id:TypeId}
theorem cv.ad(h:cv P (.ad t) id):∃ f_,P.underlying id=some (.struct f_):=by
 unfold cv at h;simp  [de]at h;grind
theorem cv.sl{e:V}(h:cv P (.slice e) id):∃ i,P.underlying id=some (.slice i)/\cv P e i/\e.size≠0:=by
 unfold cv at h;simp  [de]at h;obtain⟨_,h⟩:=h;split at h
 ·rename_i i G;simp  at h;exact⟨i,G,h.1,h.2⟩
 grind
theorem amT:∀ (t:V) {l:List Field} {J6 f off:Nat} {s:V},de P t (.inr (l,J6))=true->p5 t f=some (s,off)->
  ∃ p8,l[f]?=some p8/\p8.offset=J6+off/\cv P s p8.type/\s.size≠0:=by
 intro t;induction t with
 | au a b gI fS=>
  intro l J6 f off s h ax;match l,h with
  | [],h=>simp  [de]at h
  | [x],h=>simp  [de]at h
  | [x,y],h=>
   simp  [de,ne_eq]at h;obtain⟨⟨⟨⟨E,L⟩,ak⟩,_⟩,⟨⟨aZ,bP⟩,ej⟩,_⟩:=h;cases f with
   | zero=>obtain⟨rfl,rfl⟩:=ax;exact⟨x,rfl,E,L,ak⟩
   | succ f=>
    simp only[p5,aP3]at ax;obtain⟨⟨s',f'⟩,ax,rfl,rfl⟩:=ax;have U:∃ u,p5 b f=some u/\f=0/\u=(b,0):=by
     cases b<;>cases f<;>simp only[p5,reduceCtorEq]at ax<;>first
      | exact⟨_,ax,rfl,by cases ax;rfl⟩
      | (simp  [de]at bP)
    obtain⟨u,hu,rfl,rfl⟩:=U;rw[hu]at ax;cases ax;exact⟨y,rfl,by omega,bP,ej⟩
  | x::y::z::l,h=>
   simp  [de,ne_eq]at h;obtain⟨⟨⟨⟨E,L⟩,ak⟩,_⟩,aZ⟩:=h;cases f with
   | zero=>obtain⟨rfl,rfl⟩:=ax;exact⟨x,rfl,E,L,ak⟩
   | succ f=>
    simp  [p5,aPD]at ax;grind
 | _=>intro l J6 f off s h _;simp only[de,aml]at h
theorem cv.field{s:V}{id f off:Nat}(h:cv P (.ad t) id)(ax:p5 t f=some (s,off)) :
  ∃ f_ p8,P.underlying id=some (.struct f_)/\f_[f]?=some p8/\p8.offset=off/\cv P s p8.type/\s.size≠0:=by
 unfold cv at h;simp  [de]at h;obtain⟨_,h⟩:=h;split at h
 ·rename_i f_ kx;refine⟨f_,?_⟩;have fz:∀ {p8},f_.toList[f]?=some p8->f_[f]?=some p8:=λh=>by grind
  split at h
  ·rw[aP6 h]at ax;cases f<;>cases ax
  ·rename_i x ah;simp  at h;have U:f=0/\(s,off)=(t,0):=by
    cases t<;>cases f<;>simp only[p5,reduceCtorEq]at ax<;>first
     | exact⟨rfl,by cases ax;rfl⟩
     | (have:=h.1.1.2;simp  [de]at this)
   obtain⟨rfl,U⟩:=U;cases U;exact⟨x,kx,fz (by grind),h.1.1.1,h.1.1.2,h.1.2⟩
  ·obtain⟨p8,aM,aS,b4⟩:=amT t h ax;grind
 grind
def mP(w:World)(p:Addr)(cs:List Value):Prop:=(0<cs.length->p.spot=none)/\∀ j (h:j<cs.length),w.cell? ⟨p.block,p.off+j,none⟩=some cs[j]
variable {p:Addr}{cs:List Value}
theorem Holds.PJ{F:Nat->Prop}(h:Holds F w p cs):mP w p cs:=⟨λ_=>h.2.1,h.2.2⟩
theorem CO(h:mP w p cs):(loadCells p cs.length).run P w=.ok cs.toArray w:=by
 obtain⟨ay,hc⟩:=h;refine run_loadCells_list w p cs λj v aJ=>?_;have aj:p=⟨p.block,p.off,none⟩:=by cases p;grind
 have FZ:p.add j=⟨p.block,p.off+j,none⟩:=by
  unfold Addr.add;grind
 grind
theorem CP(h:cv P t id):(isAgg id).run P w=.ok t.isAgg w:=by
 unfold cv at h;unfold isAgg;cases t<;>simp  [de,aml]at h<;>(obtain⟨_,h⟩:=h;split at h)<;>
  first
   | (rename_i hu;simp[en hu,V.isAgg];done)
   | (cases h;done)
   | (rename_i hu;simp[en hu,V.isAgg])
theorem J7{F:Nat->Prop}{x:t.al}(h:cv P t id)(df:mP w p cs)(ao:cp P t F w cs x) :
  ∃ v,(loadVar id p).run P w=.ok v w/\fo P t F w v x:=by
 have hlen:=jP t ao;by_cases aW:t.isAgg=true
 ·refine⟨.agg cs.toArray,?_,?_,by simpa [Value.cells]using ao⟩
  ·have:=CO (P:=P) df;rw[hlen]at this;simp[loadVar,CP h,aW,h.size,this]
  ·cases t<;>simp  [V.isAgg]at aW
   ·exact⟨cs.toArray,rfl,by simpa [V.size]using hlen⟩
   ·exact⟨cs.toArray,rfl,by simpa [V.size]using hlen⟩
 ·have ah:t.fY=true:=by
   cases t<;>simp  [V.isAgg]at aW<;>first | rfl | (unfold cv at h;simp  [de]at h)
  obtain⟨u,rfl,hu⟩:=JP ah ao;refine⟨u,?_,(eb ah).2 ⟨hu,ao⟩⟩;have hc:=df.2 0 (by simp);have aj:p=⟨p.block,p.off+0,none⟩:=by have:=df.1 (by simp);cases p;grind
  rw[<-aj]at hc;simp[loadVar,CP h,aW,hc]
end
section
variable {r:Option Nat} {P:Program} {o:Oper} {a:Act} {w w':World} {K:Act->World->Prop} {Q:Exit->Act->World->Prop}
theorem CQ(aw:∀ c,o.op≠.defer c):o.semAt (eZ r).round a.eval=execOp a.eval o:=Oper.semAt_eq _ _ _ aw
variable {v:Value}
theorem h8(aw:∀ c,o.op≠.defer c)(h:(execOp a.eval o).run P w=.ok (.value v) w')(an:K (a.put o.dst v) w'):o.wpIn (eZ r) 0 P a w K Q:=by
 refine⟨λ_ _=>trivial,?_⟩;rw[CQ aw,h];exact an
theorem F0(aw:∀ c,o.op≠.defer c)(h:(execOp a.eval o).run P w=.ok .skip w')(an:K (a.put o.dst Go.undef) w'):o.wpIn (eZ r) 0 P a w K Q:=by
 refine⟨λ_ _=>trivial,?_⟩;rw[CQ aw,h];exact an
end
def aC.iw(s:aC):List (Nat×b7)->aC
 | []=>s
 | p::l=>(s.cn p.1 p.2).iw l
def aC.jE(s:aC)(d:Option Nat)(res:eA):aC:=(s.iw res.jC).set d res.ho
def cR(C:cF)(o:Oper)(s:aC)(res:eA):Prop:=
 ∀ a w kap F Q,bw C s a w kap F->res.cy->res.c->o.wpIn (eZ C.r) 0 C.P a w (λa' w'=>dc C (s.jE o.dst res) a' w') Q
theorem cR.pure{C:cF}{o:Oper}{s:aC}{cy c:Prop}{ho:aL}(aw:∀ c,o.op≠.defer c)(bh:∀ i,o.dst=some i->i<C.bV)
  (h:∀ a w kap F,bw C s a w kap F->cy->c->∃ v,(execOp a.eval o).run C.P w=.ok (.value v) w/\bJ C.P s.aa kap F w ho v):cR C o s ⟨cy,c,ho,[]⟩:=by
 intro a w kap F Q D ba hc;obtain⟨v,E,L⟩:=h a w kap F D ba hc;exact h8 aw E ⟨kap,F,D.set bh L⟩
section
variable {P:Program} {H:Nat->b7} {kap:Nat->bI} {F:Nat->Prop} {w:World}
theorem qN{av:aL}{v:Value}(h:bJ P H kap F w av v)(hu:(use av).1):bJ P H kap F w (use av).2 v:=by
 cases av<;>first | exact h | exact h.1 hu
theorem amU(v:Value):bJ P H kap F w (Ae v) v:=by
 unfold Ae;split
 ·exact gC.2 rfl
 ·split
  ·rename_i h;exact hO.2 ⟨rfl,h⟩
  ·rfl
 ·split
  ·rename_i s h;refine k3.2 ⟨by simp,?_⟩;have:s.data.toList.length=s.size:=by rfl
   omega
  ·rfl
 ·rfl
 ·rfl
theorem lD{C:cF}{s:aC}{a:Act}{w:World}{kap:Nat->bI}{F:Nat->Prop}(h:bw C s a w kap F)(x:Operand):bJ C.P s.aa kap F w (be C.aU s.az x) (a.eval x):=by
 cases x with
 | tmp t=>
  exact h.bX t
 | const v=>exact amU v
 | func f=>
  show bJ _ _ _ _ _ (match C.aU.tK f with | some v=>.val (.fn v.ts v.aR) v.sh | none=>.ji f 0 λ_=>.undef) (.func (.func f) #[] #[]);split
  ·rename_i v ae;exact (eb rfl).2 ⟨rfl,amF (h.j2.tK f v ae) F w⟩
  ·exact⟨[],rfl,rfl,λi G=>by omega⟩
 | global g=>trivial
variable {k:IntKind}
theorem p9{av:aL}{v:Value}{n:Int}(h:bJ P H kap F w av v)(G:av.n0=some (k,n)):v=.int k n/\gQ k n:=by
 unfold aL.n0 at G;split at G
 ·cases G;exact hO.1 h
 grind
theorem PK{av:aL}{v:Value}{s:List UInt8}(h:bJ P H kap F w av v)(G:av.wU=some s):v=.string ⟨s.toArray⟩/\s.length<2 ^ 63:=by
 unfold aL.wU at G;split at G
 ·cases G;exact k3.1 h
 grind
end
theorem sE(k:IntKind)(n:Int):gQ k (k.wrap n):=by
 unfold gQ IntKind.wrap;have E:=Int.emod_nonneg n (b:=2 ^ k.bits) (by cases k<;>decide);have L:=Int.emod_lt_of_pos n (b:=2 ^ k.bits) (by omega);cases k<;>simp  [IntKind.min,IntKind.max,IntKind.signed,IntKind.bits,Int.reducePow]at E L ⊢<;>first
  | (constructor<;>split<;>first | (rename_i hc;have hc:=aP6 hc;omega) | (rename_i hc;have hc:=mt aPR hc;omega))
  | omega
theorem amV{k:IntKind}{a b:Int}(aW:gQ k a):gQ k (a.tmod b):=by
 unfold gQ at *
 have E:k.min<=0/\0<=k.max:=by cases k<;>decide
 have L:=Int.natAbs_tmod a b;have ak:=Nat.mod_le a.natAbs b.natAbs;rcases Int.le_total 0 a with h | h
 ·have:=Int.tmod_nonneg b h;omega
 ·have aZ:=Int.neg_tmod a b;have:=Int.tmod_nonneg b (a:=-a) (by omega);omega
end Go.Fer
namespace Go.Fer
open Go.RowKit
variable {P:Program}{w:World}{t:V}{id:TypeId}{cs:Array Value}
theorem Yt(h:cv P t id)(ah:t.isAgg=false){off:Nat}{v:Value}(ae:cs[off]?=some v) :
  (part id cs off).run P w=.ok v w:=by
 simp[part,CP h,ah,ae]
theorem Yu(h:cv P t id)(ah:t.isAgg=true){off:Nat} :
  (part id cs off).run P w=.ok (.agg (cs.extract off (off+t.size))) w:=by
 simp[part,CP h,ah,h.size]
theorem tP{F:Nat->Prop}(h:cv P t id){p c q:List Value}{x:t.al}(qO:cs.toList=p++(c++q))(hc:cp P t F w c x) :
  ∃ v,(part id cs p.length).run P w=.ok v w/\fo P t F w v x:=by
 have hlen:=jP t hc;by_cases aW:t.isAgg=true
 ·refine⟨_,Yu h aW,?_⟩;have he:(cs.extract p.length (p.length+t.size)).toList=c:=by
   simp_all
  have ae:(Value.agg (cs.extract p.length (p.length+t.size))).cells.toList=c:=he;refine⟨?_,by grind⟩;have cI:(cs.extract p.length (p.length+t.size)).size=t.size:=by grind
  cases t<;>simp  [V.isAgg]at aW
  ·exact⟨_,rfl,by simpa [V.size]using cI⟩
  ·exact⟨_,rfl,by simpa [V.size]using cI⟩
 ·have ah:t.fY=true:=by
   cases t<;>simp  [V.isAgg]at aW<;>first | rfl | (unfold cv at h;simp  [de]at h)
  obtain⟨u,rfl,hu⟩:=JP ah hc;refine⟨u,Yt h (by grind) ?_,(eb ah).2 ⟨hu,hc⟩⟩;rw[<-aPX,qO];simp
theorem cv.F1(h:cv P (.ad t) id):P.stoodInHeld id=false/\P.eqGuardType P.depth id=false/\
  (de P t (.inr ((P.fieldsOf id).toList, 0)) = true \/ (∃ f, (P.fieldsOf id).toList = [f] /\ f.offset = 0 /\ cv P t f.type /\ f.name ≠ "_") \/ (t = .dh /\ (P.fieldsOf id).toList = [])) /\ P.underlying id = some (.struct (P.fieldsOf id)) := by
 unfold cv at h;simp  [de,aPH]at h;obtain⟨⟨⟨_,E⟩,L⟩,h⟩:=h;split at h
 ·rename_i f_ kx;have ax:P.fieldsOf id=f_:=by simp[Program.fieldsOf,kx]
  rw[ax];refine⟨E,L,?_,kx⟩;split at h
  ·grind
  ·rename_i x ah;simp  at h;exact .inr (.inl ⟨x,ah,h.1.1.1,h.1.1.2,h.2⟩)
  grind
 grind
theorem PL{F:Nat->Prop}:∀ (t:V) (d:Nat),t.oJ=true->t.nr<=d->
  (∀ {id:TypeId} {v u:Value} {x y:t.al},cv P t id->fo P t F w v x->fo P t F w u y->(Op.equalIn d id v u).run P w=.ok (iJ t x y) w)/\
  (∀ {l:List Field} {off:Nat} {xs br:Array Value} {p c q p' gl q':List Value} {x y:t.al},de P t (.inr (l,off))=true->xs.toList=p++(c++q)->p.length=off->cp P t F w c x->
   br.toList=p'++(gl++q')->p'.length=off->cp P t F w gl y->(Op.eqFields d xs br l).run P w=.ok (iJ t x y) w):=by
 intro t;induction t with
 | bool=>
  intro d _ aw;refine⟨λ{id v u x y} h E L=>?_,λh=>by simp[de]at h⟩;rw[gC.1 E,gC.1 L];obtain⟨d,rfl⟩:∃ e,d=e+1:=⟨d - 1,by simp  [V.nr]at aw;omega⟩
  unfold cv at h;simp  [de]at h;split at h
  ·rename_i hu;rw[run_equalIn_bool' w d id x y hu];rfl
  grind
 | int k=>
  intro d _ aw;refine⟨λ{id v u x y} h E L=>?_,λh=>by simp[de]at h⟩;rw[(hO.1 E).1,(hO.1 L).1];obtain⟨d,rfl⟩:∃ e,d=e+1:=⟨d - 1,by simp  [V.nr]at aw;omega⟩
  unfold cv at h;simp  [de]at h;split at h
  ·rename_i hu;rw[run_equalIn_int w d id k _ x y hu];rfl
  grind
 | str=>
  intro d _ aw;refine⟨λ{id v u x y} h E L=>?_,λh=>by simp[de]at h⟩;rw[(k3.1 E).1,(k3.1 L).1];obtain⟨d,rfl⟩:∃ e,d=e+1:=⟨d - 1,by simp  [V.nr]at aw;omega⟩
  unfold cv at h;simp  [de]at h;split at h
  ·rename_i hu;rw[run_equalIn_string w d id _ _ hu,ByteArray.toList_eq];simp  [iJ];grind
  grind
 | dh=>intro d h;cases h
 | slice e _=>intro d h;cases h
 | array n e _=>intro d h;cases h
 | bM e _=>intro d h;cases h
 | map k v _ _=>intro d h;cases h
 | fn a b _ _=>intro d h;cases h
 | cE a _=>intro d h;cases h
 | eW=>intro d h;cases h
 | cN e _=>intro d h;cases h
 | au a b gI fS=>
  intro d hc aw;simp  [V.oJ]at hc;simp  [V.nr]at aw;have PM:=gI d hc.1 (by omega);have rv:=fS d hc.2 (by omega);refine⟨λh=>by unfold cv at h;simp[de]at h,?_⟩;intro l off xs br p c q p' gl q' x y h ao aj tQ a_ Al F2;obtain⟨bE,c2,rfl,aM,aS⟩:=tQ;obtain⟨d1,d2,rfl,m1,m2⟩:=F2;have fx:=jP a aM;have gB:=jP a m1;have step : ∀ (f : Field) (b6 : List Field), f.offset = off -> cv P a f.type -> f.name ≠ "_" ->
    (Op.eqFields d xs br (f::b6)).run P w=if iJ a x.1 y.1=true then (Op.eqFields d xs br b6).run P w else .ok false w:=by
   intro f b6 ar ax aA;obtain⟨v,ck,c8⟩:=tP (cs:=xs) (p:=p)   (q:=c2++q) ax (by grind) aM;obtain⟨u,s1,s2⟩:=tP (cs:=br) (p:=p')   (q:=d2++q') ax (by grind) m1;simp  [Op.eqFields,aA,Sem.run_bind];rw[ar,<-aj,ck,Result.andThen_ok,aj,<-Al,s1,Result.andThen_ok,PM.1 ax c8 s2];cases iJ a x.1 y.1<;>simp
  match l,h with
  | [],h=>simp  [de]at h
  | [f],h=>simp  [de]at h
  | [f,g],h=>
   simp  [de,ne_eq]at h;obtain⟨⟨⟨⟨E,L⟩,ak⟩,aZ⟩,⟨⟨⟨bP,ej⟩,iW⟩,kP⟩⟩:=h;rw[step f [g] E L aZ];obtain⟨v,ck,c8⟩:=tP (cs:=xs) (p:=p++bE)   (q:=q) ej (by grind) aS;obtain⟨u,s1,s2⟩:=tP (cs:=br) (p:=p'++d1)   (q:=q') ej (by grind) m2;have aB:(p++bE).length=g.offset:=by grind
   have bt:(p'++d1).length=g.offset:=by grind
   rw[aB]at ck;rw[bt]at s1;simp  [Op.eqFields,kP,ck,s1,rv.1 ej c8 s2,iJ];cases iJ a x.1 y.1<;>cases iJ b x.2 y.2<;>simp
  | f::g::i::l,h=>
   simp  [de,ne_eq]at h;obtain⟨⟨⟨⟨E,L⟩,ak⟩,aZ⟩,bP⟩:=h;rw[step f _ E L aZ,rv.2 bP (p:=p++bE)   (q:=q) (p':=p'++d1)   (q':=q') (by grind) (by grind) aS (by grind) (by grind) m2];simp  [iJ];grind
 | ad t aO=>
  intro d hc aw;simp  [V.nr]at aw;obtain⟨d,rfl⟩:∃ e,d=e+1:=⟨d - 1,by omega⟩
  refine⟨λ{id v u x y} h E L=>?_,λh=>by simp[de]at h⟩;have i:=aO d hc (by omega);obtain⟨aB,bt,cT,bW⟩:=h.F1;obtain⟨⟨xs,rfl,kh⟩,tQ⟩:=E;obtain⟨⟨br,rfl,l7⟩,F2⟩:=L;simp  [Value.cells]at tQ F2;rw[run_equalIn_struct w d id xs br bW aB];rcases cT with cT | ⟨f,cT,ek,l1,CR⟩ | ⟨rfl,cT⟩
  ·exact i.2 cT (p:=[])   (q:=[]) (p':=[])   (q':=[]) (by simp) rfl tQ (by simp) rfl F2
  ·rw[cT];obtain⟨v,ck,c8⟩:=tP (cs:=xs) (p:=[])   (q:=[]) l1 (by simp) tQ;obtain⟨u,s1,s2⟩:=tP (cs:=br) (p:=[])   (q:=[]) l1 (by simp) F2;simp  at ck s1;simp  [Op.eqFields,CR,ek,ck,s1,i.1 l1 c8 s2,iJ];cases iJ t x y<;>simp
  ·cases hc
variable {k:IntKind}{a:Int}{b:Int}
theorem amW(aW:gQ k a):gQ k (la k a b):=by
 unfold gQ at *
 unfold la;have E:k.min<=0/\0<=k.max:=by cases k<;>decide
 generalize min b.toNat k.bits=n;have aj:(0:Int)<2 ^ n:=Int.pow_pos (by decide);rw[Int.fdiv_eq_ediv_of_nonneg _ (Int.le_of_lt aj)];rcases Int.le_total 0 a with h | h
 ·have L:=Int.ediv_nonneg h (Int.le_of_lt aj);have ak:=Int.ediv_le_self (2 ^ n) h;omega
 ·have L:a / 2 ^ n<=0:=by
   have:=Int.ediv_le_ediv aj h;simp_all
  have ak:a<=a / 2 ^ n:=by
   rw[Int.le_ediv_iff_mul_le aj];have aZ:(1:Int)<=2 ^ n:=by omega
   have:=Int.mul_le_mul_of_nonpos_left   h aZ;omega
  omega
theorem Yv(op:BinOp)(t:TypeId)(x y:Operand)(k k':IntKind)(a b:Int):(eqGuard op t x y (.int k a) (.int k' b)).run P w=.ok () w:=by
 cases op<;>simp[eqGuard]
theorem amX(op:BinOp)(t:TypeId)(x y:Operand)(a b:ByteArray):(eqGuard op t x y (.string a) (.string b)).run P w=.ok () w:=by
 cases op<;>simp[eqGuard]
theorem amY(op:BinOp)(t:TypeId)(x y:Operand)(a b:Bool):(eqGuard op t x y (.bool a) (.bool b)).run P w=.ok () w:=by
 cases op<;>simp[eqGuard]
theorem amZ(op:BinOp)(t:TypeId)(x y:Operand)(a b:Option Addr):(eqGuard op t x y (.pointer a) (.pointer b)).run P w=.ok () w:=by
 cases op<;>simp[eqGuard]
section
variable {P:Program} {H:Nat->b7} {kap:Nat->bI} {F:Nat->Prop} {w:World}
variable {t:TypeId}{v:aL}{c:Prop}{op:BinOp}
theorem am0(h:CK op k a b=some (c,v))(hc:c)(aW:gQ k a) :
  ∃ u,(binOp op t (.int k a) (.int k b)).run P w=.ok u w/\bJ P H kap F w v u:=by
 cases op<;>simp only[CK,reduceCtorEq]at h<;>obtain⟨rfl,rfl⟩:=h<;>simp only[bJ];case add=>exact⟨_,by simp[binOp,Op.intArith],hO.2 ⟨rfl,sE _ _⟩⟩
 case sub=>exact⟨_,by simp[binOp,Op.intArith],hO.2 ⟨rfl,sE _ _⟩⟩
 case mul=>exact⟨_,by simp[binOp,Op.intArith],hO.2 ⟨rfl,sE _ _⟩⟩
 case quo=>exact⟨_,by simp[binOp,Op.intDiv,hc],hO.2 ⟨rfl,sE _ _⟩⟩
 case rem=>exact⟨_,by simp[binOp,Op.intDiv,hc],hO.2 ⟨rfl,amV aW⟩⟩
 case and=>exact⟨.int k (nY k a b),by simp  [binOp,Op.intBits];rfl,hO.2 ⟨rfl,sE _ _⟩⟩
 case or=>exact⟨.int k (Yb k a b),by simp  [binOp,Op.intBits];rfl,hO.2 ⟨rfl,sE _ _⟩⟩
 case xor=>exact⟨.int k (Yc k a b),by simp  [binOp,Op.intBits];rfl,hO.2 ⟨rfl,sE _ _⟩⟩
 case andNot=>exact⟨.int k (Yd k a b),by simp only[binOp,ne_eq,Op.intBits];rfl,hO.2 ⟨rfl,sE _ _⟩⟩
 case eql=>exact⟨.bool (a == b),by simp[binOp,Op.intCmp],gC.2 (congrArg Value.bool (by rfl))⟩
 case neq=>exact⟨.bool (a != b),by simp[binOp,Op.intCmp],gC.2 (congrArg Value.bool (by grind))⟩
 case lss=>exact⟨_,by simp[binOp,Op.intCmp],gC.2 rfl⟩
 case leq=>exact⟨_,by simp[binOp,Op.intCmp],gC.2 rfl⟩
 case gtr=>exact⟨_,by simp[binOp,Op.intCmp],gC.2 rfl⟩
 case geq=>exact⟨_,by simp[binOp,Op.intCmp],gC.2 rfl⟩
theorem Yw{k':IntKind}(h:PE op k a b=some (c,v))(hc:c)(aW:gQ k a) :
  ∃ u,(binOp op t (.int k a) (.int k' b)).run P w=.ok u w/\bJ P H kap F w v u:=by
 cases op<;>simp only[PE,reduceCtorEq]at h<;>obtain⟨rfl,rfl⟩:=h<;>simp  [bJ];case shl=>exact⟨_,by simp[binOp,Op.shift,show ¬b<0 by omega];rfl,hO.2 ⟨rfl,sE _ _⟩⟩
 case shr=>exact⟨_,by simp[binOp,Op.shift,show ¬b<0 by omega];rfl,hO.2 ⟨rfl,amW aW⟩⟩
theorem am1{a b:List UInt8}(h:FN op a b=some (c,v))(hc:c) :
  ∃ u,(binOp op t (.string ⟨a.toArray⟩) (.string ⟨b.toArray⟩)).run P w=.ok u w/\bJ P H kap F w v u:=by
 have e:∀ l,(⟨l.toArray⟩:ByteArray).toList=l:=λl=>by simp
 cases op<;>simp only[FN,reduceCtorEq]at h<;>obtain⟨rfl,rfl⟩:=h<;>simp only[bJ];case add=>
  unfold cb at hc;have ay:((ByteArray.size ⟨a.toArray⟩+ByteArray.size ⟨b.toArray⟩))=(a.length+b.length):=by rfl
  refine⟨.string ⟨(a++b).toArray⟩,?_,k3.2 ⟨rfl,by grind⟩⟩;simp  [binOp,Op.stringOp];rw[if_neg]
  ·rfl
  ·have:IntKind.i64.max=9223372036854775807:=by decide
   omega
 case eql=>exact⟨_,by rfl,gC.2 (by grind)⟩
 case neq=>exact⟨_,by rfl,gC.2 (by grind)⟩
 case lss=>exact⟨_,by simp only[binOp,Op.stringOp,e];rfl,gC.2 rfl⟩
 case geq=>exact⟨_,by simp only[binOp,Op.stringOp,e];rfl,gC.2 rfl⟩
end
end Go.Fer
namespace Go.Fer
open Go.RowKit
def ed(P:Program)(T:Nat->V):Prop:=∀ id,T id=.dh\/cv P (T id) id
theorem ed.cB{P:Program}{T:Nat->V}(h:ed P T){id:Nat}{t:V}(e:T id=t)(aG:t≠.dh):cv P t id:=by
 rcases h id with h | h<;>grind
theorem tR{d:Option Nat}{k:Nat->Nat->Option eA}{H:Nat->b7}{res:eA}(h:(n1 d k).run H=some res) :
  ∃ b,d=some b/\k b ((H b).gen+1)=some res:=by
 unfold n1 at h;cases d with
 | none=>cases h
 | some b=>
  simp_all
variable {w:World}
theorem bw.am2{C:cF}{s:aC}{a:Act}{kap:Nat->bI}{F:Nat->Prop}(h:bw C s a w kap F){b g:Nat}{e:V}(aD:(s.aa b).gen<g) :
  bw C (s.cn b ⟨g,.bl e []⟩) a w (λi=>if i=b then ⟨0,0,0,true⟩ else kap i) F:=by
 have ah:fL s.aa kap (λi=>if i=b then ⟨g,.bl e []⟩ else s.aa i) (λi=>if i=b then ⟨0,0,0,true⟩ else kap i):=CE aD λbf eg=>by grind
 refine h.move   ah (λ_ D=>D) (λ_ D=>.inl D) (amo _) (λ_ _ _=>rfl) (dM.refl _) (λ_=>?_) ?_ ?_ h.dr (CF (.inr ⟨rfl,rfl⟩) λbf eg=>by grind)
 ·intro i;by_cases G:i=b
  ·subst G;simp  [c7];exact⟨λ_=>rfl,λaA=>by grind⟩
  ·exact c7.k6 (h.bC i) ah (λ_ D=>D) (di.refl _ _) (by grind) (by grind) λ_=>rfl
 ·intro i G;by_cases bg:i=b
  ·subst bg;simp[b8.cd]at G
  ·simp  [if_neg bg]at G ⊢;exact⟨(h.own i G).1,(h.own i G).2.1,.inl ⟨i,G,rfl⟩⟩
 ·intro i j G aJ aY;by_cases bg:i=b
  ·subst bg;simp[b8.cd]at G
  ·by_cases oI:j=b
   ·subst oI;simp[b8.cd]at aJ
   ·simp  [if_neg bg,if_neg oI]at G aJ aY;exact h.inj i j G aJ aY
section
variable {C:cF} {T:Nat->V} {bs:Nat->Option aN} {o:Oper} {s:aC} {res:eA}
variable {x:Operand}
theorem am3(bh:∀ i,o.dst=some i->i<C.bV)(ar:o.op=.move x)(h:(cP C.aU T bs (be C.aU s.az) o).run s.aa=some res):cR C o s res:=by
 simp  [cP,ar,da,amk]at h;subst h;exact cR.pure (by grind) bh λa w kap F D _ _=>⟨_,by simp[execOp,ar],lD D x⟩
theorem am4(bh:∀ i,o.dst=some i->i<C.bV)(ar:o.op=.assign x)(h:(cP C.aU T bs (be C.aU s.az) o).run s.aa=some res):cR C o s res:=by
 simp  [cP,ar]at h;split at h
 ·rename_i e ao aG;obtain⟨b,aw,an⟩:=tR h;simp  at an;subst an;intro a w kap F Q D _ _;refine h8 (w':=w) (v:=a.eval x) (by grind) (by simp[execOp,ar]) ?_;have L:=D.am2 (b:=b) (e:=e) (aQl _);have ae:=lD D x;rw[ao]at ae;simp  [bJ]at ae;refine⟨_,_,bw.set L bh ⟨⟨?_,by rw[ae];rfl⟩,λ_ _=>?_⟩⟩
  ·simp[aC.cn]
  ·simp[ae,bI.slice]
 ·simp  [da,amk]at h;subst h;exact cR.pure (by grind) bh λa w kap F D _ _=>⟨_,by simp[execOp,ar],lD D x⟩
theorem db{a:Act}{kap:Nat->bI}{F:Nat->Prop}(D:bw C s a w kap F)(x:Operand){p:Prop}{av:aL}(hu:use (be C.aU s.az x)=(p,av))(aj:p):bJ C.P s.aa kap F w av (a.eval x):=by
 have:=qN (lD D x) (by grind);grind
theorem am5{c y:Operand}(bh:∀ i,o.dst=some i->i<C.bV)(ar:o.op=.pick c x y)(h:(cP C.aU T bs (be C.aU s.az) o).run s.aa=some res):cR C o s res:=by
 simp  [cP,ar]at h;split at h
 ·rename_i vd lC hc;split at h
  ·split at h
   ·rename_i Ys av aW;simp  [da,amk]at h;subst h;refine cR.pure (by grind) bh λa w kap F D ba _=>?_;have E:=gC.1 (db D c hc ba.1);cases lC with
    | false=>
     have bL:a.eval (.const (.bool false))=.bool false:=rfl;exact⟨.bool false,by simp[execOp,ar,E,asBool,bL],gC.2 rfl⟩
    | true=>
     have L:=gC.1 (db D x aW (ba.2 rfl));exact⟨.bool av,by simp[execOp,ar,E,asBool,L],gC.2 rfl⟩
   ·cases h
  ·split at h
   ·rename_i cy bv U;simp  [da,amk]at h;subst h;refine cR.pure (by grind) bh λa w kap F D ba _=>?_;have E:=gC.1 (db D c hc ba.1);cases lC with
    | true=>
     have bL:a.eval (.const (.bool true))=.bool true:=rfl;exact⟨.bool true,by simp[execOp,ar,E,asBool,bL],gC.2 rfl⟩
    | false=>
     have L:=gC.1 (db D y U (ba.2 rfl));exact⟨.bool bv,by simp[execOp,ar,E,asBool,L],gC.2 rfl⟩
   ·cases h
  ·cases h
 ·cases h
theorem am6{op:UnOp}{ty:TypeId}(bh:∀ i,o.dst=some i->i<C.bV)(ar:o.op=.unOp op ty x)(h:(cP C.aU T bs (be C.aU s.az) o).run s.aa=some res):cR C o s res:=by
 simp only[cP,ar]at h;split at h
 ·rename_i cz b ao;simp  [da,amk]at h;subst h;refine cR.pure (by grind) bh λa w kap F D ba _=>?_;have E:=gC.1 (db D x ao ba);exact⟨.bool (!b),by simp[execOp,ar,E,Op.unary],gC.2 rfl⟩
 ·rename_i cz k n ao;simp only[da,aE.dy,amk]at h;subst h;refine cR.pure (by grind) bh λa w kap F D ba _=>?_;have E:=hO.1 (db D x ao ba);exact⟨.int k (k.wrap (0 - n)),by simp[execOp,ar,E.1,Op.unary,Op.intArith],hO.2 ⟨rfl,sE _ _⟩⟩
 ·cases h
theorem am7{i:Nat}(bh:∀ i,o.dst=some i->i<C.bV)(ar:o.op=.extract x i)(h:(cP C.aU T bs (be C.aU s.az) o).run s.aa=some res):cR C o s res:=by
 simp  [cP,ar]at h;split at h
 ·rename_i cz n f ao;split at h
  ·simp  [da,amk]at h;subst h;refine cR.pure (by grind) bh λa w kap F D ba _=>?_;obtain⟨aH,E,L,ak⟩:=db D x ao ba;have dR:i<aH.length:=by omega
   refine⟨aH[i],by simp[execOp,ar,E,Instr.extract,dR],?_⟩;grind
  ·cases h
 ·cases h
theorem am8(bh:∀ i,o.dst=some i->i<C.bV)(ar:o.op=.nilCheck x)(h:(cP C.aU T bs (be C.aU s.az) o).run s.aa=some res):cR C o s res:=by
 simp only[cP,ar]at h;split at h
 ·rename_i cz b g i ao;simp only[aE.gU,aE.dy]at h;split at h
  ·rename_i bA;simp  at bA;simp  at h;subst h;refine cR.pure (by grind) bh λa w kap F D ba _=>?_;have E:=db D x ao ba;have L:=E.2 bA.1.symm bA.2;exact⟨_,by simp[execOp,ar,L.2.2],⟨E.1.1,rfl⟩,λ_ _=>⟨L.1,L.2.1,rfl⟩⟩
  grind
 ·rename_i cz t d ao;simp  [da,amk]at h;subst h;refine cR.pure (by grind) bh λa w kap F D ba _=>?_;obtain⟨p,bB,E,L⟩:=db D x ao ba;exact⟨_,by simp[execOp,ar,E],p,bB,rfl,L⟩
 ·rename_i cz e p ao;simp  [da,amk]at h;subst h;refine cR.pure (by grind) bh λa w kap F D ba hc=>?_;have E:=(eb rfl).1 (db D x ao ba);obtain⟨_,E⟩:=E;rcases E with⟨_,rfl⟩ | ⟨q,y,bB,bq,rfl,aM,aS⟩
  ·grind
  ·simp  at bq;exact⟨_,by simp[execOp,ar,bq],q,bB,rfl,aM,aS⟩
 ·rename_i cz b g off ao;simp only[aE.gU,aE.dy]at h;split at h
  ·rename_i bA;simp  at bA;simp  at h;subst h;refine cR.pure (by grind) bh λa w kap F D ba _=>?_;have E:=db D x ao ba;have L:=E.2 bA.1.symm bA.2;exact⟨_,by simp[execOp,ar,L],⟨E.1.1,rfl⟩,λ_ _=>rfl⟩
  grind
 ·cases h
theorem tS(b off n:Nat):(⟨b,off,none⟩:Addr).add n=⟨b,off+n,none⟩:=by
 unfold Addr.add;simp
variable {f:Nat}
theorem J8{P:Program}{t s:V}{id Ai b off:Nat}(h:cv P (.ad t) id)(ax:p5 t f=some (s,Ai)) :
  (Instr.fieldAt id (.pointer (some ⟨b,off,none⟩)) f).run P w=.ok (.pointer (some ⟨b,off+Ai,none⟩)) w:=by
 obtain⟨f_,p8,E,L,ak,aZ,bP⟩:=h.field ax;simp  [Instr.fieldAt,en E,L,Instr.sureAddr,fieldPlace,aZ.size,bP,ak,tS]
theorem am9(aT:ed C.P T){ty:Nat}(bh:∀ i,o.dst=some i->i<C.bV)(ar:o.op=.fieldAddr ty x f)(h:(cP C.aU T bs (be C.aU s.az) o).run s.aa=some res):cR C o s res:=by
 simp only[cP,ar]at h;split at h
 ·rename_i t aG;have dC:=aT.cB aG (by simp);split at h
  ·rename_i s' Ai ax;split at h
   ·rename_i cz b g off ao;simp only[aE.gU,aE.dy]at h;split at h
    ·rename_i bA;simp  at bA;simp  at h;subst h;refine cR.pure (by grind) bh λa w kap F D ba _=>?_;have E:=db D x ao ba;have L:=E.2 bA.1.symm bA.2;exact⟨_,by simp[execOp,ar,L,J8 dC ax],⟨E.1.1,rfl⟩,λ_ _=>rfl⟩
    grind
   ·rename_i cz b g i off ao;simp only[aE.gU,aE.dy]at h;split at h
    ·rename_i bA;simp  at bA;simp  at h;subst h;refine cR.pure (by grind) bh λa w kap F D ba _=>?_;have E:=db D x ao ba;obtain⟨L,ak,aZ⟩:=E.2 bA.1.symm bA.2;exact⟨_,by simp[execOp,ar,aZ,J8 dC ax];rfl,⟨E.1.1,rfl⟩,λ_ _=>⟨L,ak,by grind⟩⟩
    grind
   ·rename_i cz b g i ao;simp only[aE.gU,aE.dy]at h;split at h
    ·rename_i bA;simp  at bA;simp  at h;subst h;refine cR.pure (by grind) bh λa w kap F D ba _=>?_;have E:=db D x ao ba;obtain⟨L,ak,aZ⟩:=E.2 bA.1.1.symm bA.1.2;exact⟨_,by simp[execOp,ar,aZ,J8 dC ax];rfl,⟨E.1.1,rfl⟩,λ_ _=>⟨L,ak,by grind⟩⟩
    grind
   ·rename_i cz dN d ao;split at h
    ·rename_i CS;subst CS;split at h
     ·rename_i s2 y a_;simp  [da,amk]at h;subst h;refine cR.pure (by grind) bh λa w kap F D ba _=>?_;obtain⟨p,bB,E,L,ak⟩:=db D x ao ba;obtain⟨bE,c2,c3,rfl,aM,aS⟩:=Yh dN ak a_;rw[ax]at aS;cases aS;have aj:p=⟨p.block,p.off,none⟩:=by have:=L.2.1;cases p;grind
      rw[aj]at E;refine⟨_,by simp[execOp,ar,E,J8 dC ax],⟨p.block,p.off+bE.length,none⟩,c2,rfl,⟨L.1,rfl,λj aJ=>?_⟩,aM⟩;have:=L.2.2 (bE.length+j) (by grind);grind
     ·cases h
    ·cases h
   ·cases h
  ·cases h
 ·cases h
theorem am_(aT:ed C.P T){ty:Nat}(bh:∀ i,o.dst=some i->i<C.bV)(ar:o.op=.field ty x f)(h:(cP C.aU T bs (be C.aU s.az) o).run s.aa=some res):cR C o s res:=by
 simp  [cP,ar]at h;split at h
 ·rename_i t aG;have dC:=aT.cB aG (by simp);split at h
  ·rename_i cz dN d ao;split at h
   ·rename_i CS;subst CS;split at h
    ·rename_i s2 y a_;simp  [da,amk]at h;subst h;refine cR.pure (by grind) bh λa w kap F D ba _=>?_;obtain⟨⟨cs,E,L⟩,ak⟩:=db D x ao ba;rw[E]at ak;simp  [Value.cells]at ak;obtain⟨bE,c2,c3,e,aM,aS⟩:=Yh dN ak a_;obtain⟨f_,p8,f1,f2,f3,f4,f5⟩:=dC.field aS;obtain⟨v,ck,c8⟩:=tP   f4 e aM;refine⟨v,?_,c8⟩;simp[execOp,ar,E,Instr.field,en f1,f2,asAgg,f3,ck]
    ·cases h
   ·cases h
  ·cases h
 ·cases h
end
end Go.Fer
namespace Go.Fer
open Go.RowKit
variable {P:Program}
theorem cv.bM{e:V}{id:TypeId}(h:cv P (.bM e) id):∃ i,P.underlying id=some (.pointer i)/\True:=by
 unfold cv at h;simp  [de]at h;obtain⟨_,h⟩:=h;split at h
 ·rename_i i G;exact⟨i,G,trivial⟩
 grind
variable {l:List Nat}
theorem Yx{k:IntKind}{av:aL}{H:Nat->b7}{x:Int}(h:(eh (.int k) av).run H=some (x,l)):av.n0.isSome=true:=by
 cases av with
 | val dN y=>
  simp  [eh,aPD]at h;obtain⟨z,bA,_⟩:=h;obtain⟨rfl,_⟩:=mN bA;rfl
 | k4 v=>simp[eh,l4,V.fY,eK,FK]at h
 | _=>simp[eh,l4,V.fY,eK,aE.none]at h
theorem Yy{av:aL}{H:Nat->b7}{x:List UInt8}(h:(eh .str av).run H=some (x,l)):av.wU.isSome=true:=by
 cases av with
 | val dN y=>
  simp  [eh,aPD]at h;obtain⟨z,bA,_⟩:=h;obtain⟨rfl,_⟩:=mN bA;rfl
 | k4 v=>simp[eh,l4,V.fY,eK,FK]at h
 | _=>simp[eh,l4,V.fY,eK,aE.none]at h
variable {w:World}{ty:TypeId}
theorem J9{i:TypeId}(G:P.underlying ty=some (.pointer i))(a:Option Addr)(d:Nat):(Op.equalIn (d+1) ty (.pointer a) (.pointer none)).run P w=.ok a.isNone w:=by
 cases a<;>simp[Op.equalIn,en G]
inductive F3:Value->Value->Prop where
 | bool (a b:Bool):F3 (.bool a) (.bool b)
 | agg (a b:Array Value):F3 (.agg a) (.agg b)
 | bM (a b:Option Addr):F3 (.pointer a) (.pointer b)
variable {x:Operand}{y:Operand}
theorem am'{u ns:Value}{e:Bool}(aj:F3 u ns)(h:(Op.equalIn 10000 ty u ns).run P w=.ok e w)
  (aD:∀ a b,u=.agg a->ns=.agg b->P.eqGuardType P.depth ty=false) :
  (do eqGuard .eql ty x y u ns;binOp .eql ty u ns:Sem Value).run P w=.ok (.bool e) w/\(do eqGuard .neq ty x y u ns;binOp .neq ty u ns:Sem Value).run P w=.ok (.bool (!e)) w:=by
 cases aj with
 | bool a b=>constructor<;>simp[amY,binOp,Op.equal,Op.maxDepth,h]
 | agg a b=>constructor<;>simp[run_eqGuard_agg _ _ _ _ _ _ _ (aD a b rfl rfl),binOp,Op.equal,Op.maxDepth,h]
 | bM a b=>constructor<;>simp[amZ,binOp,Op.equal,Op.maxDepth,h]
section
variable {C:cF} {T:Nat->V} {bs:Nat->Option aN} {o:Oper} {s:aC} {res:eA}
variable {a:Act}{kap:Nat->bI}{F:Nat->Prop}{v:Value}
theorem F4(D:bw C s a w kap F){t:V}{av:aL}{x:t.al}(h:(eh t av).run s.aa=some (x,l))(ae:bJ C.P s.aa kap F w av v) :
  fo C.P t (λ_=>True) w v x:=oK D.bC (λ_ _=>trivial) h (λ_ _ _=>trivial) ae
theorem ana{op:BinOp}{e9 kv:aL}{c:Prop}{v:aL}(aT:ed C.P T)(D:bw C s a w kap F)
  (h:(FO op (T ty) e9 kv).run s.aa=some (c,v)) {u ns:Value} (ao:bJ C.P s.aa kap F w e9 u) (a_:bJ C.P s.aa kap F w kv ns) (anb:¬(e9.n0.isSome=true/\kv.n0.isSome=true)) (anc:¬(e9.wU.isSome=true/\kv.wU.isSome=true)) :
  ∃ r,(do eqGuard op ty x y u ns;binOp op ty u ns:Sem Value).run C.P w=.ok r w/\bJ C.P s.aa kap F w v r:=by
 unfold FO at h;rw[aE.fZ]at h;simp only[amj]at h;obtain⟨e,he,ae⟩:=h;simp  at ae;have key:F3 u ns/\(Op.equalIn 10000 ty u ns).run C.P w=.ok e w/\(∀ a b,u=.agg a->ns=.agg b->C.P.eqGuardType C.P.depth ty=false):=by
  split at he
  ·rename_i aY p bt aG;obtain⟨i,G,_⟩:=(aT.cB aG (by simp)).bM;subst a_;simp  at he;subst he;obtain⟨_,p_⟩:=(eb rfl).1 ao;rcases p_ with⟨p_,rfl⟩ | ⟨q,z,bB,p_,rfl,_⟩
   ·obtain rfl:=(aPM p_).1;exact⟨.bM _ _,J9 G none 9999,λ_ _ h=>by simp⟩
   ·obtain rfl:=(aPM p_).1;exact⟨.bM _ _,J9 G (some q) 9999,λ_ _ h=>by simp⟩
  ·rename_i aY bU qP aG;obtain⟨i,G,_⟩:=(aT.cB aG (by simp)).bM;subst a_;simp  at he;subst he;obtain⟨q,bB,rfl,_⟩:=ao;exact⟨.bM _ _,J9 G (some q) 9999,λ_ _ h=>by simp⟩
  ·rename_i aY b g off aG;obtain⟨i,G,_⟩:=(aT.cB aG (by simp)).bM;subst a_;simp only[aE.gU,aE.dy]at he;split at he
   ·rename_i bA;simp  at bA;simp  at he;subst he;have:=ao.2 bA.1.symm bA.2;subst this;exact⟨.bM _ _,J9 G (some _) 9999,λ_ _ h=>by simp⟩
   grind
  ·split at he
   ·rename_i ky;simp  at ky;simp only[aE.fZ,amj,aE.dy,amk]at he;obtain⟨⟨mw,fx⟩,E,⟨nt,gB⟩,L,rfl⟩:=he;have ck:=F4 D E ao;have c8:=F4 D L a_;generalize ph:T ty=t at *
    cases t with
    | bool=>
     have dC:=aT.cB ph (by simp);refine⟨?_,(PL .bool 10000 rfl (by decide)).1 dC ck c8,?_⟩
     ·rw[gC.1 ck,gC.1 c8];exact .bool _ _
     simp_all
    | int k=>exact (anb ⟨Yx E,Yx L⟩).elim
    | str=>exact (anc ⟨Yy E,Yy L⟩).elim
    | ad t=>
     have dC:=aT.cB ph (by simp);refine⟨?_,(PL (.ad t) 10000 ky.1 (by omega)).1 dC ck c8,λ_ _ _ _=>dC.F1.2.1⟩;obtain⟨⟨_,rfl,_⟩,_⟩:=ck;obtain⟨⟨_,rfl,_⟩,_⟩:=c8;exact .agg _ _
    | au t1 bU=>have:=aT.cB ph (by simp);unfold cv at this;simp  [de]at this
    | dh=>cases ky.1
    | slice _=>cases ky.1
    | array _ _=>cases ky.1
    | bM _=>cases ky.1
    | map _ _=>cases ky.1
    | fn _ _=>cases ky.1
    | cE _=>cases ky.1
    | eW=>cases ky.1
    | cN _=>cases ky.1
   ·cases he
 obtain⟨aM,aS,b4⟩:=key;have:=am' (x:=x) (y:=y) aM aS b4;cases op<;>simp only[reduceCtorEq,aPD]at ae;case eql=>obtain⟨rfl,rfl⟩:=ae;exact⟨_,this.1,gC.2 rfl⟩
 case neq=>obtain⟨rfl,rfl⟩:=ae;exact⟨_,this.2,gC.2 rfl⟩
theorem ane(aT:ed C.P T){op:BinOp}{mQ:TypeId}(bh:∀ i,o.dst=some i->i<C.bV)(ar:o.op=.binOp op ty x y mQ)(h:(cP C.aU T bs (be C.aU s.az) o).run s.aa=some res):cR C o s res:=by
 simp  [cP,ar]at h;have qa:∀ c,o.op≠.defer c:=by grind
 have pj:∀ (a:Act) (w:World) (r:Value),(do eqGuard op ty x y (a.eval x) (a.eval y);binOp op ty (a.eval x) (a.eval y)).run C.P w=.ok r w->(execOp a.eval o).run C.P w=.ok (.value r) w:=by
  intro a w r D;simp only[execOp,ar,Sem.run_bind]at D ⊢;simp_all
 split at h
 ·rename_i k m k' n ao a_;have fin:∀ (c:Prop) (v:aL),(∀ (w:World) kap F,c->gQ k m->∃ r,(binOp op ty (.int k m) (.int k' n)).run C.P w=.ok r w/\bJ C.P s.aa kap F w v r)->
    res=⟨(use (be C.aU s.az x)).1/\(use (be C.aU s.az y)).1,c,v,[]⟩->cR C o s res:=by
   intro c v an gW;subst gW;refine cR.pure qa bh λa w kap F D ba hc=>?_;have E:=p9 (db D x rfl ba.1) ao;have L:=p9 (db D y rfl ba.2) a_;obtain⟨r,ck,c8⟩:=an w kap F hc E.2;exact⟨r,pj a w r (by simp[E.1,L.1,Yv,ck]),c8⟩
  split at h
  ·split at h
   ·rename_i c v ay;simp  [da,amk]at h;exact fin c v (λw kap F hc aW=>Yw ay hc aW) h.symm
   ·cases h
  ·split at h
   ·rename_i c v ay;simp  [da,amk]at h;exact fin c v (λw kap F hc aW=>Yw ay hc aW) h.symm
   ·cases h
  ·split at h
   ·rename_i F5;subst F5;split at h
    ·rename_i c v ay;simp  [da,amk]at h;exact fin c v (λw kap F hc aW=>am0 ay hc aW) h.symm
    ·cases h
   ·cases h
 ·split at h
  ·rename_i m n ao a_;split at h
   ·rename_i c v ay;simp  [da,amk]at h;subst h;refine cR.pure qa bh λa w kap F D ba hc=>?_;have E:=PK (db D x rfl ba.1) ao;have L:=PK (db D y rfl ba.2) a_;obtain⟨r,ck,c8⟩:=am1           (t:=ty) ay hc;exact⟨r,pj a w r (by simp[E.1,L.1,amX,ck]),c8⟩
   ·cases h
  ·simp only[da,aE.fZ,amj,aE.dy,amk]at h;obtain⟨⟨c,v⟩,ay,rfl⟩:=h;refine cR.pure qa bh λa w kap F D ba hc=>?_;obtain⟨r,ck,c8⟩:=ana (x:=x) (y:=y) aT D ay (db D x rfl ba.1) (db D y rfl ba.2)
    (λ⟨aB,bt⟩=>by
     obtain⟨⟨k,m⟩,aB⟩:=Option.isSome_iff_exists.1 aB;obtain⟨⟨k',dp⟩,bt⟩:=Option.isSome_iff_exists.1 bt;grind)
    (λ⟨aB,bt⟩=>by
     obtain⟨m,aB⟩:=Option.isSome_iff_exists.1 aB;obtain⟨dp,bt⟩:=Option.isSome_iff_exists.1 bt;grind)
   grind
theorem Am{b:Nat}{cs:Array Value}{T:TypeId}{fN:z24'}(h:w.heap[b]?=some (.cells cs T fN))(off:Nat):w.cell? ⟨b,off,none⟩=cs[off]?:=by
 simp[World.cell?,h]
theorem Yz{t:V}{id:TypeId}(h:cv P t id)(ah:t.isAgg=false){p:Addr}(ae:w.cell? p=some v):(loadVar id p).run P w=.ok v w:=by
 simp[loadVar,CP h,ah,ae]
theorem YA(aT:ed C.P T){e9 v:aL}{u:Value}(D:bw C s a w kap F)(h:(CL (T ty) e9).run s.aa=some v)(ao:bJ C.P s.aa kap F w e9 u) :
  ∃ r,(Instr.loadAt ty u).run C.P w=.ok r w/\bJ C.P s.aa kap F w v r:=by
 generalize ph:T ty=t at *
 cases e9 with
 | eL dN d=>
  simp only[CL,aE.dy]at h;split at h
  ·rename_i hc;obtain⟨rfl,hc⟩:=hc;simp  at h;subst h;obtain⟨p,bB,rfl,L,ak⟩:=ao;have dC:=aT.cB ph (by intro e;subst e;cases hc);obtain⟨r,ck,c8⟩:=J7 dC L.PJ ak;exact⟨r,by simp[Instr.loadAt,Instr.sureAddr,ck],c8⟩
  grind
 | eY b g off=>
  simp only[CL,aE.gU,aE.dy]at h;split at h
  ·rename_i aD;split at h
   ·rename_i t0 f ch;have ae:=ao.2 aD.symm (by rw[ch];rfl);subst ae;have aX:=D.bC b;unfold c7 at aX;rw[ch]at aX;obtain⟨cs,h9,bE,c2,c3⟩:=aX;split at h
    ·rename_i ah;split at h
     ·rename_i PN;simp  at h;subst h;have dC:=aT.cB ph (by intro e;subst e;cases ah);have PO:t.isAgg=false:=by cases t<;>simp_all[V.fY,V.isAgg]
      refine⟨cs.getD off Go.undef,?_,(c3 off PN).1⟩;refine Yz dC PO ?_;rw[Am bE];simp_all
     grind
    ·split at h
     ·rename_i YB;split at h
      ·simp  at h;subst h;have dC:=aT.cB ph (by intro e;subst e;cases YB);let aH:=(List.range t.size).map λj=>cs.getD (off+j) Go.undef;refine⟨.agg aH.toArray,?_,aH,rfl,by grind,λi G=>?_⟩
       ·simp  [Instr.loadAt,Instr.sureAddr,loadVar,CP dC,YB,dC.size];rw[run_loadCells w ⟨(kap b).aa,off,none⟩ t.size (λj=>cs.getD (off+j) Go.undef)]
        ·rfl
        ·intro j aJ;rw[tS,Am bE];simp[c2,show off+j<t0.size by omega]
       grind
      grind
     grind
   ·rename_i t0 y ch;have ae:=ao.2 aD.symm (by rw[ch];rfl);subst ae;have aX:=D.bC b;unfold c7 at aX;rw[ch]at aX;obtain⟨bB,d1,d2⟩:=aX;split at h
    ·rename_i hc;simp  at h;obtain⟨z,bA,rfl⟩:=h;obtain⟨bE,c2,c3,rfl,cO,cJ⟩:=Yi t0 d2 bA;have dC:=aT.cB ph (by intro e;subst e;cases hc);have df:mP w ⟨(kap b).aa,off,none⟩ c2:=by
      refine⟨λ_=>rfl,λj aJ=>?_⟩;have:=d1.2.2 (bE.length+j) (by grind);grind
     obtain⟨r,ck,c8⟩:=J7 dC df cJ;exact⟨r,by simp[Instr.loadAt,Instr.sureAddr,ck],c8⟩
    grind
   grind
  grind
 | qJ b g i off=>
  simp only[CL,aE.gU,aE.dy]at h;split at h
  ·rename_i aD;have fin:∀ (e:V) (xs:List e.al),(s.aa b).body.gS=true->(s.aa b).body.len=xs.length->(s.aa b).body.gJ=e.size->
     (∀ (G:i<xs.length),(kap b).fT=false->∃ bB,mP w ⟨(kap b).aa,(kap b).off+i*e.size,none⟩ bB/\cp C.P e F w bB xs[i])->
     (if t.fY||t.isAgg then (vb e (xs.getD i e.dU) off t).map (.val t) else none)=some v->∃ r,(Instr.loadAt ty u).run C.P w=.ok r w/\bJ C.P s.aa kap F w v r:=by
    intro e xs aW hlen J_ hR ae;split at ae
    ·rename_i hc;simp only[aP3]at ae;obtain⟨z,bA,rfl⟩:=ae;obtain⟨aM,aS,b4⟩:=ao.2 aD.symm aW;subst b4;rw[hlen]at aM;obtain⟨bB,d1,d2⟩:=hR aM aS;have PQ:xs.getD i e.dU=xs[i]:=by grind
     rw[PQ]at bA;obtain⟨bE,c2,c3,rfl,cO,cJ⟩:=Yi e d2 bA;have dC:=aT.cB ph (by intro e;subst e;cases hc);have df:mP w ⟨(kap b).aa,(kap b).off+i*(s.aa b).body.gJ+off,none⟩ c2:=by
      refine⟨λ_=>rfl,λj aJ=>?_⟩;have:=d1.2 (bE.length+j) (by grind);grind
     obtain⟨r,ck,c8⟩:=J7 dC df cJ;exact⟨r,by simp[Instr.loadAt,Instr.sureAddr,ck],c8⟩
    grind
   have aX:=D.bC b;unfold c7 at aX;split at h
   ·rename_i e xs ch;rw[ch]at aX;refine fin e xs (by rw[ch];rfl) (by rw[ch];rfl) (by rw[ch];rfl) (λG aA=>?_) h;obtain⟨cs,h9,bE,c2,c3,c4,c5⟩:=aX.2 aA;obtain⟨bB,d1,d2⟩:=c5 i G;exact⟨bB,⟨λ_=>rfl,λj aJ=>by rw[Am bE];grind⟩,d2⟩
   ·rename_i e xs ch;rw[ch]at aX;refine fin e xs (by rw[ch];rfl) (by rw[ch];rfl) (by rw[ch];rfl) (λG aA=>?_) h;simp  [mu,bI.slice,aA,aPA]at aX;obtain⟨a',cap,aB,m1,m2,m3,m4⟩:=aX;obtain⟨rfl,_,rfl⟩:=aB;obtain⟨eB,eC,lf⟩:=m4 _ rfl (by omega);obtain⟨bB,d1,d2⟩:=lf i G;exact⟨bB,d1.PJ,d2⟩
   grind
  grind
 | _=>cases h
end
end Go.Fer
namespace Go.Fer
open Go.RowKit
section
variable {C:cF} {T:Nat->V} {bs:Nat->Option aN} {o:Oper} {s:aC} {res:eA}
theorem anf(aT:ed C.P T){ty:TypeId}{x:Operand}(bh:∀ i,o.dst=some i->i<C.bV)(ar:o.op=.load ty x)(h:(cP C.aU T bs (be C.aU s.az) o).run s.aa=some res):cR C o s res:=by
 simp  [cP,ar]at h;split at h
 ·rename_i cz b g i ao;simp  [Yr,aE.dy]at h;split at h
  ·rename_i e xs n2 v ch;split at h
   ·rename_i hc;obtain⟨aD,ah⟩:=hc;simp  at h;subst h;refine cR.pure (by grind) bh λa w kap F D ba G=>?_;subst G;have E:=(db D x ao ba).2 aD.symm (by rw[ch];rfl);have aX:=D.bC b;unfold c7 at aX;rw[ch]at aX E;obtain⟨_,cs,h9,bE,c2,c3,c4,c5,pk,rC,yo⟩:=aX;have dC:=aT.cB   rfl (by intro e;rw[e]at ah;cases ah);have PO:(T ty).isAgg=false:=by cases aG:T ty<;>simp_all[V.fY,V.isAgg]
    refine⟨_,?_,rC⟩;have oM:w.cell? ⟨(kap b).aa,(kap b).off+i,none⟩=some (cs.getD ((kap b).off+i) Go.undef):=by
     rw[Am bE];have:(kap b).off+i<cs.size:=by
      grind
     simp_all
    have aj:a.eval x=.pointer (some ⟨(kap b).aa,(kap b).off+i,none⟩):=by rw[E.2.2];simp[b8.gJ,c5.1]
    simp[execOp,ar,aj,Instr.loadAt,Instr.sureAddr,Yz dC PO oM]
   grind
  grind
 ·rename_i cz e9 _ ao;simp  [da,aE.fZ,amj,amk]at h;obtain⟨v,ae,rfl⟩:=h;refine cR.pure (by grind) bh λa w kap F D ba _=>?_;obtain⟨r,ck,c8⟩:=YA aT D ae (db D x ao ba);exact⟨r,by simp[execOp,ar,ck],c8⟩
variable {P:Program}{id:TypeId}
theorem cv.str(h:cv P .str id):P.underlying id=some .string:=by
 unfold cv at h;simp  [de]at h;grind
theorem cv.int{P:Program}{k:IntKind}{id:TypeId}(h:cv P (.int k) id):P.underlying id=some (.int k):=by
 unfold cv at h;simp  [de]at h;grind
theorem cv.YC{t:V}(h:cv P t id):Py P t id:=λn s an=>by
 subst an;unfold cv at h;simp only[de,amn,Yk]at h;have h:=h.1.1.1.2;split at h
 ·rename_i i hu;rw[hu,eq_of_beq h]
 ·cases h
variable {e:V}
theorem cv.J'(h:cv P e id):wP P e id:=λk an=>by
 subst an;obtain⟨i,z,E,L,_⟩:=nq h.np;exact⟨h.int,by simp[Program.cellsOf,E,L,V.size]⟩
variable {n:Nat}
theorem cv.bl(h:cv P (.array n e) id):∃ i,P.underlying id=some (.array n i)/\cv P e i/\e.size≠0:=by
 unfold cv at h;simp  [de]at h;obtain⟨_,h⟩:=h;split at h
 ·rename_i m i hu;simp  at h;obtain⟨⟨rfl,L⟩,ak⟩:=h;exact⟨i,hu,L,ak⟩
 grind
theorem ang{gR:List (List Value)}{m:Nat}(h:∀ c∈gR,c.length=m){i:Nat}(G:i<gR.length):∃ p q,gR.flatten=p++(gR[i]++q)/\p.length=i*m:=by
 refine⟨(gR.take i).flatten,(gR.drop (i+1)).flatten,?_,?_⟩
 ·rw[<-aRc,<-aPE G,<-List.flatten_append,aQL]
 ·have aZ:(gR.take i).map List.length=List.replicate i m:=List.eq_replicate_iff.2 ⟨by grind,λx ao=>by
   grind⟩
  simp_all
variable {F:Nat->Prop}{w:World}
theorem PR{cs:List Value}{xs:List e.al}(h:cp P (.array n e) F w cs xs){i:Nat}(G:i<n):∃ p c q,cs=p++(c++q)/\p.length=i*e.size/\cp P e F w c (xs.getD i e.dU):=by
 obtain⟨gR,rfl,E,L,ak⟩:=h;obtain⟨p,q,aM,aS⟩:=ang   (λc hc=>by
  obtain⟨j,aJ,rfl⟩:=List.mem_iff_getElem.1 hc;exact jP e (ak j (by omega) aJ)) (show i<gR.length by omega)
 grind
theorem anh(aT:ed C.P T){ty:TypeId}{x i:Operand}(bh:∀ i,o.dst=some i->i<C.bV)(ar:o.op=.index ty x i)(h:(cP C.aU T bs (be C.aU s.az) o).run s.aa=some res):cR C o s res:=by
 simp only[cP,ar]at h;split at h
 ·rename_i l k n aG ao G;simp only[da,aE.dy,amk]at h;subst h;refine cR.pure (by grind) bh λa w kap F D ba hc=>?_;have E:=PK (db D x rfl ba.1) ao;have L:=p9 (db D i rfl ba.2) G;have dC:=(aT.cB aG (by simp)).str;have dk:n.toNat<l.length:=by omega
  refine⟨.int .u8 ((l.getD n.toNat 0).toNat),?_,hO.2 ⟨rfl,?_⟩⟩
  ·have e:(⟨l.toArray⟩:ByteArray)[n.toNat]?=some (l.getD n.toNat 0):=by
    have ay:=by simpa [ByteArray.size]using dk
    rw[getElem?_pos (⟨l.toArray⟩:ByteArray) n.toNat ay];simp;show (⟨l.toArray⟩:ByteArray).data[n.toNat]=_;grind
   simp[execOp,ar,Instr.index,E.1,L.1,asIntOf,en dC,hc.1,e]
  ·have:=(l.getD n.toNat 0).toNat_lt;constructor
   ·have:IntKind.u8.min=0:=by decide
    omega
   ·have:IntKind.u8.max=255:=by decide
    omega
 ·rename_i m e k n aG G;split at h
  ·rename_i dp aY xs ao;split at h
   ·rename_i he;obtain⟨rfl,rfl⟩:=he;simp  [da,amk]at h;subst h;refine cR.pure (by grind) bh λa w kap F D ba hc=>?_;have E:bJ C.P s.aa kap F w (use (be C.aU s.az x)).2 (a.eval x):=db D x rfl ba.1;rw[ao]at E;have L:=p9 (db D i rfl ba.2) G;obtain⟨j,aJ,tT,_⟩:=(aT.cB aG (by simp)).bl;obtain⟨⟨cs,ae,qO⟩,qQ⟩:=E;rw[ae]at qQ;obtain⟨p,c,q,aB,bt,cT⟩:=PR qQ (i:=n.toNat) (by omega);obtain⟨v,dx,ec⟩:=tP tT (cs:=cs) aB cT;refine⟨v,?_,ec⟩;rw[bt]at dx;simp[execOp,ar,Instr.index,ae,L.1,asIntOf,en aJ,hc.1,hc.2,tT.size,dx]
   ·cases h
  ·rename_i k' f ao;split at h
   ·simp  [da,amk]at h;subst h;refine cR.pure (by grind) bh λa w kap F D ba hc=>?_;have E:bJ C.P s.aa kap F w (use (be C.aU s.az x)).2 (a.eval x):=db D x rfl ba.1;rw[ao]at E;have L:=p9 (db D i rfl ba.2) G;obtain⟨j,aJ,tT,cI⟩:=(aT.cB aG (by simp)).bl;obtain⟨aH,ae,ah,gu⟩:=E;have dk:n.toNat*e.size+e.size<=aH.length:=by
     have:(n.toNat+1)*e.size<=m*e.size:=amt _ (by omega);grind
    by_cases aW:e.isAgg=true
    ·simp  [if_pos aW];refine⟨_,by simp[execOp,ar,Instr.index,ae,L.1,asIntOf,en aJ,hc.1,hc.2,tT.size,Yu tT aW];rfl,(aH.toArray.extract (n.toNat*e.size) (n.toNat*e.size+e.size)).toList,by simp,?_,λq bq=>?_⟩<;>grind
    ·simp  [if_neg aW];have aZ:=gu (n.toNat*e.size) (by omega);refine⟨aH.getD (n.toNat*e.size) Go.undef,?_,aZ.1⟩;have aD:aH.toArray[n.toNat*e.size]?=some (aH.getD (n.toNat*e.size) Go.undef):=by
      grind
     simp[execOp,ar,Instr.index,ae,L.1,asIntOf,en aJ,hc.1,hc.2,tT.size,Yt tT (by grind) aD]
   ·cases h
  ·cases h
 ·cases h
theorem tU:∀ {l:List aL},kg l->∀ i,i<l.length->(use (l.getD i .undef)).1
 | [],_,i,G=>by grind
 | a::l,h,0,_=>by
  cases a<;>first | trivial | exact h.1
 | a::l,h,i+1,G=>by
  have eX:kg l:=by cases a<;>first | exact h | exact h.2
  have:=tU eX i (by grind);grind
theorem ani{k:bI}(h:k.fT=true->n=0):∃ a cap,k.slice n=.slice a n cap:=by
 unfold bI.slice;split<;>simp_all
variable {a:Act}{kap:Nat->bI}{b:Nat}
theorem CT(D:bw C s a w kap F)(aW:(s.aa b).body.gS=true):((kap b).fT=true->(s.aa b).body.len=0)/\(s.aa b).body.len<2 ^ 63:=by
 have aX:=D.bC b;unfold c7 at aX;cases ch:(s.aa b).body with
 | bl e xs=>
  rw[ch]at aX;refine⟨λaA=>by rw[aX.1 aA];rfl,?_⟩;simp  [b8.len];cases aA:(kap b).fT with
  | true=>rw[aX.1 aA];simp
  | false=>obtain⟨cs,h9,bE,c2,c3,c4,c5⟩:=aX.2 aA;omega
 | jz e xs=>
  rw[ch]at aX;simp  [mu,cp,bI.slice]at aX;simp  [b8.len];grind
 | h7 e xs i v=>
  rw[ch]at aX;obtain⟨aV,cs,h9,bE,c2,c3,c4,_⟩:=aX;exact⟨λaA=>(by grind),(by simp  [b8.len];omega)⟩
 | _=>rw[ch]at aW;cases aW
theorem PS(D:bw C s a w kap F)(aW:(s.aa b).body.gS=true)(aA:(kap b).fT=false):(s.aa b).body.len<=(kap b).cap:=by
 have aX:=D.bC b;unfold c7 at aX;cases ch:(s.aa b).body with
 | bl e xs=>
  rw[ch]at aX;obtain⟨cs,h9,bE,c2,c3,c4,c5⟩:=aX.2 aA;exact c3
 | jz e xs=>
  rw[ch]at aX;simp only[mu,bI.slice,aA,aPA]at aX;obtain⟨a',cap,aB,m1,m2,m3,m4⟩:=aX;simp  at aB;simp  [b8.len];omega
 | h7 e xs i v=>
  rw[ch]at aX;obtain⟨aV,cs,h9,bE,c2,c3,c4,_⟩:=aX;exact c3
 | _=>rw[ch]at aW;cases aW
variable {v:Value}
theorem anj(D:bw C s a w kap F){a1 G:Nat}(aW:(s.aa b).body.gS=true)(E:a1<=G)(L:G<=(s.aa b).body.len)(ay:JS (kap b) (s.aa b).body.gJ a1 G v) :
  ∃ a cap,v=.slice a (G - a1) cap/\G - a1<2 ^ 63:=by
 have aA:=CT D aW;rcases ay with⟨aM,rfl⟩ | ⟨aM,o,rfl,_⟩
 ·simp_all
 grind
theorem CU(h:n<2 ^ 63):gQ .i64 (n:Int):=by
 unfold gQ;have E:IntKind.i64.min=-9223372036854775808:=by decide
 have L:IntKind.i64.max=9223372036854775807:=by decide
 omega
theorem cv.mp{k v:V}(h:cv P (.map k v) id):∃ i j,P.underlying id=some (.map i j)/\cv P k i/\cv P v j:=by
 unfold cv at h;simp  [de]at h;obtain⟨_,h⟩:=h;split at h
 ·rename_i i j G;simp  at h;exact⟨i,j,G,h.1,h.2⟩
 grind
theorem ank(aT:ed C.P T){t:TypeId}{e9:aL}{c:Prop}{n:Int}{u:Value}(D:bw C s a w kap F)(h:(JY (T t) e9).run s.aa=some (c,n))(hc:c)(ao:bJ C.P s.aa kap F w e9 u)(ty:TypeId) :
  (Builtin.len_ #[t] ty #[u]).run C.P w=.ok (.int .i64 n) w/\gQ .i64 n:=by
 have PT:∀ e a' m cap,T t=.slice e->u=.slice a' m cap->m=n->m<2 ^ 63->(Builtin.len_ #[t] ty #[u]).run C.P w=.ok (.int .i64 n) w/\gQ .i64 n:=by
  intro e a' m cap aG hu hm dk;obtain⟨i,G,_⟩:=(aT.cB aG (by simp)).sl;subst hu;rw[<-hm];exact⟨by simp[Builtin.len_,en G,goInt],CU dk⟩
 have YD:∀ k v r es clk m,T t=.map k v->u=.map (some r)->w.heap[r]?=some (.map es clk)->es.size=m->m=n->cb m->(Builtin.len_ #[t] ty #[u]).run C.P w=.ok (.int .i64 n) w/\gQ .i64 n:=by
  intro k v r es clk m aG hu hw rD hm dk;obtain⟨i,j,G,_⟩:=(aT.cB aG (by simp)).mp;subst hu;rw[<-hm,<-rD];unfold cb at dk;refine⟨?_,CU (by omega)⟩;simp[Builtin.len_,en G,goInt,getObj,Sem.run,hw]
 unfold JY at h;split at h
 ·split at h
  ·simp  at h;obtain⟨_,ao⟩:=(eb rfl).1 ao;obtain⟨a',cap,aB,m1,m2,m3,m4⟩:=ao;grind
  ·simp  at h;simp  [bJ]at ao;grind
  ·simp only[aE.gU,aE.dy]at h;split at h
   ·rename_i bA;simp  at bA;have ae:=ao.2 bA.1.symm bA.2;have aA:=CT D bA.2;obtain⟨a',cap,he⟩:=ani   aA.1;grind
   grind
  ·simp only[aE.gU,aE.dy]at h;split at h
   ·rename_i bA;simp  at bA;obtain⟨⟨aM,aS⟩,b4⟩:=ao.2 bA.1.symm bA.2;obtain⟨a',cap,he,dk⟩:=anj D bA.2 aM aS b4;grind
   grind
  ·cases h
 ·rename_i aG;split at h
  ·rename_i xs;simp  at h;obtain⟨rfl,dk⟩:=k3.1 ao;have dC:=(aT.cB aG (by simp)).str;rw[<-h.2];have ay:ByteArray.size ⟨xs.toArray⟩=xs.length:=by rfl
   exact⟨by simp[Builtin.len_,en dC,goInt,ay],CU (by omega)⟩
  ·cases h
 ·rename_i k v aG;split at h
  ·simp only[aE.dy,amk,aPD]at h;obtain⟨rfl,h⟩:=h;obtain⟨_,ao⟩:=(eb rfl).1 ao;rcases ao with⟨aB,rfl⟩ | ⟨r,es,clk,aB,m1,m2,m3,_⟩
   ·obtain rfl:=(aPM aB).1;obtain⟨i,j,G,_⟩:=(aT.cB aG (by simp)).mp;rw[<-h];exact⟨by simp[Builtin.len_,en G,goInt],CU (by simp)⟩
   grind
  ·rename_i b g;simp only[aE.gU,aE.dy]at h;split at h
   ·rename_i aD;split at h
    ·rename_i k' iu es ch;simp only[amk,aPD]at h;obtain⟨rfl,h⟩:=h;have aX:=D.bC b;unfold c7 at aX;rw[ch]at aX;obtain⟨ms,clk,cO,cJ⟩:=aX;exact YD k v _ ms clk es.length aG (ao.2 aD.symm (by rw[ch];rfl)) cO cJ.1 h hc
    ·rename_i k' iu es ch;simp only[amk,aPD]at h;obtain⟨rfl,h⟩:=h;have aX:=D.bC b;unfold c7 at aX;rw[ch]at aX;rcases aX with⟨aB,_⟩ | ⟨r,ms,clk,aB,nn,cO,cJ,_⟩
     ·grind
     ·simp  at aB;subst aB;exact YD k v _ ms clk es.length aG (ao.2 aD.symm (by rw[ch];rfl)) cO cJ h hc
    grind
   grind
  ·cases h
 ·cases h
variable {b:Builtin}{dq:Array TypeId}
theorem sF{args:Array Operand}{w':World}(ar:o.op=.call { callee:=.builtin b,args:=args,argTypes:=dq })
  (h:(builtin b dq o.type (args.map fun | .const _=>true | _=>false) (args.map a.eval)).run C.P w=.ok (.value v) w'):(execOp a.eval o).run C.P w=.ok (.value v) w':=by
 simp  [execOp,ar,resolve,invoke];omega
theorem anl(aT:ed C.P T){args:Array Operand}(bh:∀ i,o.dst=some i->i<C.bV)(ar:o.op=.call { callee:=.builtin .len,args:=args,argTypes:=dq })(h:(cP C.aU T bs (be C.aU s.az) o).run s.aa=some res):cR C o s res:=by
 obtain⟨args⟩:=args;obtain⟨dq⟩:=dq;simp  [cP,ar,pg,FR]at h;split at h
 ·rename_i x t;simp only[da,aE.fZ,amj,aE.dy,amk]at h;obtain⟨⟨c,n⟩,aA,rfl⟩:=h;refine cR.pure (by grind) bh λa w kap F D ba hc=>?_;obtain⟨E,L⟩:=ank aT D aA hc (db D x rfl ba) o.type;refine⟨_,sF ar ?_,hO.2 ⟨rfl,L⟩⟩;simp[builtin,E]
 ·cases h
theorem anm(aT:ed C.P T){args:Array Operand}(bh:∀ i,o.dst=some i->i<C.bV)(ar:o.op=.call { callee:=.builtin .cap,args:=args,argTypes:=dq })(h:(FU T (be C.aU s.az) args.toList dq.toList).run s.aa=some res):cR C o s res:=by
 obtain⟨args⟩:=args;obtain⟨dq⟩:=dq;simp  [FU]at h;split at h
 ·rename_i x t;split at h
  ·rename_i e cz aG hu;simp  [da,amk]at h;subst h;refine cR.pure (by grind) bh λa w kap F D ba hc=>?_;have ae:a.eval x=.slice none 0 0:=db D x hu ba;obtain⟨i,G,_⟩:=(aT.cB aG (by simp)).sl;refine⟨.int .i64 0,sF ar ?_,hO.2 ⟨rfl,by decide⟩⟩;simp[builtin,Builtin.cap_,ae,en G,goInt]
  ·cases h
 ·cases h
theorem YE{a:Act}{w:World}{kap:Nat->bI}{F:Nat->Prop}(D:bw C s a w kap F){k:IntKind}:∀ (l:List Operand) {cy:Prop} {jD:z1'},p6 (be C.aU s.az) k l=some (cy,jD)->cy->l.map a.eval=jD.map (Value.int k)/\∀ n∈jD,gQ k n
 | [],_,_,h,_=>by cases h
 | [x],cy,jD,h,ba=>by
  simp  [p6]at h;split at h
  ·rename_i k' n ao;split at h
   ·cases h;have E:=p9 (db D x rfl ba) ao;grind
   grind
  grind
 | x::y::l,cy,jD,h,ba=>by
  simp  [p6]at h;split at h
  ·rename_i k' n aLi aLj ao ah;split at h
   ·cases h;have E:=p9 (db D x rfl ba.1) ao;have L:=YE D (y::l) ah ba.2;grind
   grind
  grind
theorem PU{k:IntKind}:∀ (jD:z1') (m:Int),gQ k m->(∀ n∈jD,gQ k n)->((jD.map (Value.int k)).foldlM Builtin.min2 (Value.int k m)=pure (Value.int k (jD.foldl (λa b=>if b<a then b else a) m))/\gQ k (jD.foldl (λa b=>if b<a then b else a) m))/\
  ((jD.map (Value.int k)).foldlM Builtin.max2 (Value.int k m)=pure (Value.int k (jD.foldl (λa b=>if b > a then b else a) m))/\gQ k (jD.foldl (λa b=>if b > a then b else a) m))
 | [],m,h,_=>⟨⟨rfl,h⟩,rfl,h⟩
 | n::jD,m,h,ah=>by
  have ah:=λq bq=>ah q (amr n bq);have E:=(PU jD (if n<m then n else m) (by grind) ah).1;have L:=(PU jD (if n > m then n else m) (by grind) ah).2;refine⟨⟨?_,E.2⟩,?_,L.2⟩
  ·simp  [Builtin.min2];grind
  ·simp  [Builtin.max2];grind
theorem YF{f:Int->Int->Int}(U:(b=.min/\f=λa b=>if b<a then b else a)\/(b=.max/\f=λa b=>if b > a then b else a)){args:Array Operand}(bh:∀ i,o.dst=some i->i<C.bV)
  (ar:o.op=.call { callee:=.builtin b,args:=args,argTypes:=dq }) (h:(Ag (be C.aU s.az) f args.toList).run s.aa=some res):cR C o s res:=by
 obtain⟨args⟩:=args;simp  [Ag]at h;split at h
 ·rename_i x y l;split at h
  ·rename_i k m ao;split at h
   ·rename_i cy jD ah;simp  [da,amk]at h;subst h;refine cR.pure (by grind) bh λa w kap F D ba hc=>?_;have E:=p9 (db D x rfl ba.1) ao;obtain⟨L,ak⟩:=YE D (y::l) ah ba.2;obtain⟨dx,ec⟩:=PU jD m E.2 ak;have fA:(x::y::l).map a.eval=Value.int k m::jD.map (Value.int k):=by grind
    refine⟨.int k (jD.foldl f m),sF ar ?_,hO.2 ⟨rfl,?_⟩⟩
    ·rcases U with⟨rfl,rfl⟩ | ⟨rfl,rfl⟩
     ·simp  [builtin,Builtin.min_,fA];simp_all
     ·simp  [builtin,Builtin.max_,fA];simp_all
    grind
   ·cases h
  ·cases h
 ·cases h
end
end Go.Fer
namespace Go.Fer
open Go.RowKit
def fN(H:Nat->b7)(x:b7):b7:=match x.body with
 | .bl e xs=>⟨x.gen,.jz e xs⟩
 | .mp k v es=>⟨x.gen,.k5 k v es⟩
 | .cells t f=>match (k_ t ((List.range t.size).map f)).run H with
  | some (y,_,[])=>⟨x.gen,.im t y⟩
  | _=>x
 | _=>x
def aC.cC(s:aC)(l:List Nat):aC:=⟨s.az,λi=>if i∈l then fN s.aa (s.aa i) else s.aa i⟩
theorem YG(H:Nat->b7):∀ (l:List Nat) (s:aC),(∀ i∈l,s.aa i=H i\/s.aa i=fN H (H i))->s.iw ((ke l).run H)=⟨s.az,λi=>if i∈l then fN H (H i) else s.aa i⟩
 | [],s,_=>by
  rfl
 | b::l,s,h=>by
  simp only[ke,aE.gU,aE.run_bind];have key:∀ (s':aC),s'.az=s.az->s'.aa b=fN H (H b)->(∀ i,i≠b->s'.aa i=s.aa i)->s'.iw ((ke l).run H)=⟨s.az,λi=>if i∈b::l then fN H (H i) else s.aa i⟩:=by
   intro s' aB bt cT;rw[YG H l s']<;>grind
  have ix:fN H (H b)=H b->s.iw ((ke l).run H)=⟨s.az,λi=>if i∈b::l then fN H (H i) else s.aa i⟩:=λe=>
   key s rfl (by grind) λ_ _=>rfl
  have put:∀ x,fN H (H b)=x->s.iw ((b,x)::(ke l).run H)=⟨s.az,λi=>if i∈b::l then fN H (H i) else s.aa i⟩:=λx e=>by
   exact key _ rfl (by simp[aC.cn,e]) λi G=>by simp[aC.cn,G]
  cases U:(H b).body with
  | bl e xs=>exact put _ (by simp[fN,U])
  | mp k v es=>exact put _ (by simp[fN,U])
  | cells t f=>
   simp only[aE.run_bind];cases aD:(k_ t ((List.range t.size).map f)).run H with
   | none=>exact ix (by simp[fN,U,aD])
   | some z=>
    obtain⟨y,m,r⟩:=z;cases r with
    | nil=>exact put _ (by simp[fN,U,aD])
    | cons c r=>exact ix (by simp[fN,U,aD])
  | _=>exact ix (by simp[fN,U])
theorem tV(s:aC)(l:List Nat):s.iw ((ke l).run s.aa)=s.cC l:=by
 rw[YG s.aa l s λi _=>.inl rfl];rfl
theorem CV:∀ (l:List (Nat×b7)) (s:aC) (p:Nat×b7),s.iw (l++[p])=(s.iw l).cn p.1 p.2
 | [],_,_=>rfl
 | q::l,s,p=>by exact CV l _ p
def b8.YH:b8->Bool | .cE _ _ _ _=>true | .h7 _ _ _ _=>true | _=>false
def iK(H:Nat->b7)(l:List Nat):Prop:=∀ b∈l,(H b).body.YH=false/\∀ t f,(H b).body=.cells t f->∃ y m,(k_ t ((List.range t.size).map f)).run H=some (y,m,[])/\∀ c∈m,c∈l
theorem iK.nil(H:Nat->b7):iK H []:=λb U=>by grind
variable {H:Nat->b7}{l:List Nat}
theorem iK.append{m:List Nat}(h:iK H l)(k:iK H m):iK H (l++m):=by
 intro b U;rcases List.mem_append.1 U with U | U
 ·obtain⟨E,L⟩:=h b U;grind
 ·obtain⟨E,L⟩:=k b U;grind
variable {b:Nat}
theorem iK.one(E:(H b).body.YH=false)(L:(H b).body.hl=false):iK H [b]:=by
 intro c hc;obtain rfl:=List.mem_singleton.1 hc;exact⟨E,λt f e=>by rw[e]at L;cases L⟩
variable {t:V}
theorem tW{av:aL}{x:t.al}(h:(eK t av).run H=some (x,l)):iK H l:=by
 cases av with
 | val dN y=>
  simp  [eK,aPD]at h;obtain⟨z,bA,rfl,rfl⟩:=h;exact .nil H
 | u9 aY y=>
  cases t<;>simp only[eK,aE.none,aE.dy,reduceCtorEq,aP3,aPD]at h;obtain⟨z,bA,rfl,rfl⟩:=h;exact .nil H
 | dW=>
  cases t<;>simp  [eK,aE.none,aPD]at h<;>(obtain⟨rfl,rfl⟩:=h;exact .nil H)
 | k4 u=>
  simp  [eK,aPD]at h;obtain⟨z,bA,rfl,rfl⟩:=h;exact .nil H
 | eL dN y=>
  cases t<;>simp  [eK,aE.none,aPD]at h;obtain⟨z,bA,rfl,rfl⟩:=h;exact .nil H
 | own b g=>
  cases t<;>simp only[eK,aE.none,aE.dy,aE.gU,reduceCtorEq]at h;split at h
  ·split at h
   ·rename_i U;simp  at h;obtain⟨z,bA,rfl,rfl⟩:=h;exact .one (by rw[U];rfl) (by rw[U];rfl)
   ·simp  at h;obtain⟨z,bA,rfl,rfl⟩:=h;exact .nil H
   grind
  grind
 | sub b g a1 G=>
  cases t<;>simp only[eK,aE.none,aE.dy,aE.gU,reduceCtorEq]at h;split at h
  ·split at h
   ·rename_i U;simp  at h;obtain⟨z,bA,rfl,rfl⟩:=h;exact .one (by rw[U];rfl) (by rw[U];rfl)
   ·simp  at h;obtain⟨z,bA,rfl,rfl⟩:=h;exact .nil H
   grind
  grind
 | hk b g=>
  cases t<;>simp only[eK,aE.none,aE.dy,aE.gU,reduceCtorEq]at h;split at h
  ·split at h
   ·rename_i U;simp  at h;obtain⟨z,bA,rfl,rfl⟩:=h;exact .one (by rw[U];rfl) (by rw[U];rfl)
   ·simp  at h;obtain⟨z,bA,rfl,rfl⟩:=h;exact .nil H
   grind
  grind
 | ji k n c=>
  cases t<;>simp  [eK,aE.none,reduceCtorEq]at h;split at h
  ·cases h;exact .nil H
  simp_all
 | _=>cases h
theorem YI{e:V}(fq:∀ {cs:List aL} {x:e.al} {l:List Nat} {r:List aL},(k_ e cs).run H=some (x,l,r)->iK H l){av:aL}{x:Option e.al}
  (h:(wS e (k_ e) av).run H=some (x,l)):iK H l:=by
 have b6:(eK (.bM e) av).run H=some (x,l)->iK H l:=tW;cases av with
 | eY b g off=>
  simp  [wS]at h;split at h
  ·split at h
   ·simp  at h;obtain⟨z,bA,rfl,rfl⟩:=h;exact .nil H
   ·rename_i t f U;split at h
    ·simp only[aE.fZ,amj,aE.dy]at h;obtain⟨⟨y,m,q⟩,E,L⟩:=h;split at L
     ·obtain⟨rfl,rfl⟩:=L;intro c hc;rcases List.mem_cons.1 hc with rfl | hc
      ·refine⟨by rw[U];rfl,λdN kz e=>?_⟩;grind
      ·obtain⟨aM,aS⟩:=fq E c hc;grind
     grind
    ·cases h
   ·cases h
  ·cases h
 | _=>exact b6 h
theorem YJ:∀ (t:V) {cs:List aL} {x:t.al} {l:List Nat} {r:List aL},(k_ t cs).run H=some (x,l,r)->iK H l:=by
 have rB:∀ (t:V) (g:aL->aE (Option (t.al×List Nat))),(∀ {av:aL} {x:t.al} {l:List Nat},(g av).run H=some (x,l)->iK H l)->
   ∀ {cs:List aL} {x:t.al} {l:List Nat} {r:List aL},(match cs with | c::r=>(g c).map λo=>o.map λ(x,l)=>(x,l,r) | []=>.none:aE (Option (t.al×List Nat×List aL))).run H=some (x,l,r)->iK H l:=by
  intro t g aD cs x l r h;cases cs with
  | nil=>cases h
  | cons c cs=>
   simp  [aE.map,aE.run_bind,aPD]at h;grind
 intro t;induction t with
 | bool=>intro cs x l r h;exact rB .bool (eK .bool) tW h
 | int k=>intro cs x l r h;exact rB (.int k) (eK (.int k)) tW h
 | str=>intro cs x l r h;exact rB .str (eK .str) tW h
 | dh=>
  intro cs x l r h;obtain⟨_,rfl,rfl⟩:=h;exact .nil H
 | ad t aO=>intro cs x l r h;exact aO h
 | au a b gI fS=>
  intro cs x l r h;simp only[k_,aE.fZ,amj,aPD]at h;obtain⟨⟨y,m,q⟩,E,⟨z,dp,q'⟩,L,rfl,rfl,rfl⟩:=h;exact (gI E).append (fS L)
 | slice e aO=>intro cs x l r h;exact rB (.slice e) (eK (.slice e)) tW h
 | array n e aO=>
  intro cs xs l r h;simp  [k_]at h;have key:∀ (n:Nat) {cs:List aL} {xs:List e.al} {l:List Nat} {r:List aL},(n.rec (motive:=λ_=>List aL->aE (Option (List e.al×List Nat×List aL))) (λcs=>.ret (some ([],[],cs)))
     (λ_ aO cs=>(k_ e cs).eG λ(x,l,r)=>(aO r).eG λ(xs,m,q)=>.ret (some (x::xs,l++m,q))) cs).run H=some (xs,l,r)->iK H l:=by
   intro n;induction n with
   | zero=>intro cs xs l r h;cases h;exact .nil H
   | succ n FM=>
    intro cs xs l r h;simp only[aE.fZ,amj,aPD]at h;obtain⟨⟨y,m,q⟩,E,⟨z,dp,q'⟩,L,rfl,rfl,rfl⟩:=h;exact (aO E).append (FM L)
  grind
 | bM e aO=>intro cs x l r h;exact rB (.bM e) (wS e (k_ e)) (YI aO) h
 | map k v zY zZ=>intro cs x l r h;exact rB (.map k v) (eK (.map k v)) tW h
 | fn a b gI fS=>intro cs x l r h;exact rB (.fn a b) (eK (.fn a b)) tW h
 | cE a aO=>intro cs x l r h;exact rB (.cE a) (eK (.cE a)) tW h
 | eW=>intro cs x l r h;exact rB .eW (eK .eW) tW h
 | cN e aO=>intro cs x l r h;exact rB (.cN e) (eK (.cN e)) tW h
theorem pn{av:aL}{x:t.al}(h:(eh t av).run H=some (x,l)):iK H l:=by
 have b6:(l4 t av).run H=some (x,l)->iK H l:=by
  intro h;unfold l4 at h;split at h
  ·exact YI (λh=>YJ _ h) h
  ·split at h
   ·exact tW h
   ·cases h
 cases av with
 | val dN y=>
  simp  [eh,aPD]at h;obtain⟨z,bA,rfl,rfl⟩:=h;exact .nil H
 | agg n f=>
  simp  [eh]at h;split at h
  ·cases h
  ·simp only[aE.fZ,amj,aE.dy]at h;obtain⟨⟨y,m,q⟩,E,L⟩:=h;split at L
   ·obtain⟨rfl,rfl⟩:=L;exact YJ t E
   grind
 | _=>exact b6 h
theorem An(H:Nat->b7)(x:b7):fN H x=x\/(∃ e xs,x.body=.bl e xs/\fN H x=⟨x.gen,.jz e xs⟩)\/(∃ k v es,x.body=.mp k v es/\fN H x=⟨x.gen,.k5 k v es⟩)\/
  ∃ t f y m,x.body=.cells t f/\(k_ t ((List.range t.size).map f)).run H=some (y,m,[])/\fN H x=⟨x.gen,.im t y⟩:=by
 cases ao:x.body with
 | bl e xs=>exact .inr (.inl ⟨e,xs,rfl,by simp[fN,ao]⟩)
 | mp k v es=>exact .inr (.inr (.inl ⟨k,v,es,rfl,by simp[fN,ao]⟩))
 | cells t f=>
  cases aD:(k_ t ((List.range t.size).map f)).run H with
  | none=>exact .inl (by simp[fN,ao,aD])
  | some z=>
   obtain⟨y,m,r⟩:=z;cases r with
   | nil=>exact .inr (.inr (.inr ⟨t,f,y,m,rfl,aD,by simp[fN,ao,aD]⟩))
   | cons c r=>exact .inl (by simp[fN,ao,aD])
 | _=>exact .inl (by simp[fN,ao])
theorem ano{x:b7}{k:bI}(h:(fN H x).body.cd k=true):(x.body.cd k=true/\fN H x=x):=by
 rcases An H x with e | ⟨_,_,_,e⟩ | ⟨_,_,_,_,e⟩ | ⟨_,_,_,_,_,_,e⟩
 ·grind
 all_goals rw[e]at h;cases h
theorem YK(s:aC)(l:List Nat)(kap:Nat->bI):fL s.aa kap (s.cC l).aa kap:=by
 rw[X'];intro b;simp  [aC.cC];split
 ·rcases An s.aa (s.aa b) with e | ⟨_,_,ao,e⟩ | ⟨_,_,_,ao,e⟩ | ⟨_,_,_,_,ao,_,e⟩
  ·rw[e];exact tM.refl _ _
  ·rw[e];exact⟨amo _,λ_=>⟨λh=>(by cases h),λ_=>⟨by rw[ao];rfl,rfl,by rw[ao];rfl,by rw[ao];rfl⟩,λh=>(by cases h),λh=>(by cases h)⟩⟩
  ·rw[e];exact⟨amo _,λ_=>⟨λh=>(by cases h),λh=>(by cases h),λ_=>⟨by rw[ao];rfl,rfl⟩,λh=>(by cases h)⟩⟩
  ·rw[e];exact⟨amo _,λ_=>⟨λ_=>⟨by rw[ao];rfl,rfl⟩,λh=>(by cases h),λh=>(by cases h),λh=>(by cases h)⟩⟩
 ·exact tM.refl _ _
theorem anp(s:aC)(l:List Nat):yi s.aa (s.cC l).aa:=by
 intro e m hm;simp only[aC.cC]at hm;split at hm
 ·rcases An s.aa (s.aa cx) with k | ⟨_,_,_,k⟩ | ⟨_,_,_,_,k⟩ | ⟨_,_,_,_,_,_,k⟩
  ·rw[k]at hm;exact hm
  all_goals rw[k]at hm;cases hm
 ·exact hm
variable {a:Act}{w:World}{kap:Nat->bI}{F:Nat->Prop}
theorem bw.mR{C:cF}{s:aC}(kA:iK s.aa l)(h:bw C s a w kap F) :
  ∃ F',(∀ r,F r->F' r)/\bw C (s.cC l) a w kap F'/\kR s.aa kap F' l:=by
 let F':=λr=>F r\/∃ b∈l,(s.aa b).body.cd (kap b)=true/\(kap b).aa=r;have bm:∀ r,F r->F' r:=λr D=>.inl D;have wW:kR s.aa kap F' l:=λb U ar=>.inr ⟨b,U,ar,rfl⟩;have PV:∀ b,((s.cC l).aa b).body.cd (kap b)=true->b ∉ l/\(s.aa b).body.cd (kap b)=true:=by
  intro b U;simp  [aC.cC]at U;by_cases gK:b∈l
  ·rw[if_pos gK]at U;obtain⟨aM,aS⟩:=ano U;obtain⟨bE,c2⟩:=kA b gK;cases ao:(s.aa b).body with
   | bl e xs=>simp[fN,ao,b8.cd]at U
   | mp k v es=>simp[fN,ao,b8.cd]at U
   | cells t f=>
    obtain⟨y,m,g,_⟩:=c2 t f ao;simp[fN,ao,g,b8.cd]at U
   | cE k v c r=>rw[ao]at bE;cases bE
   | h7 e xs i v=>rw[ao]at bE;cases bE
   | _=>rw[ao]at aM;cases aM
  grind
 have ah:=YK s l kap;refine⟨F',bm,?_,wW⟩;refine h.move ah bm (λr D=>D.imp id λ⟨b,_,E,L⟩=>.inl ⟨b,E,L⟩) (amo _) (λ_ _ _=>rfl) (dM.refl _) (λ_ b=>?_) (λb U=>?_) (λb bf U eg e=>h.inj b bf (PV b U).2 (PV bf eg).2 e) (λr D=>?_) (λb _ U=>⟨rfl,?_⟩) (anp s l)
 ·show c7 C.P (s.cC l).aa kap F' w b;by_cases gK:b∈l
  ·have aX:=h.bC b;have Ka:(s.cC l).aa b=fN s.aa (s.aa b):=by simp[aC.cC,gK]
   have k6:fN s.aa (s.aa b)=s.aa b->c7 C.P (s.cC l).aa kap F' w b:=λe=>c7.k6 aX ah bm (di.refl _ _) (by grind) rfl λ_=>rfl;cases ao:(s.aa b).body with
   | bl e xs=>
    unfold c7 at aX ⊢;rw[ao]at aX;rw[Ka];simp  [fN,ao];exact PA aX bm λaA=>wW b gK (by rw[ao];simp[b8.cd,aA])
   | mp k v es=>
    unfold c7 at aX ⊢;rw[ao]at aX;rw[Ka];simp  [fN,ao];exact Yf aX bm (wW b gK (by rw[ao];rfl))
   | cells t f=>
    obtain⟨y,m,g,hm⟩:=(kA b gK).2 t f ao;unfold c7 at aX ⊢;rw[ao]at aX;rw[Ka];simp  [fN,ao,g];obtain⟨cs,T,aM,aS,b4⟩:=aX;have ka:fy C.P s.aa kap F w ((List.range t.size).map f) cs.toList:=FL (by have:=aS.1;omega) λi G=>by
     simp_all
    obtain⟨c,d,amO,bE,c2⟩:=PC h.bC bm t g (λc hc=>wW c (hm c hc)) ka;cases d with
    | cons _ _=>exact c2.elim
    | nil=>
     refine⟨c,⟨wW b gK (by rw[ao];rfl),rfl,λj aJ=>?_⟩,bE⟩;have gD:j<cs.size:=by grind
     simp  [World.cell?,aQy gD];grind
   | _=>exact k6 (by simp[fN,ao])
  ·exact c7.k6 (h.bC b) ah bm (di.refl _ _) (by simp[aC.cC,gK]) rfl λ_=>rfl
 ·obtain⟨aM,aS⟩:=PV b U;have ar:=h.own b aS;refine⟨ar.1,λax=>?_,.inl ⟨b,aS,rfl⟩⟩;rcases ax with ax | ⟨b0,m1,m2,m3⟩
  ·grind
  ·exact aM (h.inj b b0 aS m2 m3.symm ▸ m1)
 ·rcases D with D | ⟨b,_,U,rfl⟩
  ·exact h.dr r D
  ·exact (h.own b U).1
 ·split at U
  ·rcases An s.aa (s.aa b) with e | ⟨_,_,ao,e⟩ | ⟨_,_,_,ao,e⟩ | ⟨_,_,_,_,ao,_,e⟩
   ·grind
   ·rw[e]at U;simp[b8.hl,b8.iX]at U
   ·rw[ao];exact .inr rfl
   ·rw[ao];exact .inl rfl
  omega
section
variable {C:cF} {T:Nat->V} {bs:Nat->Option aN} {o:Oper} {s:aC} {res:eA}
theorem bw.iL(h:bw C s a w kap F)(U:b<C.bV):b<fE:=aPB U h.hE
variable {l:List aL}
theorem bw.newVar(h:bw C s a w kap F)(FI:b<fE){cs:List Value}{ty:TypeId}(ah:fy C.P s.aa kap F w l cs)(aG:l.length=t.size)(PW:Py C.P t ty) :
  ∃ bR,bw C (s.cn b ⟨(s.aa b).gen+1,.cells t (hX l)⟩) a (w.alloc (.cells cs.toArray ty)) bR F/\(bR b).aa=w.heap.size:=by
 refine⟨_,h.alloc (k:=⟨w.heap.size,0,0,false⟩) FI (aQl _) rfl λH bR po JW dk=>?_,by simp⟩;refine⟨cs.toArray,ty,tN _ _,⟨by simp[<-ah.len,aG],PW⟩,λi G=>?_⟩;have:=ah.mO i (by omega);have e:cs.toArray.getD i Go.undef=cs.getD i Go.undef:=by simp
 rw[e];exact⟨bJ.later dk (λ_ D=>D) (di.alloc h.dr _) this.1,this.2⟩
theorem F6(t:V){P:Program}{z:Value}(h:l5 t z.cells.toList=some []):(va t).length=t.size/\z.cells.size=t.size:=by
 obtain⟨c,e,E,L⟩:=yl (P:=P) (H:=λ_=>⟨0,.ey⟩) (kap:=λ_=>⟨0,0,0,true⟩) (F:=λ_=>True) (w:=default) t h;rw[aPN]at e;have:=jP t E;have:=L.len;grind
theorem anq(aT:ed C.P T){ty:TypeId}(bh:∀ i,o.dst=some i->i<C.bV)(ar:o.op=.alloc ty)(h:(cP C.aU T bs (be C.aU s.az) o).run s.aa=some res)(ph:T ty≠.dh):cR C o s res:=by
 simp only[cP,ar]at h;obtain⟨b,aw,an⟩:=tR h;simp only[if_neg ph,amk]at an;subst an;intro a w kap F Q D _ _;have dC:=aT.cB rfl ph;obtain⟨i,z,E,L,ak,aZ,bP,ej⟩:=nq dC.np;obtain⟨c,e,iy,z2⟩:=yl (P:=C.P) (H:=s.aa) (kap:=kap) (F:=F) (w:=w) (T ty) bP;rw[aPN]at e;have bA:=F6 (T ty) (P:=C.P) bP;obtain⟨bR,ck,c8⟩:=D.newVar (b:=b) (D.iL (bh b aw)) (t:=T ty) (ty:=ty) z2 bA.1 dC.YC;have ds:(execOp a.eval o).run C.P w=.ok (.value (.pointer (some ⟨w.heap.size,0,none⟩))) (w.alloc (.cells c.toArray ty)):=by
  have CW:z.cells=c.toArray:=by grind
  simp[execOp,ar,Instr.alloc,sD E aZ,newVar,newRow,CW]
 refine h8 (by grind) ds ⟨bR,F,bw.set (s:=s.cn b _) ck bh ⟨⟨?_,rfl⟩,λ_ _=>?_⟩⟩
 ·simp[aC.cn]
 grind
theorem PX{P:Program}{av:aL}{v:Value}(h:cellsOf t av=some l)(ae:bJ P H kap F w av v):fy P H kap F w l v.cells.toList:=by
 unfold cellsOf at h;split at h
 ·rename_i dN x;split at h
  ·rename_i he;subst he;simp only[amk]at h;subst h;obtain⟨⟨cs,rfl,_⟩,hc⟩:=ae;simp only[cp]at hc;exact CG _ hc
  grind
 ·rename_i n f;split at h
  ·simp only[amk]at h;subst h;obtain⟨aH,rfl,E,L⟩:=ae;exact FL E L
  grind
 ·rename_i n e kf aY x;split at h
  ·simp only[amk]at h;subst h;obtain⟨⟨cs,rfl,_⟩,hc⟩:=ae;exact CG _ hc
  grind
 ·rename_i n e m f;split at h
  ·simp only[amk]at h;subst h;obtain⟨aH,rfl,E,L⟩:=ae;exact FL E L
  grind
 ·split at h
  ·have one:v.oneCell'=true->l=[av]->fy P H kap F w l v.cells.toList:=by
    intro E L;subst L;rw[JO E];exact⟨⟨ae,E⟩,trivial⟩
   split at h
   ·rename_i dN x;split at h
    ·rename_i CS;obtain⟨aM,aS⟩:=(eb CS).1 ae;exact one (Px CS aS) (aQb h).symm
    grind
   ·exact one ae.1.2 (aQb h).symm
   ·exact one ae.1.2 (aQb h).symm
   ·exact one ae.1.2 (aQb h).symm
   ·refine one ?_ (aQb h).symm;obtain⟨p,bB,rfl,_⟩:=ae;rfl
   ·exact one ae.1.2 (aQb h).symm
   ·refine one ?_ (aQb h).symm;obtain⟨aH,rfl,_⟩:=ae;rfl
   ·refine one ?_ (aQb h).symm;simp only[bJ]at ae;subst ae;rfl
   ·exact one ae.1.2 (aQb h).symm
   ·cases h
   ·cases h
   ·refine one ?_ (aQb h).symm;simp only[bJ]at ae;subst ae;cases v<;>first | rfl | grind | grind | grind | grind
   grind
  grind
end
end Go.Fer
namespace Go.Fer
open Go.RowKit
theorem Kb:∀ (l:List Value) (k off:Nat) (cs:Array Value),off+k+l.length<=cs.size->
  ((l.zipIdx k).foldl (λ(cs:Array Value) (p:Value×Nat)=>cs.setIfInBounds (off+p.2) p.1) cs).toList=cs.toList.take (off+k)++(l++cs.toList.drop (off+k+l.length))
 | [],k,off,cs,h=>by simp
 | c::l,k,off,cs,h=>by
  simp;rw[Kb l (k+1) off _ (by grind)];simp  at h ⊢;have dk:off+k<cs.toList.length:=by grind
  rw[List.take_set,List.drop_set];have E:(cs.toList.take (off+k+1)).set (off+k) c=cs.toList.take (off+k)++[c]:=by
   rw[List.take_succ_eq_append_getElem dk];have Kc:min (off+k) cs.size=off+k:=aQ8 (by omega);simp_all
  grind
section
variable {P:Program} {w:World}
theorem anr(w:World)(b off:Nat)(v:Value){cs:Array Value}{T:TypeId}{fN:z24'}(h:w.heap[b]?=some (.cells cs T fN)) :
  (w.setCell ⟨b,off,none⟩ v).heap[b]?=some (.cells (cs.setIfInBounds off v) T fN):=by
 simp[World.setCell,Array.getElem?_modify,h]
theorem yp{b:Nat}{T:TypeId}:∀ (aH:List Value) (off i:Nat) (w:World) (cs:Array Value),w.heap[b]?=some (.cells cs T (0,0))->off+i+aH.length<=cs.size->(∀ v∈aH,v.oneCell'=true)->
  ∃ w' eo,(storeCells ⟨b,off,none⟩ aH i).run P w=.ok () w'/\w'.heap[b]?=some (.cells eo T (0,0))/\eo.toList=cs.toList.take (off+i)++(aH++cs.toList.drop (off+i+aH.length))/\
   (∀ r,r≠b->w'.heap[r]?=w.heap[r]?)/\w'.heap.size=w.heap.size/\dM w w'
 | [],off,i,w,cs,h,_,_=>⟨w,cs,by rfl,h,by simp,λ_ _=>rfl,rfl,dM.refl w⟩
 | v::aH,off,i,w,cs,h,ah,ae=>by
  have dk:off+i<cs.size:=by grind
  have hc:w.cell? ⟨b,off+i,none⟩=some cs[off+i]:=by rw[Am h];simp
  have ax:w.frozen? ⟨b,off+i,none⟩=false:=by simp[World.frozen?,h]
  have E:=anr w b (off+i) v h;obtain⟨w',eo,ck,c8,fB,n5,n6,oN⟩:=yp aH off (i+1) (w.setCell ⟨b,off+i,none⟩ v) _ E (by grind) (λu hu=>ae u (by grind));refine⟨w',eo,?_,c8,?_,?_,by simp_all,dM.trans (b:=w.setCell ⟨b,off+i,none⟩ v) ⟨rfl,rfl,rfl⟩ oN⟩
  ·simp  [storeCells,tS,run_store P w _ v _ (ae v (by simp)),hc,ax,Result.andThen_ok];omega
  ·rw[fB];have:=Kb [v] 0 (off+i) cs (by grind);simp only[List.zipIdx_cons,List.zipIdx_nil,aPY,List.foldl_nil,aRh]at this;rw[this];have aB:(cs.toList.take (off+i)).length=off+i:=by grind
   rw[List.take_append,List.drop_append,aB];simp only[show off+(i+1) - (off+i)=1 from by omega,show off+(i+1)+aH.length - (off+i)=aH.length+1 from by omega];have cT:List.drop (off+(i+1)+aH.length) (cs.toList.take (off+i))=[]:=List.drop_of_length_le (by omega);simp;grind
  ·intro r D;rw[n5 r D];exact Below.heap_setCell _ _ _ _ (by omega)
end
section
variable {C:cF} {T:Nat->V} {bs:Nat->Option aN} {o:Oper} {s:aC} {res:eA}
theorem ans(aT:ed C.P T){ty:TypeId}{x:Operand}(bh:∀ i,o.dst=some i->i<C.bV)(ar:o.op=.box ty x)(h:(cP C.aU T bs (be C.aU s.az) o).run s.aa=some res):cR C o s res:=by
 simp  [cP,ar]at h;split at h
 ·rename_i l ah;obtain⟨b,aw,an⟩:=tR h;split at an;case isFalse=>grind
  rename_i hlen;simp  at an;subst an;intro a w kap F Q D ba _;have ae:=db D x rfl ba;obtain⟨bR,ck,c8⟩:=D.newVar (b:=b) (D.iL (bh b aw)) (t:=T ty) (ty:=ty) (PX ah ae) hlen (by
   by_cases hu:T ty=.dh
   ·rw[hu];intro n s h;cases h
   ·exact (aT.cB rfl hu).YC)
  have ds:(execOp a.eval o).run C.P w=.ok (.value (.pointer (some ⟨w.heap.size,0,none⟩))) (w.alloc (.cells (a.eval x).cells.toList.toArray ty)):=by
   simp[execOp,ar,Instr.box,newVar,newRow]
  refine h8 (by grind) ds ⟨bR,F,bw.set   ck bh ⟨⟨?_,rfl⟩,λ_ _=>?_⟩⟩
  ·simp[aC.cn]
  grind
 ·cases h
variable {P:Program}
theorem ant:∀ (t:V) {l:List Field} {off:Nat},de P t (.inr (l,off))=true->∀ f∈l,∃ s,cv P s f.type:=by
 intro t;induction t with
 | au a b gI fS=>
  intro l off h;match l,h with
  | [],h=>simp
  | [x],h=>simp  [de]at h
  | [x,y],h=>
   simp  [de]at h;intro f ax;simp  at ax;rcases ax with rfl | rfl
   ·exact⟨a,h.1.1.1.2⟩
   ·exact⟨b,h.2.1.1.2⟩
  | x::y::z::l,h=>
   simp  [de]at h;intro f ax;rcases List.mem_cons.1 ax with rfl | ax
   ·exact⟨a,h.1.1.1.2⟩
   grind
 | _=>intro l off h;simp only[de,aml]at h
theorem cv.anu{t:V}{id:TypeId}(h:cv P (.ad t) id){f_:Array Field}(kx:P.underlying id=some (.struct f_)):∀ f∈f_.toList,∃ s,cv P s f.type:=by
 obtain⟨_,_,ak,aZ⟩:=h.F1;rw[kx]at aZ;simp  at aZ;rw[<-aZ]at ak;rcases ak with ak | ⟨f,e,_,ak,_⟩ | ⟨_,e⟩
 ·exact ant t ak
 ·grind
 grind
theorem fy.replace{H:Nat->b7}{kap:Nat->bI}{F:Nat->Prop}{w:World}{as l:List aL}{us aH:List Value}(h:fy P H kap F w as us)(k:fy P H kap F w l aH)(off:Nat) :
  fy P H kap F w (as.take off++(l++as.drop (off+l.length))) (us.take off++(aH++us.drop (off+aH.length))):=by
 have F7:∀ {as:List aL} {us:List Value} (n:Nat),fy P H kap F w as us->fy P H kap F w (as.take n) (us.take n):=by
  intro as;induction as with
  | nil=>intro us n h;cases us<;>first | exact h.elim | grind
  | cons a as aO=>intro us n h;cases us with
   | nil=>exact h.elim
   | cons u us=>cases n with
    | zero=>trivial
    | succ n=>exact⟨h.1,aO n h.2⟩
 have anv:∀ {as:List aL} {us:List Value} (n:Nat),fy P H kap F w as us->fy P H kap F w (as.drop n) (us.drop n):=by
  intro as;induction as with
  | nil=>intro us n h;cases us<;>first | exact h.elim | grind
  | cons a as aO=>intro us n h;cases us with
   | nil=>exact h.elim
   | cons u us=>cases n with
    | zero=>grind
    | succ n=>exact aO n h.2
 rw[<-k.len];exact (F7 off h).append (k.append (anv _ h))
theorem YL{P:Program}{H:Nat->b7}{kap:Nat->bI}{F:Nat->Prop}{w:World}{t:V}{id:TypeId}{f_:Array Field}(dC:cv P (.ad t) id)(kx:P.underlying id=some (.struct f_)){place:Nat->Option (z24')}
  (l8:∀ i f s,f_[i]?=some f->cv P s f.type->place i=some (f.offset,s.size)):∀ (bu:List (Nat×aL)) (iz:List (Nat×Value)) {as Kd:List aL} {cs:Array Value},fy P H kap F w as cs.toList->JZ t as bu=some Kd->
  bu.length=iz.length->(∀ i (h:i<bu.length) (eX:i<iz.length),bu[i].1=iz[i].1/\bJ P H kap F w bu[i].2 iz[i].2)->∃ eo,Instr.fill place cs iz=some eo/\fy P H kap F w Kd eo.toList
 | [],[],as,Kd,cs,aW,ax,_,_=>by cases ax;exact⟨cs,rfl,aW⟩
 | (i,av)::bu,(n2,v)::iz,as,Kd,cs,aW,ax,hlen,gu=>by
  have aV:=gu 0 (by simp) (by simp);simp  at aV;obtain⟨rfl,ae⟩:=aV;simp  [JZ]at ax;split at ax
  ·grind
  ·rename_i s off ve;split at ax
   ·grind
   ·rename_i l ah;split at ax
    ·rename_i hc;obtain⟨aLk,p8,f1,f2,f3,f4,f5⟩:=dC.field ve;rw[kx]at f1;simp  at f1;subst f1;have aj:=l8 i p8 s f2 f4;rw[f3]at aj;have ka:=PX ah ae;have cI:v.cells.size=s.size:=by have:=ka.len;grind
     have qO:=by simpa using aW.len
     have Ke:=Kb v.cells.toList 0 off cs (by grind);have e:(v.cells.zipIdx.foldl (λcs p=>cs.setIfInBounds (off+p.2) p.1) cs)=((v.cells.toList.zipIdx 0).foldl (λcs p=>cs.setIfInBounds (off+p.2) p.1) cs):=by
      rw[<-Array.foldl_toList];simp
     have F8:=aW.replace ka off;rw[hc.1]at F8;obtain⟨eo,aM,aS⟩:=YL dC kx l8 bu iz (cs:=v.cells.zipIdx.foldl (λcs p=>cs.setIfInBounds (off+p.2) p.1) cs) (by rw[e,Ke];omega) ax (by grind)
      (λj h eX=>by have:=gu (j+1) (by grind) (by grind);grind)
     simp  [Instr.fill];grind
    grind
 | [],_::_,_,_,_,_,_,hlen,_=>by grind
 | _::_,[],_,_,_,_,_,hlen,_=>by grind
theorem YM:∀ {l:List (Nat×aL)},ym l->∀ i (h:i<l.length),(use l[i].2).1
 | a::l,h,0,_=>by
  obtain⟨n,a⟩:=a;cases a<;>first | trivial | exact h.1
 | a::l,h,i+1,G=>by
  have eX:=by obtain⟨n,a⟩:=a;cases a<;>first | exact h | exact h.2
  have:=YM eX i (by grind);grind
theorem PY{a:Act}{w:World}{kap:Nat->bI}{F:Nat->Prop}(D:bw C s a w kap F)(bu:List (Nat×Operand))(ba:ym (bu.map λp=>(p.1,be C.aU s.az p.2))) :
  ∀ i (h:i<(lA (bu.map λp=>(p.1,be C.aU s.az p.2))).length) (eX:i<(bu.map λp=>(p.1,a.eval p.2)).length),(lA (bu.map λp=>(p.1,be C.aU s.az p.2)))[i].1=(bu.map λp=>(p.1,a.eval p.2))[i].1/\bJ C.P s.aa kap F w (lA (bu.map λp=>(p.1,be C.aU s.az p.2)))[i].2 (bu.map λp=>(p.1,a.eval p.2))[i].2:=by
 intro i h eX;have E:=YM ba i (by grind);simp  at E;simp  [lA];exact qN (lD D _) E
theorem anw(aT:ed C.P T){ty:TypeId}{bu:Array (Nat×Operand)}(bh:∀ i,o.dst=some i->i<C.bV)(ar:o.op=.build ty bu)(PZ:∀ m e,T ty≠.array m e)(h:(cP C.aU T bs (be C.aU s.az) o).run s.aa=some res):cR C o s res:=by
 obtain⟨bu⟩:=bu;simp only[cP,ar]at h;split at h
 ·rename_i t aG;have dC:=aT.cB aG (by simp);split at h
  ·rename_i cs qO;simp only[da,aE.dy,amk]at h;subst h;refine cR.pure (by grind) bh λa w kap F D ba _=>?_;obtain⟨f_,kx⟩:=dC.ad;obtain⟨i,z,E,L,ak,aZ,bP,ej⟩:=nq dC.np;obtain⟨c,e,iy,z2⟩:=yl (P:=C.P) (H:=s.aa) (kap:=kap) (F:=F) (w:=w) (.ad t) bP;rw[aPN]at e;have anx:=dC.anu kx;have hm:=ChangeMaps.mapM_total (f:=λ(f:Field)=>(C.P.info? f.type).map λi=>(f.offset,i.size)) (0,0) (l:=f_.toList) (λf ax=>by
    obtain⟨s',vf⟩:=anx f ax;obtain⟨n2,_,CX,_⟩:=nq vf.np;simp_all)
   have l8:=run_places (P:=C.P) w f_.toList _ hm;obtain⟨eo,aM,aS⟩:=YL (w:=w) dC kx (place:=λj=>((f_.toList.map λf=>((C.P.info? f.type).map λi=>(f.offset,i.size)).getD (0,0)))[j]?)
    (λj f s' aJ vf=>by
     obtain⟨n2,_,CX,tX,_⟩:=nq vf.np;grind)
    _ _ (by rw[e];exact z2) qO (by simp[lA]) (PY D bu ba)
   have hlen:=by simpa using aS.len
   refine⟨.agg eo,?_,eo.toList,by simp,by grind,λj aJ=>?_⟩
   ·have sG:(f_.mapM λf=>do pure (f.offset,<-sizeOf f.type):Sem (Array (z24'))).run C.P w=.ok (f_.toList.map λf=>((C.P.info? f.type).map λi=>(f.offset,i.size)).getD (0,0)).toArray w:=by
     rw[Array.mapM_eq_mapM_toList];simp_all
    simp  [execOp,ar,Instr.build,sD E aZ,en kx];simp_all
   ·have:=aS.mO j aJ;omega
  ·cases h
 ·grind
 ·cases h
end
end Go.Fer
namespace Go.Fer
open Go.RowKit
section
variable {C:cF} {T:Nat->V} {bs:Nat->Option aN} {o:Oper} {s:aC} {res:eA}
theorem Kf{P:Program}{w w':World}{t:V}{id:TypeId}(h:cv P t id){p:Addr}{v:Value}(cI:v.cells.size=t.size)(ay:(storeCells p v.cells.toList).run P w=.ok () w'):(storeVar id p v).run P w=.ok () w':=by
 simp[storeVar,h.size,cI,ay]
theorem anz(aT:ed C.P T){ty:TypeId}{x y:Operand}(bh:o.dst=none)(ar:o.op=.store ty x y)(h:(cP C.aU T bs (be C.aU s.az) o).run s.aa=some res):cR C o s res:=by
 simp only[cP,ar]at h;split at h
 ·rename_i cz b g i ao;unfold PG at h;split at h
  ·rename_i bf g' a_;simp only[aE.gU,aE.dy]at h;split at h
   ·rename_i e xs n2 v ch;split at h
    ·rename_i hc;obtain⟨aD,ah⟩:=hc;simp only[amk]at h;subst h;intro a w kap F Q D ba G;have G:i=n2:=G;subst G;have E:=(db D x ao ba.1).2 aD.symm (by rw[ch];rfl);have ae:=db D y (av:=.own bf g') (p:=(use (be C.aU s.az y)).1) (by rw[<-a_]) ba.2;have aX:=D.bC b;unfold c7 at aX;rw[ch]at aX E;obtain⟨aV,cs,h9,bE,c2,c3,c4,c5,pk,rC,yo⟩:=aX;have dC:=aT.cB (t:=T ty) rfl (by intro e;rw[e]at ah;cases ah);have oM:=JO ae.1.2;have cI:(a.eval y).cells.size=(T ty).size:=by
      rw[oM];cases aG:T ty<;>simp_all[V.fY,V.size]
     have ki:(kap b).off+i<cs.size:=by
      have:i<(kap b).cap:=by omega
      rw[c5.1]at c2;omega
     have aj:a.eval x=.pointer (some ⟨(kap b).aa,(kap b).off+i,none⟩):=by rw[E.2.2];simp[b8.gJ,c5.1]
     obtain⟨w',eo,ck,c8,fB,n5,n6,oN⟩:=yp (P:=C.P) (a.eval y).cells.toList ((kap b).off+i) 0 w cs bE (by rw[oM];simp;omega) (λu hu=>by rw[oM]at hu;simp at hu;rw[hu];exact ae.1.2);refine F0 (w':=w') (by grind) (by simp[execOp,ar,aj,Instr.storeAt,Instr.sureAddr,Kf dC cI ck]) ?_;rw[bh];refine⟨kap,F,?_⟩;have hp:fL s.aa kap (λq=>if q=b then (⟨(s.aa b).gen,.h7 e xs i (.own bf g')⟩:b7) else s.aa q) kap:=
      pf rfl (λh=>by cases h) (λ_=>by rw[ch];exact⟨rfl,rfl,rfl⟩) (λh=>by cases h) (λh=>by cases h)
     refine (D.qL (b:=b) (x:=⟨(s.aa b).gen,.h7 e xs i (.own bf g')⟩) (by rw[ch];simp[b8.cd,aV]) (by simp[b8.cd,aV]) hp (λh=>by cases h) (λh=>by cases h) n5 n6 oN λH po dk he=>?_);rw[oM]at fB;simp only[aRh]at fB;have fz:∀ k,eo[k]?=if k=(kap b).off+i then some (a.eval y) else cs[k]?:=by
      intro k;rw[<-aPX,fB];have mx:(cs.toList.take ((kap b).off+i)).length=(kap b).off+i:=by rw[aQm,aPI];omega
      rcases Nat.lt_trichotomy k ((kap b).off+i) with an | an | an
      ·rw[if_neg (by omega),aPW (by omega),List.getElem?_take_of_lt an,aPX]
      ·rw[if_pos an,amu (by omega),mx,an];simp
      ·rw[if_neg (by omega),amu (by omega),mx,amu (by simp;omega),aQz];simp only[aQn,List.length_nil];rw[show (kap b).off+i+(0+1)+(k - ((kap b).off+i) - (0+1))=k from by omega,aPX]
     have Kg:eo.size=cs.size:=by
      rw[<-aPI,fB];grind
     have b_:eo.getD ((kap b).off+i) Go.undef=a.eval y:=by
      rw[aPz,fz];simp
     refine⟨aV,eo,h9,c8,by omega,c3,c4,c5,λj aJ wQ=>?_,by rw[b_];exact bJ.later dk (λ_ D=>D) he ae,by rw[b_];exact ae.1.2⟩;obtain⟨bB,d1,d2⟩:=pk j aJ wQ;refine⟨bB,λq bq=>?_,fK e (λ_ D=>D) he d2⟩;have vg:q=0:=by have:=jP e d2;omega
     subst vg;rw[fz,if_neg (by rw[c5.1];omega)];exact d1 0 bq
    ·cases h
   ·cases h
  ·cases h
 rename_i cz e9 anA ao;simp only[aE.fZ,amj,aE.dy,amk]at h;obtain⟨wl,n7,rfl⟩:=h;have P0:cz=(use (be C.aU s.az x)).1:=by rw[ao]
 have Ao:e9=(use (be C.aU s.az x)).2:=by rw[ao]
 subst P0;subst Ao;clear ao anA;intro a w kap F Q D ba _;have aj:bJ C.P s.aa kap F w (use (be C.aU s.az x)).2 (a.eval x):=db D x rfl ba.1;have ae:bJ C.P s.aa kap F w (use (be C.aU s.az y)).2 (a.eval y):=db D y rfl ba.2;generalize (use (be C.aU s.az x)).2=anB at *
 generalize (use (be C.aU s.az y)).2=kv at *
 have aw:∀ c,o.op≠.defer c:=by grind
 have fin:∀ w',(Instr.storeAt ty (a.eval x) (a.eval y)).run C.P w=.ok () w'->dc C (s.iw wl) a w'->o.wpIn (eZ C.r) 0 C.P a w (λa' w'=>dc C (s.jE o.dst ⟨(use (be C.aU s.az x)).1/\(use (be C.aU s.az y)).1,True,.undef,wl⟩) a' w') Q:=by
  intro w' E L;refine F0 (w':=w') aw (by simp[execOp,ar,E]) ?_;rw[bh];exact L
 unfold Yl at n7;cases anB with
 | eY b g off=>
  simp only[aE.gU,aE.dy]at n7;split at n7
  ·rename_i aD;split at n7
   ·rename_i n f ch;simp only[amj]at n7;obtain⟨l,ah,n7⟩:=n7;split at n7
    ·rename_i hc;simp only[amk]at n7;subst n7;have Kh:=aj.2 aD.symm (by rw[ch];rfl);have ka:=PX ah ae;have aX:=D.bC b;unfold c7 at aX;rw[ch]at aX;obtain⟨cs,h9,bE,c2,c3⟩:=aX;have hlen:=ka.len;have qb:∀ u∈(a.eval y).cells.toList,u.oneCell'=true:=by
      intro u hu;obtain⟨i,G,rfl⟩:=List.mem_iff_getElem.1 hu;have:=(ka.mO i (by omega)).2;grind
     obtain⟨w',eo,ck,c8,fB,n5,n6,oN⟩:=yp (P:=C.P) (a.eval y).cells.toList off 0 w cs bE (by omega) qb;have cI:(a.eval y).cells.size=(T ty).size:=by grind
     have F9:T ty≠.dh:=by
      intro e;rw[e]at ah;cases kv<;>simp[cellsOf,V.fY]at ah
     refine fin w' (by rw[Kh];simp[Instr.storeAt,Instr.sureAddr,Kf (aT.cB rfl F9) cI ck]) ⟨kap,F,?_⟩;have hp:fL s.aa kap (λi=>if i=b then (⟨(s.aa b).gen,.cells n (putCells f off l)⟩:b7) else s.aa i) kap:=
      pf rfl (λ_=>by rw[ch];rfl) (λh=>by cases h) (λh=>by cases h) (λh=>by cases h)
     refine (D.qL (b:=b) (x:=⟨(s.aa b).gen,.cells n (putCells f off l)⟩) (by rw[ch];rfl) rfl hp (λ_=>by rw[ch];rfl) (λh=>by cases h) n5 n6 oN λH po dk he=>?_);have Kg:eo.size=n.size:=by
      rw[<-aPI,fB];grind
     refine⟨eo,h9,c8,⟨Kg,c2.2⟩,λi G=>?_⟩;have bL:eo.getD i Go.undef=eo.toList.getD i Go.undef:=by simp
     rw[bL,fB];have n8:l.length=(a.eval y).cells.toList.length:=hlen;simp only[aRh];have mx:(cs.toList.take off).length=off:=by grind
     unfold putCells;by_cases a8:off<=i/\i<off+l.length
     ·rw[if_pos a8];have aB:(cs.toList.take off++((a.eval y).cells.toList++cs.toList.drop (off+(a.eval y).cells.toList.length))).getD i Go.undef=(a.eval y).cells.toList.getD (i - off) Go.undef:=by
       grind
      rw[aB];have:=ka.mO (i - off) (by omega);exact⟨bJ.later dk (λ_ D=>D) he this.1,this.2⟩
     ·rw[if_neg a8];have aB:(cs.toList.take off++((a.eval y).cells.toList++cs.toList.drop (off+(a.eval y).cells.toList.length))).getD i Go.undef=cs.getD i Go.undef:=by
       rcases aQD i off with E | E
       ·rw[amp,aPW (by omega)];simp_all
       ·rw[amp,amu (by omega),mx,amu (by omega),aQz];rw[show off+(a.eval y).cells.toList.length+(i - off - (a.eval y).cells.toList.length)=i from by omega];simp
      rw[aB];exact⟨bJ.later dk (λ_ D=>D) he (c3 i G).1,(c3 i G).2⟩
    grind
   grind
  grind
 | qJ b g i off=>
  simp only[aE.fZ,amj,aE.run_bind,aE.gU,aE.dy]at n7;obtain⟨⟨z,l⟩,bA,n7⟩:=n7;split at n7
  ·rename_i aD;obtain⟨aD,CY⟩:=aD;have CY:b ∉ l:=by grind
   split at n7
   ·rename_i e xs ch;simp only[aP3]at n7;obtain⟨oO,CW,rfl⟩:=n7;obtain⟨e8,e_,mv⟩:=aj.2 aD.symm (by rw[ch];rfl);rw[ch]at e8 mv;simp only[b8.len,b8.gJ]at e8 mv;obtain⟨F',f1,bj,f2⟩:=bw.mR (pn bA) D;have yq:=oK D.bC f1 bA f2 ae;have P1:((s.cC l).aa b)=s.aa b:=by simp[aC.cC,CY]
    have aX:=bj.bC b;unfold c7 at aX;rw[P1,ch]at aX;obtain⟨cs,h9,bE,c2,c3,c4,c5⟩:=aX.2 e_;obtain⟨bB,d1,d2⟩:=c5 i e8;have PQ:xs.getD i e.dU=xs[i]:=by grind
    rw[PQ]at CW;have iA:=jP e d2;obtain⟨cO,cJ,gT,bq,aLl,aLm,anC⟩:=amQ e d2 CW yq.2;have F9:T ty≠.dh:=by
     intro aY;have:=yq.1;rw[aY]at this;exact this
    have Ap:(a.eval y).cells.toList.length=(T ty).size:=yq.1.len;have Ki:(i+1)*e.size<=(kap b).cap*e.size:=amt _ (by omega);have hbound:off+(T ty).size<=e.size:=by
     grind
    have qb:∀ u∈(a.eval y).cells.toList,u.oneCell'=true:=by
     intro u hu;have ka:=CG (P:=C.P) (H:=λ_=>⟨0,.ey⟩) (kap:=λ_=>⟨0,0,0,true⟩) (T ty) yq.2;obtain⟨j,aJ,rfl⟩:=List.mem_iff_getElem.1 hu;have:=(ka.mO j (by rw[ka.len];exact aJ)).2;grind
    have ki:(kap b).off+i*e.size+off+0+(a.eval y).cells.toList.length<=cs.size:=by
     grind
    obtain⟨w',eo,ck,c8,fB,n5,n6,oN⟩:=yp (P:=C.P) (a.eval y).cells.toList ((kap b).off+i*e.size+off) 0 w cs bE ki qb;refine fin w' (by rw[mv];simp[Instr.storeAt,Instr.sureAddr,Kf (aT.cB rfl F9) (by omega) ck]) ⟨kap,F',?_⟩;have tY:s.iw ((ke l).run s.aa++[(b,⟨(s.aa b).gen,.bl e (xs.set i oO)⟩)])=(s.cC l).cn b ⟨(s.aa b).gen,.bl e (xs.set i oO)⟩:=by
     rw[CV,tV]
    rw[tY];have hp:fL (s.cC l).aa kap (λn2=>if n2=b then (⟨(s.aa b).gen,.bl e (xs.set i oO)⟩:b7) else (s.cC l).aa n2) kap:=
     pf (by grind) (λh=>by cases h) (λ_=>by rw[P1,ch];exact⟨rfl,by simp[b8.len],rfl⟩) (λh=>by cases h) (λh=>by cases h)
    have YN:(kap b).fT=false:=e_;refine bj.qL (b:=b) (x:=⟨(s.aa b).gen,.bl e (xs.set i oO)⟩) (by rw[P1,ch];simp[b8.cd,YN]) (by simp[b8.cd,YN]) hp (λh=>by cases h) (λh=>by cases h) n5 n6 oN λH po dk he=>?_;refine⟨λaA=>(by grind),λ_=>?_⟩;have Kg:eo.size=cs.size:=by
     rw[<-aPI,fB];grind
    refine⟨eo,h9,c8,by omega,by grind,c4,λj aJ=>?_⟩;have gD:j<xs.length:=by grind
    simp only[aRh]at fB ki;have fz:∀ k,eo[k]?=if (kap b).off+i*e.size+off<=k/\k<(kap b).off+i*e.size+off+(T ty).size then (a.eval y).cells.toList[k - ((kap b).off+i*e.size+off)]? else cs[k]?:=by
     intro k;rw[<-aPX,fB];have mx:(cs.toList.take ((kap b).off+i*e.size+off)).length=(kap b).off+i*e.size+off:=by grind
     by_cases a8:(kap b).off+i*e.size+off<=k/\k<(kap b).off+i*e.size+off+(T ty).size
     ·rw[if_pos a8,amu (by omega),mx,aPW (by omega)]
     ·rw[if_neg a8];rcases aQD k ((kap b).off+i*e.size+off) with E | E
      ·grind
      ·rw[amu (by omega),mx,amu (by omega),aQz];rw[show (kap b).off+i*e.size+off+(a.eval y).cells.toList.length+(k - ((kap b).off+i*e.size+off) - (a.eval y).cells.toList.length)=k from by omega];simp
    by_cases wQ:j=i
    ·subst wQ;have aB:(xs.set j oO)[j]=oO:=by simp
     rw[aB];refine⟨cO++((a.eval y).cells.toList++gT),λk an=>?_,fK e (λ_ D=>D) he anC⟩;rw[fz];subst bq;simp only[aP1]at an iA;by_cases a8:off<=k/\k<off+(T ty).size
     ·rw[if_pos (by omega)];rw[show (kap b).off+j*e.size+k - ((kap b).off+j*e.size+off)=k - cO.length from by omega];grind
     grind
    ·have aB:(xs.set i oO)[j]=xs[j]:=by grind
     rw[aB];obtain⟨YO,P2,Aq⟩:=c5 j gD;refine⟨YO,λk an=>?_,fK e (λ_ D=>D) he Aq⟩;rw[fz,if_neg]
     ·grind
     ·have aLn:=jP e Aq;rcases aQD j i with E | E
      ·have:(j+1)*e.size<=i*e.size:=amt _ (by omega);grind
      ·have:(i+1)*e.size<=j*e.size:=amt _ (by omega);grind
   grind
  grind
 | _=>cases n7
end
end Go.Fer
