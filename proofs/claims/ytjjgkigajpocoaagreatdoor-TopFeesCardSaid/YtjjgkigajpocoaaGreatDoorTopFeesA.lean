/- Part 1 of the proof of TopFees: shallow programs of Go functions, and what they compute. No condition. -/
import Derived.Below
import Derived.OrdersIn
import Derived.RangeFuncCalls
import Derived.RangeFuncSeq
import Derived.Laws.StructEq
import Derived.Laws.Tables
import Derived.ChangeMaps3
noncomputable section
abbrev amU:=@Option.bind_eq_some_iff
abbrev amV:=@List.getElem_mem
abbrev amW:=@Bool.false_eq_true
abbrev amX:=@Bool.and_eq_true
abbrev amY:=@Nat.le_refl
abbrev amZ:=@Option.some.injEq
abbrev am0:=@decide_eq_true_eq
abbrev am1:=@List.getD_eq_getElem?_getD
abbrev am2:=@List.mem_cons_of_mem
abbrev am3:=@List.getElem?_eq_getElem
abbrev am4:=@Nat.mul_le_mul_right
abbrev am5:=@Nat.le_trans
abbrev am8:=@List.getElem?_append_right
abbrev aQs:=@Option.getD_some
abbrev aQt:=@Nat.lt_of_lt_of_le
abbrev aQu:=@Array.getD_eq_getD_getElem?
abbrev aQv:=@if_false
abbrev aQw:=@List.getElem_range
abbrev aQx:=@Prod.mk.injEq
abbrev aQy:=@List.drop_eq_getElem_cons
abbrev aQz:=@List.map_congr_left
abbrev aQA:=@Bool.not_eq_true'
abbrev aQB:=@Int.le_refl
abbrev aQC:=@List.cons.inj
abbrev aQD:=@List.append_nil
abbrev aQE:=@decide_eq_false_iff_not
abbrev aQF:=@Nat.zero_le
abbrev aQG:=@Option.isSome_some
abbrev aQH:=@Bool.or_eq_true
abbrev aQI:=@Int.toNat_natCast
abbrev aQJ:=@List.length_map
abbrev aQK:=@Array.length_toList
abbrev aQL:=@List.all_eq_true
abbrev aQM:=@List.mem_of_mem_take
abbrev aQN:=@decide_eq_true
abbrev aQO:=@List.getElem?_append_left
abbrev aQP:=@Array.getElem?_toList
abbrev aQQ:=@List.foldl_cons
abbrev aQR:=@of_decide_eq_true
abbrev aQS:=@List.eq_nil_of_length_eq_zero
abbrev aQT:=@List.map_append
abbrev aQU:=@List.mem_of_find?_eq_some
abbrev aQV:=@List.flatMap_cons
abbrev aQW:=@List.length_append
abbrev aQX:=@Option.map_eq_some_iff
abbrev aQY:=@List.mem_append_right
abbrev aQZ:=@implies_true
abbrev aQ0:=@List.map_cons
abbrev aQ1:=@List.append_assoc
abbrev aQ2:=@decide_eq_false
abbrev aQ3:=@List.length_filter_le
abbrev aQ4:=@List.take_length
abbrev aQ5:=@Bool.or_eq_false_iff
abbrev aQ6:=@decide_eq_true_iff
abbrev aQ7:=@Option.some.inj
abbrev aQ8:=@Nat.add_mul
abbrev aQ9:=@decide_false
abbrev aQ':=@List.mem_map_of_mem
abbrev aRa:=@List.nil_append
abbrev aRb:=@List.length_take
abbrev aRc:=@Bool.not_true
abbrev aRd:=@List.all_cons
abbrev aRe:=@Nat.lt_succ_self
abbrev aRf:=@List.getElem_map
abbrev aRg:=@List.length_replicate
abbrev aRh:=@Bool.not_false
abbrev aRi:=@List.getElem?_cons_succ
abbrev aRj:=@Bool.false_or
abbrev aRk:=@List.filter_append
abbrev aRl:=@List.length_set
abbrev aRm:=@Array.getElem?_eq_getElem
abbrev aRn:=@List.getElem?_toArray
abbrev aRo:=@List.set_getElem_self
abbrev aRp:=@List.getElem?_drop
abbrev aRq:=@List.range_eq_range'
abbrev aRr:=@List.any_cons
abbrev aRs:=@Nat.lt_or_ge
abbrev aRt:=@Nat.zero_add
abbrev aRu:=@List.take_add_one
abbrev aRv:=@List.take_of_length_le
abbrev aRw:=@List.pairwise_lt_range
abbrev aRx:=@and_self
abbrev aRy:=@List.perm_ext_iff_of_nodup
abbrev aRz:=@List.mem_cons_self
abbrev aRA:=@List.mem_singleton
abbrev aRB:=@List.getElem_append_right
abbrev aRC:=@List.mem_append_left
abbrev aRD:=@List.mem_of_getElem?
abbrev aRE:=@Nat.pow_le_pow_right
abbrev aRF:=@List.filter_congr
abbrev aRG:=@Array.getElem?_replicate
abbrev aRH:=@List.mem_append
abbrev aRI:=@List.getElem?_map
abbrev aRJ:=@List.getElem?_cons_zero
abbrev aRK:=@List.mem_cons
abbrev aRL:=@Bool.true_and
abbrev aRM:=@List.flatMap_append
abbrev aRN:=@Nat.pos_of_ne_zero
abbrev aRO:=@List.getElem?_take
abbrev aRP:=@List.take_append_drop
abbrev aRQ:=@List.length_singleton
abbrev aRR:=@List.ext_getElem?
abbrev aRS:=@List.pairwise_map
abbrev aRT:=@List.Pairwise.filter
abbrev aRU:=@List.length_cons
abbrev aRV:=@List.ext_getElem
abbrev aRW:=@List.not_mem_nil
abbrev aRX:=@List.filterMap_cons
abbrev aRY:=@List.mem_map
abbrev aRZ:=@List.map_map
abbrev aR0:=@Int.le_trans
abbrev aR1:=@and_true
abbrev aR2:=@Option.map_some
abbrev aR3:=@List.range_succ
abbrev aR4:=@Option.toList_some
abbrev aR5:=@Bool.true_eq_false
abbrev aR6:=@List.flatten_cons
abbrev aR7:=@List.length_range
abbrev aR8:=@decide_true
abbrev aR9:=@List.mem_range
abbrev aR':=@Bool.false_and
abbrev aSa:=@Nat.add_zero
abbrev aSb:=@Nat.le_of_eq
abbrev aSc:=@Int.zero_add
abbrev aSd:=@List.range'_succ
abbrev aSe:=@Nat.le_of_not_lt
abbrev aSf:=@Nat.succ_lt_succ
abbrev aSg:=@Nat.zero_lt_succ
abbrev aSh:=@List.flatMap_map
abbrev aSi:=@true_and
abbrev z1':=List Int
abbrev z2':=List (List UInt8)
abbrev z11':=Int×Int
abbrev z15':=Int×z11'
abbrev z28':=Int×z15'
abbrev z3':=List (z28')
abbrev z4':=List (z11')
abbrev z5':=List (z15')
abbrev z21':=Nat×Nat
abbrev z6':=List (Nat×z21')
abbrev z7':=List ((z15')×Int)
abbrev z8':=List (Nat×(z21'))
abbrev z9':=List (z21')
abbrev z10':=List (Option Nat)
abbrev z12':=z3'×List (List (Int×z1'×z11'))×Int×z3'
abbrev z13':=List (Nat×z1')×Unit
abbrev z14':=z1'×Unit
abbrev z16':=(z11')×(Nat×Nat×Nat)×z13'
abbrev z17':=Int×z1'×z11'
abbrev z18':=Int×Int×Int×z15'
abbrev z19':=z1'×Int
abbrev z20':=Int×z14'
abbrev z22':=Int×Int×Int×Int×z1'
abbrev z23':=(z11')×Int
abbrev z24':=z1'×(Int×Int)×z15'
abbrev z25':=Int×Unit
abbrev z26':=List (z1')×Unit
abbrev z27':=Int×Bool
abbrev z29':=z6'×Int×Int×(z11')×z1'×z1'×z13'
abbrev z30':=List (z2')×z2'×Unit
abbrev z31':=List (z6')×z13'
abbrev z32':=List UInt8×Int
abbrev z33':=Int×z20'
abbrev z34':=z1'×z1'
set_option linter.unusedVariables false
set_option linter.unusedSimpArgs false
namespace Go.Fer
@[ext] structure L (af:Type):Type where
 fr:Prop
 a8:af->Prop
section
variable {af bet fs A rho:Type}
def mpure(x:af):L af:=⟨True,λy=>y=x⟩
def ar(m:L af)(f:af->L bet):L bet:=⟨m.fr/\∀ x,m.a8 x->(f x).fr,λy=>∃ x,m.a8 x/\(f x).a8 y⟩
def ah(p:Prop)(m:L af):L af:=⟨p/\m.fr,m.a8⟩
def eF(p:Prop)(x:af):L af:=⟨p,λy=>y=x⟩
def mS(p:af->Prop):L af:=⟨∃ x,p x,p⟩
variable {m:L af}
theorem Ae{n:L af}(E:m.fr<->n.fr)(M:∀ x,m.a8 x<->n.a8 x):m=n:=by
 cases m;cases n;simp only[L.mk.injEq];grind
@[simp] theorem tV (x:af):(mpure x).fr=True:=rfl
@[simp] theorem aL_ (x y:af):(mpure x).a8 y=(y=x):=rfl
@[simp] theorem aP (x:af) (f:af->L bet):ar (mpure x) f=f x:=Ae (by simp[ar,mpure]) (by simp[ar,mpure])
@[simp] theorem aL' (m:L af):ar m mpure=m:=Ae (by simp[ar,mpure]) (by simp[ar,mpure])
variable {p:Prop}
theorem bd(h:p)(m:L af):ah p m=m:=Ae (by simp[ah,h]) (by simp[ah])
@[simp] theorem ck (m:L af):ah True m=m:=bd trivial m
theorem FY(p:Prop)(m:L af)(f:af->L bet):ar (ah p m) f=ah p (ar m f):=Ae (by simp[ar,ah,and_assoc]) (by simp[ar,ah])
@[simp] theorem sM (x:af):eF True x=mpure x:=rfl
theorem bO(h:p)(x:af):eF p x=mpure x:=Ae (by simp_all) (by simp_all)
theorem e7(p:Prop)(x:af)(f:af->L bet):ar (eF p x) f=ah p (f x):=by
 apply Ae
 ·simp[ar,eF,ah]
 ·simp[ar,eF,ah]
theorem PT{c:Prop}[Decidable c](m n:L af)(f:af->L bet):ar (if c then m else n) f=if c then ar m f else ar n f:=by grind
def a_(n m:L af):Prop:=m.fr->n.fr/\∀ y,n.a8 y->m.a8 y
theorem w0(m:L af):a_ m m:=λh=>⟨h,λ_ h=>h⟩
theorem FZ{a b c:L af}(h:a_ a b)(k:a_ b c):a_ a c:=λax=>⟨(h (k ax).1).1,λy bf=>(k ax).2 y ((h (k ax).1).2 y bf)⟩
theorem F0{a b:L af}(h:a=b):a_ a b:=h ▸ w0 a
def c8(m:L af)(p:af->Prop):Prop:=m.fr/\∀ y,m.a8 y->p y
variable {p:af->Prop}
theorem c8.mono{q:af->Prop}(h:c8 m p)(k:∀ y,p y->q y):c8 m q:=⟨h.1,λy bf=>k y (h.2 y bf)⟩
theorem dR{x:af}:c8 (mpure x) p<->p x:=⟨λh=>h.2 x rfl,λh=>⟨trivial,λ_ e=>e ▸ h⟩⟩
theorem fS{f:af->L bet}{p:bet->Prop}:c8 (ar m f) p<->c8 m λx=>c8 (f x) p:=
 ⟨λh=>⟨h.1.1,λx an=>⟨h.1.2 x an,λy bf=>h.2 y ⟨x,an,bf⟩⟩⟩,λh=>⟨⟨h.1,λx an=>(h.2 x an).1⟩,λy ⟨x,an,bf⟩=>(h.2 x an).2 y bf⟩⟩
theorem ib{q:Prop}:c8 (ah q m) p<->q/\c8 m p:=by
 simp[c8,ah,and_assoc]
inductive aL(A rho:Type) where
 | az (s:A)
 | aX (r:rho)
inductive F1(body:A->L (aL A rho)):A->Prop where
 | mk (s:A) (h:(body s).fr) (k:∀ s',(body s).a8 (.az s')->F1 body s'):F1 body s
inductive CX(body:A->L (aL A rho)):A->rho->Prop where
 | aX (s:A) (r:rho) (h:(body s).a8 (.aX r)):CX body s r
 | az (s s':A) (r:rho) (h:(body s).a8 (.az s')) (k:CX body s' r):CX body s r
def dI(body:A->L (aL A rho))(s:A):L rho:=⟨F1 body s,CX body s⟩
theorem Af(body:A->L (aL A rho))(s:A) :
  dI body s=ar (body s) fun | .az s'=>dI body s' | .aX r=>mpure r:=by
 apply Ae
 ·constructor
  ·rintro⟨_,h,k⟩;refine⟨h,λx an=>?_⟩;cases x with
   | az s'=>exact k s' an
   | aX r=>trivial
  ·rintro⟨h,k⟩;exact⟨s,h,λs' ax=>k _ ax⟩
 ·intro r;constructor
  ·rintro (⟨_,_,h⟩ | ⟨_,s',_,h,k⟩)
   ·exact⟨.aX r,h,rfl⟩
   ·exact⟨.az s',h,k⟩
  ·rintro⟨x,an,D⟩;cases x with
   | az s'=>exact .az s s' r an D
   | aX jS=>cases D;exact .aX s _ an
theorem CY{body:A->L (aL A rho)}{s s':A}(h:body s=mpure (.az s')):dI body s=dI body s':=by
 rw[Af,h,aP]
theorem vo{body:A->L (aL A rho)}{s:A}{r:rho}(h:body s=mpure (.aX r)):dI body s=mpure r:=by
 rw[Af,h,aP]
theorem anb{body:A->L (aL A rho)}{res:rho}(I:A->Prop)(Ag:A->Nat)
  (round:∀ s,I s->(∃ s',body s=mpure (.az s')/\I s'/\Ag s'<Ag s)\/body s=mpure (.aX res)) (s:A) (h:I s) :
  dI body s=mpure res:=by
 have key:∀ n s,Ag s=n->I s->dI body s=mpure res:=by
  intro n;induction n using Nat.strongRecOn with
  | _ n aR=>
   intro s aA ax;rcases round s ax with⟨s',e,fk,dx⟩ | e
   ·rw[CY e];grind
   ·exact vo e
 grind
theorem Ah{body:A->L (aL A rho)}{p:rho->Prop}(I:A->Prop)(Ag:A->Nat)
  (round:∀ s,I s->c8 (body s) fun | .az s'=>I s'/\Ag s'<Ag s | .aX r=>p r) (s:A) (h:I s):c8 (dI body s) p:=by
 have key:∀ n s,Ag s=n->I s->c8 (dI body s) p:=by
  intro n;induction n using Nat.strongRecOn with
  | _ n aR=>
   intro s aA ax;rw[Af,fS];refine (round s ax).mono λy bf=>?_;cases y with
   | az s'=>grind
   | aX r=>exact dR.2 bf
 grind
end
end Go.Fer
namespace Go.Fer
def Yy(b:Nat)(c:Nat->Option Value):Prop:=
 match b with
 | 0=>∃ m,c 0=some (.int .i64 m)
 | 1 | 2=>∃ v,c 0=some v/\(v=.nilIface\/∃ n7 oL,v=.iface n7 oL)
 | 5=>∀ i,c i=if i<20 then some (.int .u64 (10 ^ i)) else none
 | _=>True
end Go.Fer
namespace Go.Fer
open Go.RowKit
inductive aa where
 | bool | int (k:IntKind) | str | dc
 | ae (t:aa) | aw (a b:aa)
 | slice (e:aa) | array (n:Nat) (e:aa) | bP (e:aa) | map (k v:aa) | fn (a b:aa) | cI (a:aa) | eY | cP (e:aa)
 deriving DecidableEq
@[reducible] def aa.aq:aa->Type
 | .bool=>Bool
 | .int _=>Int
 | .str=>List UInt8
 | .dc=>Unit
 | .ae t=>t.aq
 | .aw a b=>a.aq×b.aq
 | .slice e=>List e.aq
 | .array _ e=>List e.aq
 | .bP e=>Option e.aq
 | .map k v=>List (k.aq×v.aq)
 | .fn a b=>a.aq->L b.aq
 | .cI a=>List a.aq->Prop
 | .eY=>Option Nat
 | .cP _=>Nat×z21'
def aa.dW:(t:aa)->t.aq
 | .bool=>false
 | .int _=>(0:Int)
 | .str=>[]
 | .dc=>()
 | .ae t=>t.dW
 | .aw a b=>(a.dW,b.dW)
 | .slice _=>[]
 | .array n e=>List.replicate n e.dW
 | .bP _=>none
 | .map _ _=>[]
 | .fn _ _=>λ_=>⟨False,λ_=>False⟩
 | .cI _=>λ_=>False
 | .eY=>none
 | .cP _=>(0,0,0)
def aa.size:aa->Nat
 | .dc=>0
 | .ae t=>t.size
 | .aw a b=>a.size+b.size
 | .array n e=>n*e.size
 | _=>1
def aa.gb:aa->Bool
 | .dc | .ae _ | .aw _ _ | .array _ _=>false
 | _=>true
def gQ(k:IntKind)(n:Int):Prop:=k.min<=n/\n<=k.max
instance (k:IntKind) (n:Int):Decidable (gQ k n):=inferInstanceAs (Decidable (_/\_))
def Holds(F:Nat->Prop)(w:World)(p:Addr)(cs:List Value):Prop:=
 F p.block/\p.spot=none/\∀ j (h:j<cs.length),w.cell? ⟨p.block,p.off+j,none⟩=some cs[j]
def dk(F:Nat->Prop)(w w':World):Prop:=w.heap.size<=w'.heap.size/\∀ r,F r->w'.heap[r]?=w.heap[r]?
theorem dk.refl(F:Nat->Prop)(w:World):dk F w w:=⟨amY _,λ_ _=>rfl⟩
theorem dk.trans{F F':Nat->Prop}{a b c:World}(h:dk F a b)(bq:∀ r,F r->F' r)(k:dk F' b c):dk F a c:=
 ⟨am5 h.1 k.1,λr D=>(k.2 r (bq r D)).trans (h.2 r D)⟩
theorem dk.cell{F:Nat->Prop}{w w':World}(h:dk F w w'){a:Addr}(aZ:F a.block):w'.cell? a=w.cell? a:=by
 simp  [World.cell?,h.2 _ aZ]
def pj(P:Program)(F:Nat->Prop)(w:World):Prop:=∀ b,b<P.globals.size->F b/\Yy b λi=>w.cell? ⟨b,i,none⟩
variable {P:Program}{F:Nat->Prop}{F':Nat->Prop}{w:World}{w':World}
theorem pj.mono(h:pj P F w)(bq:∀ r,F r->F' r)(he:dk F w w'):pj P F' w':=λb U=>by
 obtain⟨E,M⟩:=h b U;have e:=funext λi=>he.cell (a:=⟨b,i,none⟩) E;grind
theorem Holds.mono{p:Addr}{cs:List Value}(h:Holds F w p cs)(bq:∀ r,F r->F' r)(he:dk F w w'):Holds F' w' p cs:=
 ⟨bq _ h.1,h.2.1,λj aM=>(he.cell (a:=⟨p.block,p.off+j,none⟩) h.1).trans (h.2.2 j aM)⟩
def l8:aa->Value->Prop
 | .ae t,v=>∃ cs:Array Value,v=.agg cs/\cs.size=t.size
 | .array n e,v=>∃ cs:Array Value,v=.agg cs/\cs.size=n*e.size
 | .dc,_=>False
 | .aw _ _,_=>False
 | _,v=>v.cells=#[v]
def fL(aI:List Value):List Value:=aI.flatMap (·.cells.toList)
@[simp] theorem Kb:fL []=[]:=rfl
@[simp] theorem anc (v:Value) (aI:List Value):fL (v::aI)=v.cells.toList++fL aI:=rfl
def w1:aa->List Value->Prop
 | .aw a b,v::aI=>l8 a v/\w1 b aI
 | .aw _ _,[]=>False
 | .dc,aI=>aI=[]
 | t,aI=>∃ v,aI=[v]/\l8 t v
def Kc:aa->Value->List Value->Prop
 | .aw _ _,v,aI=>v=.tuple aI.toArray
 | .dc,v,aI=>v=.tuple #[]/\aI=[]
 | _,v,aI=>aI=[v]
def w2(F:Nat->Prop)(w w':World):Nat->Prop:=λr=>F r\/(w.heap.size<=r/\r<w'.heap.size)
structure Kd(P:Program){af:Type}(R:(Nat->Prop)->World->List Value->af->Prop)(l:Nat)(S:List af->Prop)(I:List af->Bool->(Nat->Prop)->(Nat->Prop)->World->Prop):Prop where
 F2:∀ {pre ae} {F F' Y:Nat->Prop} {w w':World},I pre ae F Y w->(∀ r,F r->F' r)->(∀ r,F r\/Y r->w'.heap[r]?=w.heap[r]?)->w.heap.size<=w'.heap.size->w'.os=w.os/\w'.tape=w.tape/\w'.output=w.output->(∀ r,F' r->r<w'.heap.size)->(∀ r,F' r->¬Y r)->I pre ae F' Y w'
 yield:∀ {pre} {F Y:Nat->Prop} {w:World} {args:List Value} {x:af},I pre false F Y w->(∀ r,F r->r<w.heap.size)->(∀ r,Y r->r<w.heap.size/\¬F r)->(∃ T,S (pre++x::T))->R F w args x->
  YieldAt Fence.wide 0 P l args.toArray w λe w'=>∃ (b:Bool) (F' jk:Nat->Prop),e=.returned (.bool b)/\(∀ r,F r->F' r)/\(∀ r,F' r->F r\/Y r\/w.heap.size<=r)/\(∀ r,F' r->r<w'.heap.size)/\
   (∀ r,r<w.heap.size->¬Y r->w'.heap[r]?=w.heap[r]?)/\(∀ r,jk r->(Y r\/w.heap.size<=r)/\r<w'.heap.size/\¬F' r)/\w.heap.size<=w'.heap.size/\(w'.os=w.os/\w'.tape=w.tape/\w'.output=w.output)/\I (pre++[x]) (!b) F' jk w'
def Yz{af:Type}(S:List af->Prop)(I:List af->Bool->(Nat->Prop)->(Nat->Prop)->World->Prop)(F Y:Nat->Prop)(w:World)(e:Ending)(w':World):Prop:=
 ∃ v pre ae F' jk,e=.returned v/\(ae=false->S pre)/\I pre ae F' jk w'/\(∀ r,F r->F' r)/\(∀ r,F' r->F r\/Y r\/w.heap.size<=r)/\(∀ r,F' r->r<w'.heap.size)/\
  (∀ r,r<w.heap.size->¬Y r->w'.heap[r]?=w.heap[r]?)/\(∀ r,jk r->(Y r\/w.heap.size<=r)/\r<w'.heap.size/\¬F' r)/\w.heap.size<=w'.heap.size/\(w'.os=w.os/\w'.tape=w.tape/\w'.output=w.output)
def ane:Option Nat->Value
 | none=>.nilFunc
 | some k=>.func (.func k) #[] #[]
def cw(P:Program):(t:aa)->(Nat->Prop)->World->List Value->t.aq->Prop
 | .bool,_,_,cs,x=>cs=[.bool x]
 | .int k,_,_,cs,x=>cs=[.int k x]/\gQ k x
 | .str,_,_,cs,x=>cs=[.string ⟨x.toArray⟩]/\x.length<2 ^ 63
 | .dc,_,_,cs,_=>cs=[]
 | .ae t,F,w,cs,x=>cw P t F w cs x
 | .aw a b,F,w,cs,x=>∃ c d,cs=c++d/\cw P a F w c x.1/\cw P b F w d x.2
 | .slice e,F,w,cs,xs=>∃ a cap,cs=[.slice a xs.length cap]/\xs.length<=cap/\cap<2 ^ 63/\(a=none->cap=0)/\
   ∀ p,a=some p->0<cap->F p.block/\p.spot=none/\∀ i (h:i<xs.length),∃ bE,Holds F w ⟨p.block,p.off+i*e.size,none⟩ bE/\cw P e F w bE xs[i]
 | .array n e,F,w,cs,xs=>∃ gR:List (List Value),cs=gR.flatten/\gR.length=n/\xs.length=n/\∀ i (h:i<xs.length) (e3:i<gR.length),cw P e F w gR[i] xs[i]
 | .bP e,F,w,cs,x=>(cs=[.pointer none]/\x=none)\/∃ p y bE,cs=[.pointer (some p)]/\x=some y/\Holds F w p bE/\cw P e F w bE y
 | .map k v,F,w,cs,xs=>(cs=[.map none]/\xs=[])\/∃ r es clk,cs=[.map (some r)]/\F r/\w.heap[r]?=some (.map es clk)/\es.size=xs.length/\(xs.map (·.1)).Nodup/\
   (∀ i (h:i<xs.length) (e3:i<es.size),l8 k es[i].key/\cw P k F w es[i].key.cells.toList xs[i].1/\l8 v es[i].val/\cw P v F w es[i].val.cells.toList xs[i].2/\es[i].born<clk)/\
   (∀ i j (h:i<es.size) (e3:j<es.size),es[i].born=es[j].born->i=j)
 | .fn a b,F,w,cs,f=>∃ u,cs=[u]/\(u.cells=#[u]/\u.oneCell'=true)/\∀ (F':Nat->Prop) (w':World),(∀ r,F r->F' r)->dk F w w'->(∀ r,F' r->r<w'.heap.size)->pj P F' w'->
   ∀ args x,w1 a args->cw P a F' w' (fL args) x->(f x).fr->∃ g dS,u=.func (.func g) #[] dS/\(∀ as w,(callFunc g as).run P w=.ok (.enter g as) w)/\
    Calls P g (args.toArray++dS) w' λe w3=>∃ v y aI,e=.returned v/\(f x).a8 y/\Kc b v aI/\w1 b aI/\cw P b (w2 F' w' w3) w3 (fL aI) y/\Below w'.heap.size w' w3
 | .cI a,F,w,cs,S=>∃ u,cs=[u]/\(u.cells=#[u]/\u.oneCell'=true)/\∀ (F':Nat->Prop) (w':World),(∀ r,F r->F' r)->dk F w w'->(∀ r,F' r->r<w'.heap.size)->pj P F' w'->
   (∃ ad,S ad)->∃ g dS,u=.func (.func g) #[] dS/\(∀ as w,(callFunc g as).run P w=.ok (.enter g as) w)/\
    ∀ (l:Nat) (I:List a.aq->Bool->(Nat->Prop)->(Nat->Prop)->World->Prop) (Y:Nat->Prop),(∀ r,Y r->r<w'.heap.size/\¬F' r)->
     Kd P (λF w args x=>w1 a args/\cw P a F w (fL args) x) l S I->I [] false F' Y w'->Calls P g (#[Value.func (.yield l) #[] #[]]++dS) w' (Yz S I F' Y w')
 | .eY,_,_,cs,x=>cs=[ane x]
 | .cP e,_,_,cs,x=>(cs=[.slice none 0 0]/\x.2.2=0)\/∃ o c,cs=[.slice (some ⟨x.1,o,none⟩) x.2.2 c]/\x.2.2<=c/\c<2 ^ 63/\(0<c->o=x.2.1*e.size)
theorem jT:∀ (t:aa) {F:Nat->Prop} {w:World} {cs:List Value} {x:t.aq},cw P t F w cs x->cs.length=t.size:=by
 intro t;induction t with
 | bool=>grind [cw,aa.size]
 | int k=>intro F w cs x h;simp[h.1,aa.size]
 | str=>intro F w cs x h;simp[h.1,aa.size]
 | dc=>grind [cw,aa.size]
 | ae t aR=>intro F w cs x h;exact aR h
 | aw a b hp gq=>
  intro F w cs x h;obtain⟨c,d,rfl,aZ,U⟩:=h;grind [aa.size]
 | slice e aR=>intro F w cs x h;obtain⟨a,cap,rfl,_⟩:=h;rfl
 | array n e aR=>
  intro F w cs x h;obtain⟨gR,rfl,E,M,al⟩:=h;have:∀ l∈gR,l.length=e.size:=by
   grind [List.mem_iff_getElem]
  have a7:gR.map List.length=List.replicate n e.size:=by
   simp_all[List.eq_replicate_iff]
  simp[a7,aa.size]
 | bP e aR=>intro F w cs x h;rcases h with⟨rfl,_⟩ | ⟨p,y,bE,rfl,_⟩<;>rfl
 | map k v Ai Aj=>intro F w cs x h;rcases h with⟨rfl,_⟩ | ⟨r,es,clk,rfl,_⟩<;>rfl
 | fn a b hp gq=>intro F w cs x h;obtain⟨u,rfl,_⟩:=h;rfl
 | cI a aR=>intro F w cs x h;obtain⟨u,rfl,_⟩:=h;rfl
 | eY=>intro F w cs x h;subst h;rfl
 | cP e aR=>intro F w cs x h;rcases h with⟨rfl,_⟩ | ⟨o,c,rfl,_⟩<;>rfl
theorem fM:∀ (t:aa) {F F':Nat->Prop} {w w':World} {cs:List Value} {x:t.aq},(∀ r,F r->F' r)->dk F w w'->cw P t F w cs x->cw P t F' w' cs x:=by
 intro t;induction t with
 | bool=>intro F F' w w' cs x _ _ h;exact h
 | int k=>intro F F' w w' cs x _ _ h;exact h
 | str=>intro F F' w w' cs x _ _ h;exact h
 | dc=>intro F F' w w' cs x _ _ h;exact h
 | ae t aR=>grind [cw]
 | aw a b hp gq=>
  grind [cw]
 | slice e aR=>
  intro F F' w w' cs x bq he h;obtain⟨a,cap,rfl,E,M,al,a7⟩:=h;refine⟨a,cap,rfl,E,M,al,λp ak hc=>?_⟩;obtain⟨aO,aT,b7⟩:=a7 p ak hc;refine⟨bq _ aO,aT,λi G=>?_⟩;obtain⟨bE,m1,m2⟩:=b7 i G;exact⟨bE,m1.mono bq he,aR bq he m2⟩
 | array n e aR=>
  grind [cw]
 | bP e aR=>
  intro F F' w w' cs x bq he h;simp  [cw]at h ⊢;rcases h with h | ⟨p,y,bE,E,M,al,a7⟩
  ·grind
  ·exact .inr ⟨p,y,bE,E,M,al.mono bq he,aR bq he a7⟩
 | map k v Ai Aj=>
  intro F F' w w' cs x bq he h;simp only[cw]at h ⊢;rcases h with h | ⟨r,es,clk,E,M,al,a7,bR,er,jj⟩
  ·grind
  ·refine .inr ⟨r,es,clk,E,bq _ M,(he.2 _ M).trans al,a7,bR,λi G ea=>?_,jj⟩;grind
 | fn a b hp gq=>
  intro F F' w w' cs x bq he h;obtain⟨u,rfl,hu,E⟩:=h;exact⟨u,rfl,hu,λPU w3 yq Ak ax=>E PU w3 (λr D=>yq r (bq r D)) (he.trans bq Ak) ax⟩
 | cI a aR=>
  intro F F' w w' cs x bq he h;obtain⟨u,rfl,hu,E⟩:=h;exact⟨u,rfl,hu,λPU w3 yq Ak ax=>E PU w3 (λr D=>yq r (bq r D)) (he.trans bq Ak) ax⟩
 | eY=>intro F F' w w' cs x _ _ h;exact h
 | cP e aR=>intro F F' w w' cs x _ _ h;exact h
def ft(P:Program)(t:aa)(F:Nat->Prop)(w:World)(v:Value)(x:t.aq):Prop:=l8 t v/\cw P t F w v.cells.toList x
def gB(P:Program)(t:aa)(F:Nat->Prop)(w:World)(aI:List Value)(x:t.aq):Prop:=w1 t aI/\cw P t F w (fL aI) x
def tW(P:Program)(t:aa)(F:Nat->Prop)(w:World)(v:Value)(x:t.aq):Prop:=∃ aI,Kc t v aI/\gB P t F w aI x
variable {t:aa}{v:Value}
theorem ft.mono{x:t.aq}(h:ft P t F w v x)(bq:∀ r,F r->F' r)(he:dk F w w'):ft P t F' w' v x:=
 ⟨h.1,fM t bq he h.2⟩
theorem Ke(h:v.oneCell'=true):v.cells=#[v]:=by
 cases v<;>first | rfl | cases h
theorem YA(h:v.cells=#[v]):v.cells.toList=[v]:=by rw[h]
theorem l8.len(h:l8 t v):v.cells.toList.length=t.size:=by
 cases t<;>simp  [l8]at h<;>first
  | (obtain⟨cs,rfl,h⟩:=h;grind [Value.cells,aa.size])
  | (rw[YA h];rfl)
  | exact h.elim
variable {aI:List Value}
theorem Al{a b:aa}{x:a.aq}{y:b.aq} :
  gB P (.aw a b) F w (v::aI) (x,y)<->ft P a F w v x/\gB P b F w aI y:=by
 constructor
 ·rintro⟨⟨E,M⟩,c,d,e,hc,ay⟩;have ai:=jT a hc;have:=List.append_inj e (by rw[ai];exact E.len);obtain⟨aF,bB⟩:=this;subst aF;subst bB;exact⟨⟨E,hc⟩,M,ay⟩
 ·rintro⟨⟨E,M⟩,al,a7⟩;exact⟨⟨E,al⟩,_,_,rfl,M,a7⟩
theorem F3{a b:aa}{x:(aa.aw a b).aq}(h:gB P (.aw a b) F w aI x) :
  ∃ v us,aI=v::us/\ft P a F w v x.1/\gB P b F w us x.2:=by
 cases aI with
 | nil=>exact h.1.elim
 | cons v us=>grind [Al]
def aa.hQ:aa->Bool
 | .aw _ _ | .dc=>false
 | _=>true
theorem pk(aH:t.hQ=true){x:t.aq} :
  gB P t F w aI x<->∃ v,aI=[v]/\ft P t F w v x:=by
 have key:w1 t aI<->∃ v,aI=[v]/\l8 t v:=by cases t<;>simp[aa.hQ,w1]at aH ⊢
 unfold gB ft;constructor<;>simp_all
section
variable {P:Program} {F:Nat->Prop} {w:World} {v:Value}
@[simp] theorem h2 {x:Bool}:ft P .bool F w v x<->v=.bool x:=by
 constructor
 ·rintro⟨E,M⟩;simp only[l8]at E;simp only[cw]at M;rw[YA E]at M;simpa using M
 ·rintro rfl;exact⟨by simp[l8,Value.cells],by simp[cw,Value.cells]⟩
theorem hR{k:IntKind}{x:Int}:ft P (.int k) F w v x<->v=.int k x/\gQ k x:=by
 constructor
 ·rintro⟨E,M⟩;grind [l8,cw]
 ·rintro⟨rfl,h⟩;exact⟨by rfl,by grind [cw,Value.cells]⟩
theorem lf{x:List UInt8}:ft P .str F w v x<->v=.string ⟨x.toArray⟩/\x.length<2 ^ 63:=by
 constructor
 ·rintro⟨E,M⟩;grind [l8,cw]
 ·rintro⟨rfl,h⟩;exact⟨by rfl,by grind [cw,Value.cells]⟩
theorem eh(aH:t.gb=true){x:t.aq}:ft P t F w v x<->v.cells=#[v]/\cw P t F w [v] x:=by
 have E:l8 t v<->v.cells=#[v]:=by cases t<;>simp[aa.gb,l8]at aH ⊢
 unfold ft;grind
theorem PV(aH:t.gb=true){F:Nat->Prop}{w:World}{u:Value}{x:t.aq}(h:cw P t F w [u] x):u.oneCell'=true:=by
 cases t<;>simp only[cw]at aH h<;>try contradiction
 ·obtain rfl:=(aQC h).1;rfl
 ·obtain rfl:=(aQC h.1).1;rfl
 ·obtain rfl:=(aQC h.1).1;rfl
 ·obtain⟨a,cap,h,_⟩:=h;obtain rfl:=(aQC h).1;rfl
 ·rcases h with⟨h,_⟩ | ⟨p,y,bE,h,_⟩<;>(obtain rfl:=(aQC h).1;rfl)
 ·rcases h with⟨h,_⟩ | ⟨r,es,clk,h,_⟩<;>(obtain rfl:=(aQC h).1;rfl)
 ·grind
 ·grind
 ·obtain rfl:=(aQC h).1;cases x<;>rfl
 ·rcases h with⟨h,_⟩ | ⟨o,c,h,_⟩<;>(obtain rfl:=(aQC h).1;rfl)
theorem Kf(aH:t.gb=true){F:Nat->Prop}{w:World}{cs:List Value}{x:t.aq}(h:cw P t F w cs x):∃ u,cs=[u]/\u.cells=#[u]:=by
 cases t<;>simp only[cw]at aH h<;>try contradiction
 ·exact⟨_,h,rfl⟩
 ·exact⟨_,h.1,rfl⟩
 ·exact⟨_,h.1,rfl⟩
 ·obtain⟨a,cap,rfl,_⟩:=h;exact⟨_,rfl,rfl⟩
 ·rcases h with⟨rfl,_⟩ | ⟨p,y,bE,rfl,_⟩<;>exact⟨_,rfl,rfl⟩
 ·rcases h with⟨rfl,_⟩ | ⟨r,es,clk,rfl,_⟩<;>exact⟨_,rfl,rfl⟩
 ·grind
 ·grind
 ·exact⟨_,h,by cases x<;>rfl⟩
 ·rcases h with⟨rfl,_⟩ | ⟨o,c,rfl,_⟩<;>exact⟨_,rfl,rfl⟩
end
structure hI(P:Program)(k:FuncId)(ts aS:aa)(sh:ts.aq->L aS.aq):Prop where
 enter:∀ args w,(callFunc k args).run P w=.ok (.enter k args) w
 iv:∀ (F:Nat->Prop) (w:World) (args:List Value) (x:ts.aq),(∀ r,F r->r<w.heap.size)->pj P F w->gB P ts F w args x->(sh x).fr->
  Calls P k args.toArray w λe w'=>∃ v y,e=.returned v/\(sh x).a8 y/\tW P aS (w2 F w w') w' v y/\Below w.heap.size w w'
structure F4(P:Program)(k:FuncId)(ts aS:aa)(sh:ts.aq->L aS.aq):Prop where
 iv:∀ (F:Nat->Prop) (w:World) (args:List Value) (x:ts.aq),(∀ r,F r->r<w.heap.size)->pj P F w->gB P ts F w args x->(sh x).fr->
  Calls P k args.toArray w λe w'=>∃ v y,e=.returned v/\(sh x).a8 y/\tW P aS (λr=>w.heap.size<=r/\r<w'.heap.size) w' v y/\Below w.heap.size w w'
def h3:List aa->aa
 | []=>.dc
 | [t]=>t
 | t::u::l=>.aw t (h3 (u::l))
def Kg:(as dE:List aa)->(h3 as).aq->(h3 dE).aq->(h3 (as++dE)).aq
 | [],_,_,y=>y
 | [_],[],x,_=>x
 | [_],_::_,x,y=>(x,y)
 | _::u::l,dE,x,y=>(x.1,Kg (u::l) dE x.2 y)
theorem YB{P:Program}{F:Nat->Prop}{w:World}:∀ (as dE:List aa),as.all aa.hQ=true->∀ {aI us:List Value} {x:(h3 as).aq} {y:(h3 dE).aq},gB P (h3 as) F w aI x->gB P (h3 dE) F w us y->gB P (h3 (as++dE)) F w (aI++us) (Kg as dE x y)
 | [],dE,_,aI,us,x,y,E,M=>by
  obtain rfl:=E.1;exact M
 | [t],[],_,aI,us,x,y,E,M=>by
  obtain rfl:=M.1;have e:=aQD aI;rw[e];exact E
 | [t],b::dE,h,aI,us,x,y,E,M=>by
  have aH:t.hQ=true:=by grind
  obtain⟨v,rfl,ag⟩:=(pk aH).1 E;exact Al.2 ⟨ag,M⟩
 | t::u::l,dE,h,aI,us,x,y,E,M=>by
  obtain⟨v,tX,rfl,al,a7⟩:=F3     E;have ai:(u::l).all aa.hQ=true:=by
   grind
  have:=YB (u::l) dE ai a7 M;exact Al.2 ⟨al,this⟩
structure anf where
 ts:aa
 aS:aa
 sh:ts.aq->L aS.aq
structure Kh where
 as:List aa
 cs:List aa
 aS:aa
 sh:(h3 (as++cs.map .bP)).aq->L aS.aq
structure Am where
 cs:List aa
 aK:aa
 S:(h3 (cs.map .bP)).aq->List aK.aq->Prop
structure yr(P:Program)(k:FuncId)(v:Am):Prop where
 enter:∀ args w,(callFunc k args).run P w=.ok (.enter k args) w
 iv:∀ (F:Nat->Prop) (w:World) (dS:List Value) (x:(h3 (v.cs.map .bP)).aq),(∀ r,F r->r<w.heap.size)->pj P F w->gB P (h3 (v.cs.map .bP)) F w dS x->(∃ ad,v.S x ad)->
  ∀ (l:Nat) (I:List v.aK.aq->Bool->(Nat->Prop)->(Nat->Prop)->World->Prop) (Y:Nat->Prop),(∀ r,Y r->r<w.heap.size/\¬F r)->
   Kd P (gB P v.aK) l (v.S x) I->I [] false F Y w->Calls P k (#[Value.func (.yield l) #[] #[]]++dS.toArray) w (Yz (v.S x) I F Y w)
def aa.iP:aa->aa
 | .cP e=>.slice e
 | .ae t=>.ae t.iP
 | .aw a b=>.aw a.iP b.iP
 | .slice t=>.slice t.iP
 | t=>t
structure YC where
 n8:aa
 e:aa
 aS:aa
 pre:n8.iP.aq->Prop
 g:n8.iP.aq->aS.aq
 tY:Bool
structure dX where
 tZ:Nat->Option anf
 t_:Nat->Option Kh
 An:Nat->Option Am:=λ_=>none
 Ao:Nat->Option YC:=λ_=>none
structure q2(P:Program)(aJ:dX):Prop where
 tZ:∀ k v,aJ.tZ k=some v->hI P k v.ts v.aS v.sh
 t_:∀ k v,aJ.t_ k=some v->v.as.all aa.hQ=true/\hI P k (h3 (v.as++v.cs.map .bP)) v.aS v.sh
 An:∀ k v,aJ.An k=some v->yr P k v:=by intro k v h;cases h
 Ao:∀ k v,aJ.Ao k=some v->hI P k v.n8.iP v.aS (λx=>eF (v.pre x) (v.g x))/\(v.tY=true->F4 P k v.n8.iP v.aS (λx=>eF (v.pre x) (v.g x))):=by intro k v h;cases h
theorem ang{k:FuncId}{ts aS:aa}{sh:ts.aq->L aS.aq}(h:hI P k ts aS sh)(F:Nat->Prop)(w:World):cw P (.fn ts aS) F w [.func (.func k) #[] #[]] sh:=by
 refine⟨_,rfl,⟨rfl,rfl⟩,λF' w' _ _ ax aB args x E M al=>⟨k,#[],rfl,h.enter,?_⟩⟩;have:=h.iv F' w' args x ax aB ⟨E,M⟩ al;exact this.mono λe w3 ⟨v,y,aF,bB,⟨aI,c7,bW,gS⟩,kU⟩=>⟨v,y,aI,aF,bB,c7,bW,gS,kU⟩
end Go.Fer
namespace Go.Fer
open Go.RowKit
inductive aN where
 | undef
 | val (t:aa) (x:t.aq)
 | kB (b:Bool) (a:aN)
 | eZ (b g off:Nat)
 | own (b g:Nat)
 | q3 (b g i off:Nat)
 | eL (t:aa) (x:t.aq)
 | hq (b g:Nat)
 | jl (k:FuncId) (n:Nat) (dS:Nat->aN)
 | vp (k:FuncId) (n:Nat) (first:Nat->aN)
 | sN (n:Nat) (f:Nat->aN)
 | agg (n:Nat) (f:Nat->aN)
 | dd
 | lg (v:Value)
 | l9 (b g:Nat)
 | aS (l:Nat) (aK:aa) (S:List aK.aq->Prop) (pre:List aK.aq) (ae:Bool)
 | iw (l:Nat)
 | sub (b g ba G:Nat)
 | vq (e:aa) (xs:List e.aq)
 | ys (e:aa) (id i:Nat)
 | Ap (b g:Nat)
 | hS (b g:Nat)
 | ke (b g i:Nat)
inductive ca where
 | ez
 | cells (t:aa) (f:Nat->aN)
 | bo (e:aa) (xs:List e.aq)
 | jD (e:aa) (xs:List e.aq)
 | mp (k v:aa) (es:List (k.aq×v.aq))
 | ix (t:aa) (x:t.aq)
 | lh (k v:aa) (es:List (k.aq×v.aq))
 | bU (e:aa) (m:List (Nat×List e.aq))
 | cI (k v:aa) (cur:Option (k.aq×v.aq)) (b9:List (k.aq×v.aq))
 | ie (e:aa) (xs:List e.aq) (i:Nat) (v:aN)
structure b_ where
 gen:Nat
 body:ca
structure bL where
 ab:Nat
 off:Nat
 cap:Nat
 fT:Bool
structure aE where
 aD:Nat->aN
 ab:Nat->b_
def ca.hr:ca->Bool | .cells _ _=>true | .ix _ _=>true | _=>false
def ca.gT:ca->Bool | .bo _ _=>true | .jD _ _=>true | .ie _ _ _ _=>true | _=>false
def ca.l_:ca->Bool | .bU _ _=>true | _=>false
def ca.iX:ca->Bool | .mp _ _ _=>true | .lh _ _ _=>true | _=>false
def ca.q4:ca->Bool | .cI _ _ _ _=>true | _=>false
def ca.len:ca->Nat | .bo _ xs=>xs.length | .jD _ xs=>xs.length | .ie _ xs _ _=>xs.length | _=>0
def ca.gU:ca->Nat | .bo e _=>e.size | .jD e _=>e.size | .ie e _ _ _=>e.size | _=>0
def ca.cg(k:bL):ca->Bool | .cells _ _=>true | .bo _ _=>!k.fT | .mp _ _ _=>true | .cI _ _ _ _=>true | .ie _ _ _ _=>!k.fT | _=>false
def bL.slice(k:bL)(n:Nat):Value:=if k.fT then .slice none 0 0 else .slice (some ⟨k.ab,k.off,none⟩) n k.cap
def Ki(k:bL)(gU ba G:Nat)(v:Value):Prop:=
 (k.fT=true/\v=.slice none 0 0)\/(k.fT=false/\∃ o,v=.slice (some ⟨k.ab,o,none⟩) (G - ba) (k.cap - ba)/\o<=k.off+ba*gU/\(ba<k.cap->o=k.off+ba*gU))
def bM(P:Program)(H:Nat->b_)(kap:Nat->bL)(F:Nat->Prop)(w:World):aN->Value->Prop
 | .undef,_=>True
 | .val t x,v=>ft P t F w v x
 | .kB b a,v=>(b=true->bM P H kap F w a v)/\(b=false->v=Go.undef)
 | .eZ b g off,v=>(g<=(H b).gen/\v.oneCell'=true)/\(g=(H b).gen->(H b).body.hr=true->v=.pointer (some ⟨(kap b).ab,off,none⟩))
 | .own b g,v=>(g<=(H b).gen/\v.oneCell'=true)/\(g=(H b).gen->(H b).body.gT=true->v=(kap b).slice (H b).body.len)
 | .q3 b g i off,v=>(g<=(H b).gen/\v.oneCell'=true)/\(g=(H b).gen->(H b).body.gT=true->i<(H b).body.len/\(kap b).fT=false/\v=.pointer (some ⟨(kap b).ab,(kap b).off+i*(H b).body.gU+off,none⟩))
 | .ke b g i,v=>(g<=(H b).gen/\v.oneCell'=true)/\(g=(H b).gen->(H b).body.gT=true->i<(H b).body.len/\(kap b).fT=false/\v=.pointer (some ⟨(kap b).ab,(kap b).off+i*(H b).body.gU,none⟩))
 | .eL t x,v=>∃ p bE,v=.pointer (some p)/\Holds F w p bE/\cw P t F w bE x
 | .hq b g,v=>(g<=(H b).gen/\v.oneCell'=true)/\(g=(H b).gen->(H b).body.iX=true->v=.map (some (kap b).ab))
 | .jl k n dS,v=>∃ aI:List Value,v=.func (.func k) #[] aI.toArray/\aI.length=n/\∀ i,i<n->bM P H kap F w (dS i) (aI.getD i Go.undef)
 | .vp k n f,v=>∃ aI:List Value,v=.func (.func k) aI.toArray #[]/\aI.length=n/\∀ i,i<n->bM P H kap F w (f i) (aI.getD i Go.undef)
 | .sN n f,v=>∃ aI:List Value,v=.tuple aI.toArray/\aI.length=n/\∀ i,i<n->bM P H kap F w (f i) (aI.getD i Go.undef)
 | .agg n f,v=>∃ aI:List Value,v=.agg aI.toArray/\aI.length=n/\∀ i,i<n->bM P H kap F w (f i) (aI.getD i Go.undef)/\(aI.getD i Go.undef).oneCell'=true
 | .dd,v=>v=.slice none 0 0
 | .lg u,v=>v=u
 | .l9 b g,v=>(g<=(H b).gen/\v.oneCell'=true)/\(g=(H b).gen->(H b).body.q4=true->v=.pointer (some ⟨(kap b).ab,0,none⟩))
 | .aS _ _ _ _ _,_=>True
 | .iw l,v=>v=.func (.yield l) #[] #[]
 | .vq e xs,v=>ft P (.slice e) F w v xs/\∃ q,v=.slice q xs.length xs.length
 | .ys e id i,v=>v=.pointer (some ⟨id,i*e.size,none⟩)
 | .Ap b g,v=>(g<=(H b).gen/\∃ p,v=.pointer p)/\(g=(H b).gen->(H b).body.gT=true->0<(H b).body.len->v=.pointer (some ⟨(kap b).ab,(kap b).off,none⟩))
 | .hS b g,v=>(g<=(H b).gen/\v.oneCell'=true)/\(g=(H b).gen->(H b).body.hr=true->v=.pointer none\/v=.pointer (some ⟨(kap b).ab,0,none⟩))
 | .sub b g ba G,v=>(g<=(H b).gen/\v.oneCell'=true)/\(g=(H b).gen->(H b).body.gT=true->(ba<=G/\G<=(H b).body.len)/\Ki (kap b) (H b).body.gU ba G v)
def fN(H:Nat->b_)(kap:Nat->bL)(H':Nat->b_)(bV:Nat->bL):Prop:=
 ∀ b,(H b).gen<=(H' b).gen/\((H b).gen=(H' b).gen->
  ((H' b).body.hr=true->(H b).body.hr=true/\(bV b).ab=(kap b).ab)/\
  ((H' b).body.gT=true->(H b).body.gT=true/\bV b=kap b/\(H' b).body.len=(H b).body.len/\(H' b).body.gU=(H b).body.gU)/\
  ((H' b).body.iX=true->(H b).body.iX=true/\(bV b).ab=(kap b).ab)/\
  ((H' b).body.q4=true->(H b).body.q4=true/\(bV b).ab=(kap b).ab))
theorem fN.refl(H:Nat->b_)(kap:Nat->bL):fN H kap H kap:=λ_=>⟨amY _,λ_=>⟨λh=>⟨h,rfl⟩,λh=>⟨h,rfl,rfl,rfl⟩,λh=>⟨h,rfl⟩,λh=>⟨h,rfl⟩⟩⟩
def t'(x y:b_)(k k':bL):Prop:=
 x.gen<=y.gen/\(x.gen=y.gen->
  (y.body.hr=true->x.body.hr=true/\k'.ab=k.ab)/\
  (y.body.gT=true->x.body.gT=true/\k'=k/\y.body.len=x.body.len/\y.body.gU=x.body.gU)/\
  (y.body.iX=true->x.body.iX=true/\k'.ab=k.ab)/\
  (y.body.q4=true->x.body.q4=true/\k'.ab=k.ab))
theorem t'.refl(x:b_)(k:bL):t' x x k k:=⟨amY _,λ_=>⟨λh=>⟨h,rfl⟩,λh=>⟨h,rfl,rfl,rfl⟩,λh=>⟨h,rfl⟩,λh=>⟨h,rfl⟩⟩⟩
variable {H:Nat->b_}{kap:Nat->bL}{H':Nat->b_}{bV:Nat->bL}
theorem YD:fN H kap H' bV<->∀ b,t' (H b) (H' b) (kap b) (bV b):=Iff.rfl
variable {P:Program}{F:Nat->Prop}{F':Nat->Prop}{w:World}{w':World}
theorem bM.later(ai:fN H kap H' bV)(bq:∀ r,F r->F' r)(he:dk F w w') :
  ∀ {a:aN} {v:Value},bM P H kap F w a v->bM P H' bV F' w' a v:=by
 intro a;induction a with
 | undef=>intro v h;trivial
 | val t x=>intro v h;exact ft.mono h bq he
 | kB b a aR=>intro v h;exact⟨λU=>aR (h.1 U),h.2⟩
 | eZ b g off=>
  intro v h;obtain⟨E,M⟩:=h;obtain⟨aO,aT⟩:=ai b;refine⟨⟨am5 E.1 aO,E.2⟩,λaB hc=>?_⟩;grind
 | own b g=>
  intro v h;obtain⟨E,M⟩:=h;obtain⟨aO,aT⟩:=ai b;refine⟨⟨am5 E.1 aO,E.2⟩,λaB hc=>?_⟩;grind
 | q3 b g i off=>
  intro v h;obtain⟨E,M⟩:=h;obtain⟨aO,aT⟩:=ai b;refine⟨⟨am5 E.1 aO,E.2⟩,λaB hc=>?_⟩;grind
 | ke b g i=>
  intro v h;obtain⟨E,M⟩:=h;obtain⟨aO,aT⟩:=ai b;refine⟨⟨am5 E.1 aO,E.2⟩,λaB hc=>?_⟩;grind
 | eL t x=>
  intro v h;obtain⟨p,bE,E,M,al⟩:=h;exact⟨p,bE,E,M.mono bq he,fM t bq he al⟩
 | hq b g=>
  intro v h;obtain⟨E,M⟩:=h;obtain⟨aO,aT⟩:=ai b;refine⟨⟨am5 E.1 aO,E.2⟩,λaB hc=>?_⟩;grind
 | l9 b g=>
  intro v h;obtain⟨E,M⟩:=h;obtain⟨aO,aT⟩:=ai b;refine⟨⟨am5 E.1 aO,E.2⟩,λaB hc=>?_⟩;grind
 | sub b g ba G=>
  intro v h;obtain⟨E,M⟩:=h;obtain⟨aO,aT⟩:=ai b;refine⟨⟨am5 E.1 aO,E.2⟩,λaB hc=>?_⟩;grind
 | aS l aK ad n ae=>intro v _;trivial
 | iw l=>intro v h;exact h
 | vq e xs=>intro v h;exact⟨ft.mono h.1 bq he,h.2⟩
 | ys e id i=>intro v h;exact h
 | Ap b g=>
  intro v h;obtain⟨E,M⟩:=h;obtain⟨aO,aT⟩:=ai b;refine⟨⟨am5 E.1 aO,E.2⟩,λaB hc aA=>?_⟩;grind
 | hS b g=>
  intro v h;obtain⟨E,M⟩:=h;obtain⟨aO,aT⟩:=ai b;refine⟨⟨am5 E.1 aO,E.2⟩,λaB hc=>?_⟩;grind
 | jl k n dS aR=>
  intro v h;obtain⟨aI,E,M,al⟩:=h;exact⟨aI,E,M,λi G=>aR i (al i G)⟩
 | vp k n f aR=>
  intro v h;obtain⟨aI,E,M,al⟩:=h;exact⟨aI,E,M,λi G=>aR i (al i G)⟩
 | sN n f aR=>
  intro v h;obtain⟨aI,E,M,al⟩:=h;exact⟨aI,E,M,λi G=>aR i (al i G)⟩
 | agg n f aR=>
  intro v h;obtain⟨aI,E,M,al⟩:=h;exact⟨aI,E,M,λi G=>⟨aR i (al i G).1,(al i G).2⟩⟩
 | dd=>intro v h;exact h
 | lg u=>intro v h;exact h
def yt(P:Program)(k v:aa)(F:Nat->Prop)(w:World)(es:Array MapEntry)(clk:Nat)(xs:List (k.aq×v.aq)):Prop:=
 es.size=xs.length/\(xs.map (·.1)).Nodup/\
 (∀ i (h:i<xs.length) (e3:i<es.size),l8 k es[i].key/\cw P k F w es[i].key.cells.toList xs[i].1/\l8 v es[i].val/\cw P v F w es[i].val.cells.toList xs[i].2/\es[i].born<clk)/\
 (∀ i j (h:i<es.size) (e3:j<es.size),es[i].born=es[j].born->i=j)
theorem yt.mono{k v:aa}{es:Array MapEntry}{clk:Nat}{xs:List (k.aq×v.aq)}(h:yt P k v F w es clk xs)(bq:∀ r,F r->F' r)(he:dk F w w') :
  yt P k v F' w' es clk xs:=
 ⟨h.1,h.2.1,λi G ea=>let ⟨a,b,c,d,e⟩:=h.2.2.1 i G ea;⟨a,fM k bq he b,c,fM v bq he d,e⟩,h.2.2.2⟩
def nD(P:Program)(e:aa)(F:Nat->Prop)(w:World)(cs:Array Value)(off:Nat)(xs:List e.aq):Prop:=
 ∀ i (h:i<xs.length),∃ bE,(∀ j (h:j<bE.length),cs[off+i*e.size+j]?=some bE[j])/\cw P e F w bE xs[i]
theorem nD.mono{e:aa}{cs:Array Value}{off:Nat}{xs:List e.aq}(h:nD P e F w cs off xs)(bq:∀ r,F r->F' r)(he:dk F w w') :
  nD P e F' w' cs off xs:=λi G=>let ⟨bE,a,b⟩:=h i G;⟨bE,a,fM e bq he b⟩
def CZ(P:Program)(k v:aa)(F:Nat->Prop)(w:World)(e:MapEntry)(x:k.aq×v.aq):Prop:=
 l8 k e.key/\cw P k F w e.key.cells.toList x.1/\l8 v e.val/\cw P v F w e.val.cells.toList x.2
theorem CZ.mono{k v:aa}{e:MapEntry}{x:k.aq×v.aq}(h:CZ P k v F w e x)(bq:∀ r,F r->F' r)(he:dk F w w'):CZ P k v F' w' e x:=
 ⟨h.1,fM k bq he h.2.1,h.2.2.1,fM v bq he h.2.2.2⟩
def Aq(P:Program)(k v:aa)(F:Nat->Prop)(w:World)(rR:Nat)(cur:Option (k.aq×v.aq))(b9:List (k.aq×v.aq)):Prop:=
 (w.heap[rR]?=some (.mapIter none 0 #[] 0)/\b9=[]/\cur=none)\/
 ∃ oM es clk hs,F oM/\w.heap[oM]?=some (.map es clk)/\w.heap[rR]?=some (.mapIter (some oM) clk hs clk)/\
  (∀ i (h:i<es.size),es[i].born<clk)/\(∀ i j (h:i<es.size) (e3:j<es.size),es[i].born=es[j].born->i=j)/\
  (∃ ids:List Nat,ids.length=b9.length/\ids.Nodup/\(∀ i,i∈ids<->∃ h:i<es.size,hs.contains es[i].born=false)/\
   (∀ j (h:j<ids.length) (e3:j<b9.length),∃ G:ids[j]<es.size,CZ P k v F w es[ids[j]] b9[j]))/\
  (∀ c,cur=some c->∃ i,∃ h:i<es.size,hs.back?=some es[i].born/\CZ P k v F w es[i] c)
theorem Aq.mono{P:Program}{k v:aa}{F F':Nat->Prop}{w w':World}{rR:Nat}{cur:Option (k.aq×v.aq)}{b9:List (k.aq×v.aq)}(h:Aq P k v F w rR cur b9)(bq:∀ r,F r->F' r)(he:dk F w w')
  (G:w'.heap[rR]?=w.heap[rR]?):Aq P k v F' w' rR cur b9:=by
 rcases h with⟨E,M⟩ | ⟨oM,es,clk,hs,E,M,al,a7,bR,⟨ids,i1,i2,i3,i4⟩,jj⟩
 ·exact .inl ⟨G.trans E,M⟩
 ·exact .inr ⟨oM,es,clk,hs,bq _ E,(he.2 _ E).trans M,G.trans al,a7,bR,⟨ids,i1,i2,i3,λj aM gV=>let ⟨a,b⟩:=i4 j aM gV;⟨a,b.mono bq he⟩⟩,λc hc=>let ⟨i,a,b,d⟩:=jj c hc;⟨i,a,b,d.mono bq he⟩⟩
def w4(P:Program)(e:aa)(T:TypeId):Prop:=∀ k,e=.int k->P.underlying T=some (.int k)/\P.cellsOf T=1
def PW(P:Program)(t:aa)(T:TypeId):Prop:=∀ n s,t=.ae (.aw (.bP (.array n .dc)) s)->P.underlying n=some (.pointer T)
def mA(P:Program)(H:Nat->b_)(kap:Nat->bL)(F:Nat->Prop)(w:World)(k:bL):ca->Prop
 | .ez=>True
 | .cells t f=>∃ cs T,w.heap[k.ab]?=some (.cells cs T (0,0))/\(cs.size=t.size/\PW P t T)/\∀ i,i<t.size->bM P H kap F w (f i) (cs.getD i Go.undef)/\(cs.getD i Go.undef).oneCell'=true
 | .bo e xs=>(k.fT=true->xs=[])/\(k.fT=false->∃ cs T,w.heap[k.ab]?=some (.cells cs T (0,0))/\k.off+k.cap*e.size<=cs.size/\xs.length<=k.cap/\(k.cap<2 ^ 63/\w4 P e T)/\nD P e F w cs k.off xs)
 | .jD e xs=>cw P (.slice e) F w [k.slice xs.length] xs
 | .mp oN rS es=>∃ ms clk,w.heap[k.ab]?=some (.map ms clk)/\yt P oN rS F w ms clk es
 | .ix t x=>∃ bE,Holds F w ⟨k.ab,0,none⟩ bE/\cw P t F w bE x
 | .lh oN rS es=>cw P (.map oN rS) F w [.map (some k.ab)] es
 | .cI oN rS cur b9=>Aq P oN rS F w k.ab cur b9
 | .bU _ _=>True
 | .ie e xs i v=>k.fT=false/\∃ cs T,w.heap[k.ab]?=some (.cells cs T (0,0))/\k.off+k.cap*e.size<=cs.size/\xs.length<=k.cap/\(k.cap<2 ^ 63/\w4 P e T)/\(e.size=1/\i<xs.length)/\
   (∀ j (h:j<xs.length),j≠i->∃ bE,(∀ q (h:q<bE.length),cs[k.off+j*e.size+q]?=some bE[q])/\cw P e F w bE xs[j])/\bM P H kap F w v (cs.getD (k.off+i) Go.undef)/\(cs.getD (k.off+i) Go.undef).oneCell'=true
def c1(P:Program)(H:Nat->b_)(kap:Nat->bL)(F:Nat->Prop)(w:World)(b:Nat):Prop:=mA P H kap F w (kap b) (H b).body
variable {b:Nat}
theorem c1.lj(h:c1 P H kap F w b)(ai:fN H kap H' bV)(bq:∀ r,F r->F' r)(he:dk F w w')
  (U:(H' b).body=(H b).body) (aj:bV b=kap b) (hw:(H b).body.cg (kap b)=true->w'.heap[(kap b).ab]?=w.heap[(kap b).ab]?):c1 P H' bV F' w' b:=by
 unfold c1 at *
 rw[U,aj];cases cm:(H b).body with
 | ez=>trivial
 | cells n f=>
  rw[cm]at h hw;obtain⟨cs,T,E,M,al⟩:=h;exact⟨cs,T,(hw rfl).trans E,M,λi G=>⟨bM.later ai bq he (al i G).1,(al i G).2⟩⟩
 | bo e xs=>
  rw[cm]at h hw;refine⟨h.1,λaA=>?_⟩;obtain⟨cs,T,E,M,al,a7,bR⟩:=h.2 aA;exact⟨cs,T,(hw (by grind [ca.cg])).trans E,M,al,a7,bR.mono bq he⟩
 | jD e xs=>
  rw[cm]at h;exact fM _ bq he h
 | mp oN rS es=>
  rw[cm]at h hw;obtain⟨ms,clk,E,M⟩:=h;exact⟨ms,clk,(hw rfl).trans E,M.mono bq he⟩
 | ix t x=>
  rw[cm]at h;obtain⟨bE,E,M⟩:=h;exact⟨bE,E.mono bq he,fM t bq he M⟩
 | lh oN rS es=>
  rw[cm]at h;exact fM (.map oN rS) bq he h
 | cI oN rS cur b9=>
  rw[cm]at h hw;exact Aq.mono h bq he (hw rfl)
 | bU e m=>trivial
 | ie e xs i v=>
  rw[cm]at h hw;obtain⟨aV,cs,T,E,M,al,a7,bR,er,jj,ld⟩:=h;refine⟨aV,cs,T,(hw (by grind [ca.cg])).trans E,M,al,a7,bR,λj aM w5=>?_,bM.later ai bq he jj,ld⟩;obtain⟨bE,d1,d2⟩:=er j aM w5;exact⟨bE,d1,fM e bq he d2⟩
structure dN(w w':World):Prop where
 os:w'.os=w.os
 tape:w'.tape=w.tape
 output:w'.output=w.output
theorem dN.refl(w:World):dN w w:=⟨rfl,rfl,rfl⟩
theorem dN.trans{a b c:World}(h:dN a b)(k:dN b c):dN a c:=⟨k.os.trans h.os,k.tape.trans h.tape,k.output.trans h.output⟩
structure n9 where
 l:Nat
 aK:aa
 S:List aK.aq->Prop
 I:List aK.aq->Bool->(Nat->Prop)->(Nat->Prop)->World->Prop
structure n9.j5(P:Program)(p:n9):Prop where
 F2:∀ {pre ae} {F F' Y:Nat->Prop} {w w':World},p.I pre ae F Y w->(∀ r,F r->F' r)->(∀ r,F r\/Y r->w'.heap[r]?=w.heap[r]?)->w.heap.size<=w'.heap.size->dN w w'->(∀ r,F' r->r<w'.heap.size)->(∀ r,F' r->¬Y r)->p.I pre ae F' Y w'
 yield:∀ {pre} {F Y:Nat->Prop} {w:World} {args:List Value} {x:p.aK.aq},p.I pre false F Y w->(∀ r,F r->r<w.heap.size)->(∀ r,Y r->r<w.heap.size/\¬F r)->(∃ T,p.S (pre++x::T))->gB P p.aK F w args x->
  YieldAt Fence.wide 0 P p.l args.toArray w λe w'=>∃ (b:Bool) (F' jk:Nat->Prop),e=.returned (.bool b)/\(∀ r,F r->F' r)/\(∀ r,F' r->F r\/Y r\/w.heap.size<=r)/\(∀ r,F' r->r<w'.heap.size)/\
   (∀ r,r<w.heap.size->¬Y r->w'.heap[r]?=w.heap[r]?)/\(∀ r,jk r->(Y r\/w.heap.size<=r)/\r<w'.heap.size/\¬F' r)/\w.heap.size<=w'.heap.size/\dN w w'/\p.I (pre++[x]) (!b) F' jk w'
def n9.at(p:n9)(aK:aa)(pre:List aK.aq)(ae:Bool)(F Y:Nat->Prop)(w:World):Prop:=∃ h:aK=p.aK,p.I (h ▸ pre) ae F Y w
theorem n9.C0{l:Nat}{aK:aa}{S:List aK.aq->Prop}{I}{pre:List aK.aq}{ae:Bool}{Y:Nat->Prop}:(n9.mk l aK S I).at aK pre ae F Y w<->I pre ae F Y w:=⟨λ⟨_,h⟩=>h,λh=>⟨rfl,h⟩⟩
theorem n9.j5.Kj{p:n9}(h:p.j5 P){aK:aa}{pre:List aK.aq}{ae}{Y:Nat->Prop}:p.at aK pre ae F Y w->(∀ r,F r->F' r)->(∀ r,F r\/Y r->w'.heap[r]?=w.heap[r]?)->w.heap.size<=w'.heap.size->dN w w'->(∀ r,F' r->r<w'.heap.size)->(∀ r,F' r->¬Y r)->p.at aK pre ae F' Y w':=
 λ⟨e,E⟩ M al a7 bR er jj=>⟨e,h.F2 E M al a7 bR er jj⟩
def cd:Nat:=1000000
def fD:Nat:=100000
def Ar:Nat:=200000
structure cJ where
 P:Program
 et:World
 jE:Nat->Prop
 K0:Nat->Prop
 b3:Nat
 r:Option Nat
 dm:List Deferred
 kf:Nat->Option Nat
 cK:n9
 aW:dX
 PX:Nat->Option (bL×Nat):=λ_=>none
def anh(C:cJ)(s:aE)(w:World)(kap:Nat->bL)(F:Nat->Prop):Prop:=
 ∀ l aK ad n ae,s.aD cd=.aS l aK ad n ae->(∃ I,C.cK=⟨l,aK,ad,I⟩)/\C.cK.j5 C.P/\
  ∃ Y:Nat->Prop,(∀ r,Y r->r<w.heap.size/\¬F r/\¬C.K0 r)/\(∀ b,(s.ab b).body.cg (kap b)=true->¬Y (kap b).ab)/\C.cK.at aK n ae F Y w
def cG:Nat:=140000
def As(P:Program)(e:aa)(F:Nat->Prop)(w:World)(id:Nat)(xs:List e.aq):Prop:=
 ∃ cs T ba G,w.heap[id]?=some (.cells cs T (ba,G))/\xs.length*e.size<=cs.size/\(G<=ba\/xs.length*e.size<=ba)/\nD P e F w cs 0 xs
theorem As.mono{P:Program}{e:aa}{F F':Nat->Prop}{w w':World}{id:Nat}{xs:List e.aq}(h:As P e F w id xs)(bq:∀ r,F r->F' r)(he:dk F w w')(G:w'.heap[id]?=w.heap[id]?):As P e F' w' id xs:=by
 obtain⟨cs,T,ba,ea,E,M,al,a7⟩:=h;exact⟨cs,T,ba,ea,G.trans E,M,al,a7.mono bq he⟩
def w6(C:cJ)(s:aE)(w:World)(kap:Nat->bL)(F:Nat->Prop):Prop:=
 ∀ e m,(s.ab cG).body=.bU e m->(m.map (·.1)).Nodup/\
  ∀ id xs,(id,xs)∈m->(∀ l aK ad n ae,s.aD cd≠.aS l aK ad n ae)/\id<w.heap.size/\¬F id/\¬C.K0 id/\(∀ b,(s.ab b).body.cg (kap b)=true->(kap b).ab≠id)/\As C.P e F w id xs
variable {s:aE}
theorem w6.b5{C:cJ}{s':aE}(h:w6 C s w kap F)(U:s'.ab=s.ab)(aH:∀ l aK ad n ae,s'.aD cd=.aS l aK ad n ae->s.aD cd=.aS l aK ad n ae):w6 C s' w kap F:=by
 intro e m hm;rw[U]at hm;obtain⟨E,M⟩:=h e m hm;grind
def lk(H:Nat->b_)(r:Nat):Prop:=∃ (e:aa) (m:List (Nat×List e.aq)) (xs:List e.aq),(H cG).body=.bU e m/\(r,xs)∈m
theorem w6.n_{C:cJ}(h:w6 C s w kap F){r:Nat}(D:lk s.ab r):(∀ l aK ad n ae,s.aD cd≠.aS l aK ad n ae)/\r<w.heap.size/\¬F r/\¬C.K0 r/\∀ b,(s.ab b).body.cg (kap b)=true->(kap b).ab≠r:=by
 obtain⟨e,m,xs,E,M⟩:=D;obtain⟨_,al⟩:=h e m E;grind
def yu(H H':Nat->b_):Prop:=∀ e m,(H' cG).body=.bU e m->(H cG).body=.bU e m
theorem yu.refl(H:Nat->b_):yu H H:=λ_ _ h=>h
variable {x:b_}
theorem Kk(h:x.body.l_=false):yu H (λi=>if i=b then x else H i):=λe m hm=>by
 by_cases k:cG=b
 ·simp  [if_pos k]at hm;rw[hm]at h;cases h
 grind
structure bx(C:cJ)(s:aE)(a:Act)(w:World)(kap:Nat->bL)(F:Nat->Prop):Prop where
 dY:a.tmps.size=C.b3
 dm:a.defers=C.dm
 b5:∀ i,bM C.P s.ab kap F w (s.aD i) (a.tmps.getD i Go.undef)
 bH:∀ b,c1 C.P s.ab kap F w b
 own:∀ b,(s.ab b).body.cg (kap b)=true->(kap b).ab<w.heap.size/\¬F (kap b).ab/\¬C.K0 (kap b).ab
 inj:∀ b bk,(s.ab b).body.cg (kap b)=true->(s.ab bk).body.cg (kap bk)=true->(kap b).ab=(kap bk).ab->b=bk
 du:∀ r,F r->r<w.heap.size
 hT:∀ r,F r->C.jE r\/¬C.K0 r
 iy:∀ r,C.jE r->F r
 iz:∀ r,C.K0 r->r<C.et.heap.size
 e6:∀ r,C.K0 r->w.heap[r]?=C.et.heap[r]?
 size:C.et.heap.size<=w.heap.size
 eN:dN C.et w
 hJ:C.b3<=fD
 ll:∀ b r,C.kf b=some r->fD<=b
 iY:∀ b r,C.kf b=some r->(s.ab b).body.hr=true\/(s.ab b).body.iX=true->(kap b).ab=r
 ln:∀ b k,C.PX b=some k->Ar<=b
 jF:∀ b k,C.PX b=some k->(s.ab b).gen=0->(s.ab b).body.gT=true->kap b=k.1/\(s.ab b).body.len=k.2
 e8:anh C s w kap F
 bU:w6 C s w kap F
 j7:q2 C.P C.aW
 h4:pj C.P F w
def de(C:cJ)(s:aE)(a:Act)(w:World):Prop:=∃ kap F,bx C s a w kap F
def aE.set(s:aE)(d:Option Nat)(v:aN):aE:=
 match d with
 | none=>s
 | some d=>{ s with aD:=λi=>if i=d then v else s.aD i }
def aE.cq(s:aE)(b:Nat)(x:b_):aE:={ s with ab:=λi=>if i=b then x else s.ab i }
variable {a:Act}
theorem ani{d:Nat}{v:Value}(ay:d<a.tmps.size)(i:Nat):(a.put (some d) v).tmps.getD i Go.undef=if i=d then v else a.tmps.getD i Go.undef:=by
 simp  [Act.put];grind
theorem bx.set{C:cJ}{s:aE}{a:Act}{w:World}{kap:Nat->bL}{F:Nat->Prop}(h:bx C s a w kap F){d:Option Nat}(ay:∀ i,d=some i->i<C.b3){av:aN}{v:Value}
  (ag:bM C.P s.ab kap F w av v):bx C (s.set d av) (a.put d v) w kap F:=by
 cases d with
 | none=>exact h
 | some d=>
  have Kl:=ay d rfl;have aA:=h.hJ;refine { h with dY:=by simpa [Act.put]using h.dY,dm:=h.dm,b5:=λi=>?_,e8:=λl aK ad n ae e=>?_,bU:=λe m hm=>⟨(h.bU e m hm).1,λid xs an=>⟨λl aK ad n ae=>?_,((h.bU e m hm).2 id xs an).2⟩⟩ }
  ·rw[ani (by rw[h.dY];omega)];simp only[aE.set];by_cases G:i=d
   ·grind
   ·rw[if_neg G,if_neg G];exact h.b5 i
  ·simp  [aE.set]at e;rw[if_neg (by grind [cd,fD])]at e;exact h.e8 l aK ad n ae e
  ·simp  [aE.set];rw[if_neg (by grind [cd,fD])];exact ((h.bU e m hm).2 id xs an).1 l aK ad n ae
theorem bx.move{C:cJ}(h:bx C s a w kap F)
  (ai:fN s.ab kap H' bV) (bq:∀ r,F r->F' r) (yq:∀ r,F' r->F r\/(∃ b,(s.ab b).body.cg (kap b)=true/\(kap b).ab=r)\/w.heap.size<=r)
  (cQ:w.heap.size<=w'.heap.size) (hw:∀ r,r<w.heap.size->(∀ b,(s.ab b).body.cg (kap b)=true->(kap b).ab≠r)->w'.heap[r]?=w.heap[r]?) (hc:dN w w')
  (U:dk F w w'->∀ b,c1 C.P H' bV F' w' b)
  (au:∀ b,(H' b).body.cg (bV b)=true->(bV b).ab<w'.heap.size/\¬F' (bV b).ab/\((∃ b0,(s.ab b0).body.cg (kap b0)=true/\(kap b0).ab=(bV b).ab)\/w.heap.size<=(bV b).ab))
  (G:∀ b bk,(H' b).body.cg (bV b)=true->(H' bk).body.cg (bV bk)=true->(bV b).ab=(bV bk).ab->b=bk)
  (ax:∀ r,F' r->r<w'.heap.size)
  (anj:∀ b,fD<=b->(H' b).body.hr=true\/(H' b).body.iX=true->bV b=kap b/\((s.ab b).body.hr=true\/(s.ab b).body.iX=true)) (vr:yu s.ab H':=by first | exact yu.refl _ | exact Kk rfl):bx C ⟨s.aD,H'⟩ a w' bV F':=by
 have ank:∀ r,C.K0 r->(∀ b,(s.ab b).body.cg (kap b)=true->(kap b).ab≠r):=λr D b U e=>(h.own b U).2.2 (e ▸ D);have aj:=λr D=>hw r (aQt (h.iz r D) h.size) (ank r D);have he:dk F w w':=⟨cQ,λr D=>hw r (h.du r D) λb U e=>(h.own b U).2.1 (e ▸ D)⟩
 refine { dY:=h.dY,dm:=h.dm,b5:=λi=>bM.later ai bq he (h.b5 i),bH:=U he,own:=λb U=>?_,inj:=G,du:=ax,hT:=λr D=>?_,iy:=λr D=>bq r (h.iy r D),iz:=h.iz,e6:=λr D=>(aj r D).trans (h.e6 r D),size:=am5 h.size cQ,eN:=h.eN.trans hc,hJ:=h.hJ,ll:=h.ll,iY:=λb r D hc=>?_,ln:=h.ln,jF:=λb k aj aV aZ=>?_,e8:=λl aK ad n ae e=>?_,bU:=λe m hm=>?_,j7:=h.j7,h4:=h.h4.mono bq he }
 ·grind
 ·rcases yq r D with E | ⟨b,E,rfl⟩ | E
  ·exact h.hT r E
  ·grind
  grind
 ·obtain⟨aO,aT⟩:=anj b (h.ll b r D) hc;rw[aO];exact h.iY b r D aT
 ·obtain⟨dT,eo⟩:=ai b;have aV:(H' b).gen=0:=aV;obtain⟨cH,b1,ek,_⟩:=(eo (by omega)).2.1 aZ;obtain⟨aO,aT⟩:=h.jF b k aj (by omega) cH;grind
 ·obtain⟨E,M,Y,al,a7,bR⟩:=h.e8 l aK ad n ae e;have F5:∀ r,Y r->¬F' r:=λr D aC=>by
   grind
  refine⟨E,M,Y,λr D=>⟨aQt (al r D).1 cQ,F5 r D,(al r D).2.2⟩,λb U bf=>?_,M.Kj bR bq (λr D=>?_) cQ hc ax λr aC bf=>F5 r bf aC⟩
  ·grind
  ·rcases D with D | D
   ·exact he.2 r D
   grind
 ·obtain⟨fU,mB⟩:=h.bU e m (vr e m hm);refine⟨fU,λid xs an=>?_⟩;obtain⟨mT,c6,cM,hU,lK,cv⟩:=mB id xs an;refine⟨mT,aQt c6 cQ,λaC=>?_,hU,λb U e=>?_,cv.mono bq he (hw id c6 lK)⟩<;>grind
theorem rT(w:World)(o:Obj){r:Nat}(h:r<w.heap.size):(w.alloc o).heap[r]?=w.heap[r]?:=Below.heap_alloc w o r h
theorem ua(w:World)(o:Obj):(w.alloc o).heap[w.heap.size]?=some o:=by
 show (w.heap.push o)[w.heap.size]?=_;simp
theorem dk.alloc{F:Nat->Prop}{w:World}(ax:∀ r,F r->r<w.heap.size)(o:Obj):dk F w (w.alloc o):=
 ⟨by simp,λr D=>rT w o (ax r D)⟩
theorem C2(aB:(H b).gen<x.gen)(Km:∀ bk,bk≠b->bV bk=kap bk) :
  fN H kap (λi=>if i=b then x else H i) bV:=by
 intro i;by_cases G:i=b
 ·subst G;simp;exact⟨by omega,λh=>by omega⟩
 grind [t'.refl]
theorem C3(U:b<fD\/(x.body.hr=false/\x.body.iX=false))(Km:∀ bk,bk≠b->bV bk=kap bk) :
  ∀ i,fD<=i->(if i=b then x else H i).body.hr=true\/(if i=b then x else H i).body.iX=true->bV i=kap i/\((H i).body.hr=true\/(H i).body.iX=true):=by
 grind
theorem bx.alloc{C:cJ}{s:aE}{a:Act}{w:World}{kap:Nat->bL}{F:Nat->Prop}(h:bx C s a w kap F){b:Nat}{x:b_}(F6:b<fD)(aB:(s.ab b).gen<x.gen)
  {o:Obj} {k:bL} (aj:k.ab=w.heap.size)
  (an:∀ (H:Nat->b_) (bV:Nat->bL),H=(λi=>if i=b then x else s.ab i)->bV=(λi=>if i=b then k else kap i)->fN s.ab kap H bV->mA C.P H bV F (w.alloc o) k x.body) (Kn:x.body.l_=false:=by rfl) :
  bx C (s.cq b x) a (w.alloc o) (λi=>if i=b then k else kap i) F:=by
 have ai:fN s.ab kap (λi=>if i=b then x else s.ab i) (λi=>if i=b then k else kap i):=C2 aB λbk dZ=>by grind
 refine h.move   ai (λ_ D=>D) (λ_ D=>.inl D) (by simp) (λr D _=>rT w o D) ⟨rfl,rfl,rfl⟩ (λhe=>?_) ?_ ?_ ?_ (C3 (.inl F6) λbk dZ=>by grind) (Kk Kn)
 ·intro i;by_cases G:i=b
  ·grind [c1]
  ·refine c1.lj (h.bH i) ai (λ_ D=>D) he (by grind) (by grind) λau=>?_;exact rT w o (h.own i au).1
 ·intro i G;by_cases bJ:i=b
  ·subst bJ;simp  at G ⊢;refine⟨by omega,λaC=>?_,.inr (by omega)⟩;have:=h.du _ aC;omega
  ·simp only[if_neg bJ]at G ⊢;have:=h.own i G;exact⟨by simp;omega,this.2.1,.inl ⟨i,G,rfl⟩⟩
 ·intro i j G aM e;by_cases bJ:i=b<;>by_cases pn:j=b
  ·omega
  ·simp  [if_pos bJ,if_neg pn]at G aM e;have:=(h.own j aM).1;omega
  ·simp  [if_neg bJ,if_pos pn]at G aM e;have:=(h.own i G).1;omega
  ·simp  [if_neg bJ,if_neg pn]at G aM e;exact h.inj i j G aM e
 ·intro r D;have:=h.du r D;simp;omega
theorem po(aB:x.gen=(H b).gen)(E:x.body.hr=true->(H b).body.hr=true)
  (M:x.body.gT=true->(H b).body.gT=true/\x.body.len=(H b).body.len/\x.body.gU=(H b).body.gU) (al:x.body.iX=true->(H b).body.iX=true)
  (a7:x.body.q4=true->(H b).body.q4=true) :
  fN H kap (λi=>if i=b then x else H i) kap:=by
 rw[YD];intro i;by_cases G:i=b
 ·subst G;simp;exact⟨by omega,λ_=>⟨λh=>⟨E h,rfl⟩,λh=>⟨(M h).1,rfl,(M h).2⟩,λh=>⟨al h,rfl⟩,λh=>⟨a7 h,rfl⟩⟩⟩
 grind [t'.refl]
theorem anl(E:x.body.hr=true->(H b).body.hr=true)(al:x.body.iX=true->(H b).body.iX=true) :
  ∀ i,fD<=i->(if i=b then x else H i).body.hr=true\/(if i=b then x else H i).body.iX=true->kap i=kap i/\((H i).body.hr=true\/(H i).body.iX=true):=by
 grind
theorem bx.q5{C:cJ}(h:bx C s a w kap F)
  (eJ:(s.ab b).body.cg (kap b)=true) (yv:x.body.cg (kap b)=true) (ai:fN s.ab kap (λi=>if i=b then x else s.ab i) kap)
  (E:x.body.hr=true->(s.ab b).body.hr=true) (al:x.body.iX=true->(s.ab b).body.iX=true)
  (hw:∀ r,r≠(kap b).ab->w'.heap[r]?=w.heap[r]?) (cQ:w'.heap.size=w.heap.size) (hc:dN w w')
  (an:∀ (H:Nat->b_),H=(λi=>if i=b then x else s.ab i)->fN s.ab kap H kap->dk F w w'->mA C.P H kap F w' (kap b) x.body) (Kn:x.body.l_=false:=by rfl) :
  bx C (s.cq b x) a w' kap F:=by
 have au:=h.own b eJ;refine h.move   ai (λ_ D=>D) (λ_ D=>.inl D) (by omega) (λr _ D=>hw r λe=>D b eJ e.symm) hc (λhe=>?_) ?_ ?_ (λr D=>by rw[cQ];exact h.du r D) (anl E al) (Kk Kn)
 ·intro i;by_cases G:i=b
  ·grind [c1]
  ·refine c1.lj (h.bH i) ai (λ_ D=>D) he (by grind) rfl λanm=>hw _ λe=>G (h.inj i b anm eJ e)
 ·intro i G;by_cases bJ:i=b
  ·grind
  ·simp  [if_neg bJ]at G;have:=h.own i G;grind
 ·intro i j G aM e;have ea:(s.ab i).body.cg (kap i)=true:=by
   grind
  have gV:(s.ab j).body.cg (kap j)=true:=by
   grind
  exact h.inj i j ea gV e
theorem bx.drew{C:cJ}{s:aE}{a:Act}{w:World}{kap:Nat->bL}{F:Nat->Prop}(h:bx C s a w kap F):bx C s a w.drew kap F:=
 h.move (H':=s.ab) (fN.refl _ _) (λ_ D=>D) (λ_ D=>.inl D) (amY _) (λ_ _ _=>rfl) ⟨rfl,rfl,rfl⟩
  (λ_ b=>c1.lj (h.bH b) (fN.refl _ _) (λ_ D=>D) ⟨amY _,λ_ _=>rfl⟩ rfl rfl λ_=>rfl) (λb U=>⟨(h.own b U).1,(h.own b U).2.1,.inl ⟨b,U,rfl⟩⟩) h.inj h.du (λ_ _ h=>⟨rfl,h⟩) (yu.refl _)
def aE.le(s' s:aE):Prop:=(∀ i,s'.aD i=s.aD i\/s'.aD i=.undef)/\∀ b,s'.ab b=s.ab b\/s'.ab b=⟨(s.ab b).gen,.ez⟩
theorem bx.vs{C:cJ}{s':aE}(h:bx C s a w kap F)(ax:s'.le s):bx C s' a w kap F:=by
 have eJ:∀ b,(s'.ab b).body.cg (kap b)=true->(s.ab b).body.cg (kap b)=true:=λb U=>by
  rcases ax.2 b with e | e
  ·grind
  ·rw[e]at U;cases U
 have ai:fN s.ab kap s'.ab kap:=λb=>by
  rcases ax.2 b with e | e
  ·grind
  ·rw[e];exact⟨amY _,λ_=>⟨λh=>(by cases h),λh=>(by cases h),λh=>(by cases h),λh=>(by cases h)⟩⟩
 have M:=h.move ai (λ_ D=>D) (λ_ D=>.inl D) (amY _) (λ_ _ _=>rfl) (dN.refl _)
  (λ_ b=>by
   rcases ax.2 b with e | e
   ·exact c1.lj (h.bH b) ai (λ_ D=>D) (dk.refl _ _) (by rw[e]) rfl λ_=>rfl
   ·unfold c1;rw[e];trivial)
  (λb U=>⟨(h.own b (eJ b U)).1,(h.own b (eJ b U)).2.1,.inl ⟨b,eJ b U,rfl⟩⟩) (λb bk U dZ=>h.inj b bk (eJ b U) (eJ bk dZ)) h.du (λb _ U=>⟨rfl,by
   rcases ax.2 b with e | e
   ·grind
   grind [ca.hr,ca.iX]⟩) (λe m hm=>by
   rcases ax.2 cG with k | k<;>grind)
 refine { M with b5:=λi=>?_,dY:=M.dY,dm:=M.dm,e8:=λl aK ad n ae e=>?_,bU:=λe m hm=>⟨(M.bU e m hm).1,λid xs an=>⟨λl aK ad n ae aH=>?_,((M.bU e m hm).2 id xs an).2⟩⟩ }
 ·rcases ax.1 i with e | e
  ·rw[e];exact M.b5 i
  ·rw[e];trivial
 ·rcases ax.1 cd with k | k
  ·exact M.e8 l aK ad n ae (k ▸ e)
  grind
 ·rcases ax.1 cd with k | k
  ·exact ((M.bU e m hm).2 id xs an).1 l aK ad n ae (k ▸ aH)
  grind
end Go.Fer
namespace Go.Fer
inductive aG(af:Type) where
 | ret (a:af)
 | fl (b:Nat) (k:b_->aG af)
def aG.run{af:Type}(H:Nat->b_):aG af->af
 | .ret a=>a
 | .fl b k=>(k (H b)).run H
def aG.looks{af:Type}(H:Nat->b_):aG af->List Nat
 | .ret _=>[]
 | .fl b k=>b::(k (H b)).looks H
def aG.bind{af bet:Type}:aG af->(af->aG bet)->aG bet
 | .ret a,f=>f a
 | .fl b k,f=>.fl b λx=>(k x).bind f
variable {af:Type}{bet:Type}
def aG.map(f:af->bet)(m:aG af):aG bet:=m.bind λa=>.ret (f a)
def aG.none{af:Type}:aG (Option af):=.ret Option.none
def aG.eG(m:aG (Option af))(f:af->aG (Option bet)):aG (Option bet):=m.bind fun | some a=>f a | Option.none=>.none
@[simp] theorem aG.dF (H:Nat->b_) (a:af):(aG.ret a).run H=a:=rfl
@[simp] theorem aG.gW (H:Nat->b_) (b:Nat) (k:b_->aG af):(aG.fl b k).run H=(k (H b)).run H:=rfl
theorem aG.run_bind(H:Nat->b_)(m:aG af)(f:af->aG bet):(m.bind f).run H=(f (m.run H)).run H:=by
 induction m with
 | ret a=>rfl
 | fl b k aR=>simp[aG.bind,aR]
theorem aG.gf(H:Nat->b_)(m:aG (Option af))(f:af->aG (Option bet)):(m.eG f).run H=(m.run H).bind λa=>(f a).run H:=by
 unfold aG.eG;rw[aG.run_bind];cases m.run H<;>rfl
theorem aG.YE{af:Type}{H H':Nat->b_}:∀ (m:aG af),(∀ b∈m.looks H,H' b=H b)->m.run H'=m.run H/\m.looks H'=m.looks H
 | .ret a,_=>⟨rfl,rfl⟩
 | .fl b k,h=>by
  have U:=h b (by simp[aG.looks]);have:=aG.YE (k (H b)) λc hc=>h c (by simp[aG.looks,hc]);simp only[aG.run,aG.looks,U,this];simp
def fE(t dO:aa)(x:t.aq):Option dO.aq:=if h:t=dO then some (h ▸ x) else none
theorem mU{t dO:aa}{x:t.aq}{y:dO.aq}(h:fE t dO x=some y):∃ e:t=dO,y=e ▸ x:=by
 unfold fE at h;grind
def F7:(t:aa)->Value->Option t.aq
 | .bP _,.pointer Option.none=>some Option.none
 | .map _ _,.map Option.none=>some []
 | .eY,.nilFunc=>some Option.none
 | _,_=>Option.none
def aa.isAgg:aa->Bool
 | .ae _ | .array _ _=>true
 | _=>false
def eK(t:aa):aN->aG (Option (t.aq×List Nat))
 | .val dO x=>.ret ((fE dO t x).map (·,[]))
 | .dd=>match t with
  | .slice _=>.ret (some ([],[]))
  | .cP _=>.ret (some ((0,0,0),[]))
  | _=>.none
 | .own b g=>match t with
  | .slice e=>.fl b λx=>.ret (if x.gen=g then (match x.body with
    | .bo a1 xs=>(fE (.slice a1) (.slice e) xs).map (·,[b])
    | .jD a1 xs=>(fE (.slice a1) (.slice e) xs).map (·,[])
    | _=>Option.none) else Option.none)
  | _=>.none
 | .sub b g ba G=>match t with
  | .slice e=>.fl b λx=>.ret (if x.gen=g then (match x.body with
    | .bo a1 xs=>(fE (.slice a1) (.slice e) ((xs.take G).drop ba)).map (·,[b])
    | .jD a1 xs=>(fE (.slice a1) (.slice e) ((xs.take G).drop ba)).map (·,[])
    | _=>Option.none) else Option.none)
  | _=>.none
 | .vq a1 xs=>match t with
  | .slice e=>.ret ((fE (.slice a1) (.slice e) xs).map (·,[]))
  | _=>.none
 | .hq b g=>match t with
  | .map k v=>.fl b λx=>.ret (if x.gen=g then (match x.body with
    | .mp k' iA es=>(fE (.map k' iA) (.map k v) es).map (·,[b])
    | .lh k' iA es=>(fE (.map k' iA) (.map k v) es).map (·,[])
    | _=>Option.none) else Option.none)
  | _=>.none
 | .eL dO x=>match t with
  | .bP e=>.ret ((fE (.bP dO) (.bP e) (some x)).map (·,[]))
  | _=>.none
 | .lg v=>.ret ((F7 t v).map (·,[]))
 | .jl k n _=>match t with
  | .eY=>if n=0 then .ret (some (some k,[])) else .none
  | _=>.none
 | _=>.none
def w7(e:aa)(cr:List aN->aG (Option (e.aq×List Nat×List aN)))(av:aN):aG (Option (Option e.aq×List Nat)):=
 match av with
 | .eZ b g off=>.fl b λx=>if x.gen=g/\off=0 then (match x.body with
   | .ix dO y=>.ret ((fE dO e y).map λz=>(some z,[]))
   | .cells dO f=>if dO=e then (cr ((List.range e.size).map f)).eG λ(y,l,r)=>.ret (if r.isEmpty then some (some y,b::l) else Option.none) else .none
   | _=>.none) else .none
 | av=>eK (.bP e) av
def lo:(t:aa)->List aN->aG (Option (t.aq×List Nat×List aN))
 | .dc,cs=>.ret (some ((),[],cs))
 | .ae t,cs=>lo t cs
 | .aw a b,cs=>(lo a cs).eG λ(x,l,r)=>(lo b r).eG λ(y,m,q)=>.ret (some ((x,y),l++m,q))
 | .array n e,cs=>n.rec (motive:=λ_=>List aN->aG (Option (List e.aq×List Nat×List aN))) (λcs=>.ret (some ([],[],cs)))
   (λ_ aR cs=>(lo e cs).eG λ(x,l,r)=>(aR r).eG λ(xs,m,q)=>.ret (some (x::xs,l++m,q))) cs
 | .bool,cs=>match cs with | c::r=>(eK .bool c).map λo=>o.map λ(x,l)=>(x,l,r) | []=>.none
 | .int k,cs=>match cs with | c::r=>(eK (.int k) c).map λo=>o.map λ(x,l)=>(x,l,r) | []=>.none
 | .str,cs=>match cs with | c::r=>(eK .str c).map λo=>o.map λ(x,l)=>(x,l,r) | []=>.none
 | .slice e,cs=>match cs with | c::r=>(eK (.slice e) c).map λo=>o.map λ(x,l)=>(x,l,r) | []=>.none
 | .bP e,cs=>match cs with | c::r=>(w7 e (lo e) c).map λo=>o.map λ(x,l)=>(x,l,r) | []=>.none
 | .cP e,cs=>match cs with | c::r=>(eK (.cP e) c).map λo=>o.map λ(x,l)=>(x,l,r) | []=>.none
 | .map k v,cs=>match cs with | c::r=>(eK (.map k v) c).map λo=>o.map λ(x,l)=>(x,l,r) | []=>.none
 | .fn a b,cs=>match cs with | c::r=>(eK (.fn a b) c).map λo=>o.map λ(x,l)=>(x,l,r) | []=>.none
 | .cI a,cs=>match cs with | c::r=>(eK (.cI a) c).map λo=>o.map λ(x,l)=>(x,l,r) | []=>.none
 | .eY,cs=>match cs with | c::r=>(eK .eY c).map λo=>o.map λ(x,l)=>(x,l,r) | []=>.none
def l'(t:aa)(av:aN):aG (Option (t.aq×List Nat)):=
 match t with
 | .bP e=>w7 e (lo e) av
 | t=>if t.gb then eK t av else .none
def en(t:aa)(av:aN):aG (Option (t.aq×List Nat)):=
 match av with
 | .val dO x=>.ret ((fE dO t x).map (·,[]))
 | .agg n f=>if t.gb then .none else (lo t ((List.range n).map f)).eG λ(x,l,r)=>.ret (if r.isEmpty&&t.isAgg then some (x,l) else Option.none)
 | _=>l' t av
def qc:(t:aa)->t.aq->List aN
 | .dc,_=>[]
 | .ae t,x=>qc t x
 | .aw a b,x=>qc a x.1++qc b x.2
 | .array n e,xs=>(List.range n).flatMap λi=>qc e (List.getD xs i e.dW)
 | .bool,x=>[.val .bool x]
 | .int k,x=>[.val (.int k) x]
 | .str,x=>[.val .str x]
 | .slice e,x=>[.val (.slice e) x]
 | .cP e,x=>[.val (.cP e) x]
 | .bP e,x=>[.val (.bP e) x]
 | .map k v,x=>[.val (.map k v) x]
 | .fn a b,x=>[.val (.fn a b) x]
 | .cI a,x=>[.val (.cI a) x]
 | .eY,x=>[.val .eY x]
def vt:aa->List aN
 | .dc=>[]
 | .ae t=>vt t
 | .aw a b=>vt a++vt b
 | .array n e=>(List.range n).flatMap λ_=>vt e
 | .bool=>[.val .bool false]
 | .int k=>[.val (.int k) (0:Int)]
 | .str=>[.val .str []]
 | .cP _=>[.dd]
 | .slice _=>[.dd]
 | .bP e=>[.val (.bP e) Option.none]
 | .map k v=>[.val (.map k v) []]
 | .fn _ _=>[.lg .nilFunc]
 | .cI _=>[.lg .nilFunc]
 | .eY=>[.val .eY Option.none]
def h5(l:List aN)(i:Nat):aN:=l.getD i .undef
def qd:aa->Nat->Option (aa×Nat)
 | .aw a _,0=>some (a,0)
 | .aw a b,f+1=>(qd b f).map λ(t,o)=>(t,a.size+o)
 | .dc,_=>Option.none
 | t,0=>some (t,0)
 | _,_+1=>Option.none
def yw:(t:aa)->t.aq->Nat->Option ((s:aa)×s.aq)
 | .aw a _,x,0=>some ⟨a,x.1⟩
 | .aw _ b,x,f+1=>yw b x.2 f
 | .dc,_,_=>Option.none
 | t,x,0=>some ⟨t,x⟩
 | _,_,_+1=>Option.none
def vu:(t:aa)->t.aq->Nat->(s:aa)->Option s.aq
 | .ae t,x,off,s=>if off=0/\aa.ae t=s then fE (.ae t) s x else vu t x off s
 | .aw a b,x,off,s=>if off<a.size then vu a x.1 off s else vu b x.2 (off - a.size) s
 | .dc,_,_,_=>Option.none
 | .array _ _,_,_,_=>Option.none
 | .bool,x,off,s=>if off=0 then fE .bool s x else Option.none
 | .int k,x,off,s=>if off=0 then fE (.int k) s x else Option.none
 | .cP e,x,off,s=>if off=0 then fE (.cP e) s x else Option.none
 | .str,x,off,s=>if off=0 then fE .str s x else Option.none
 | .slice e,x,off,s=>if off=0 then fE (.slice e) s x else Option.none
 | .bP e,x,off,s=>if off=0 then fE (.bP e) s x else Option.none
 | .map k v,x,off,s=>if off=0 then fE (.map k v) s x else Option.none
 | .fn a b,x,off,s=>if off=0 then fE (.fn a b) s x else Option.none
 | .cI a,x,off,s=>if off=0 then fE (.cI a) s x else Option.none
 | .eY,x,off,s=>if off=0 then fE .eY s x else Option.none
def Au:(t:aa)->t.aq->Nat->(s:aa)->s.aq->Option t.aq
 | .ae t,x,off,s,y=>if off=0/\s=aa.ae t then fE s (.ae t) y else Au t x off s y
 | .aw a b,x,off,s,y=>if off<a.size then (Au a x.1 off s y).map (·,x.2) else (Au b x.2 (off - a.size) s y).map (x.1,·)
 | .dc,_,_,_,_=>Option.none
 | .array _ _,_,_,_,_=>Option.none
 | .bool,_,off,s,y=>if off=0 then fE s .bool y else Option.none
 | .cP e,_,off,s,y=>if off=0 then fE s (.cP e) y else Option.none
 | .int k,_,off,s,y=>if off=0 then fE s (.int k) y else Option.none
 | .str,_,off,s,y=>if off=0 then fE s .str y else Option.none
 | .slice e,_,off,s,y=>if off=0 then fE s (.slice e) y else Option.none
 | .bP e,_,off,s,y=>if off=0 then fE s (.bP e) y else Option.none
 | .map k v,_,off,s,y=>if off=0 then fE s (.map k v) y else Option.none
 | .fn a b,_,off,s,y=>if off=0 then fE s (.fn a b) y else Option.none
 | .cI a,_,off,s,y=>if off=0 then fE s (.cI a) y else Option.none
 | .eY,_,off,s,y=>if off=0 then fE s .eY y else Option.none
def n'(k:IntKind)(a b:Int):Int:=k.wrap (BitVec.ofInt k.bits a&&& BitVec.ofInt k.bits b).toNat
def YF(k:IntKind)(a b:Int):Int:=k.wrap (BitVec.ofInt k.bits a||| BitVec.ofInt k.bits b).toNat
def YG(k:IntKind)(a b:Int):Int:=k.wrap (BitVec.ofInt k.bits a ^^^ BitVec.ofInt k.bits b).toNat
def YH(k:IntKind)(a b:Int):Int:=k.wrap (BitVec.ofInt k.bits a&&& ~~~BitVec.ofInt k.bits b).toNat
def ano(k:IntKind)(a b:Int):Int:=k.wrap (a*2 ^ (min b.toNat k.bits))
def lp(k:IntKind)(a b:Int):Int:=a.fdiv (2 ^ (min b.toNat k.bits))
def oa(t:aa)(xs:List t.aq)(i:Int):t.aq:=xs.getD i.toNat t.dW
def b2(n:Nat):Prop:=n<=4294967296
def jm:(t:aa)->t.aq->t.aq->Bool
 | .bool,x,y=>x == y
 | .int _,x,y=>decide ((x:Int)=y)
 | .str,x,y=>decide ((x:List UInt8)=y)
 | .ae t,x,y=>jm t x y
 | .aw a b,x,y=>jm a x.1 y.1&&jm b x.2 y.2
 | _,_,_=>false
def aa.oO:aa->Bool
 | .bool | .int _ | .str=>true
 | .ae t=>t.oO
 | .aw a b=>a.oO&&b.oO
 | _=>false
end Go.Fer
namespace Go.Fer
open Go.RowKit
section
variable {P:Program} {H:Nat->b_} {kap:Nat->bL} {F F':Nat->Prop} {w:World}
def fu(P:Program)(H:Nat->b_)(kap:Nat->bL)(F:Nat->Prop)(w:World):List aN->List Value->Prop
 | [],[]=>True
 | a::as,v::aI=>(bM P H kap F w a v/\v.oneCell'=true)/\fu P H kap F w as aI
 | _,_=>False
theorem fu.append:∀ {as dE:List aN} {us aI:List Value},fu P H kap F w as us->fu P H kap F w dE aI->fu P H kap F w (as++dE) (us++aI)
 | [],_,[],_,_,k=>k
 | _::_,_,_::_,_,h,k=>⟨h.1,fu.append h.2 k⟩
 | [],_,_::_,_,h,_=>h.elim
 | _::_,_,[],_,h,_=>h.elim
theorem fu.len:∀ {as:List aN} {us:List Value},fu P H kap F w as us->as.length=us.length
 | [],[],_=>rfl
 | _::_,_::_,h=>by simp[fu.len h.2]
 | [],_::_,h=>h.elim
 | _::_,[],h=>h.elim
theorem fu.oa:∀ {as:List aN} {us:List Value},fu P H kap F w as us->∀ i,i<as.length->bM P H kap F w (h5 as i) (us.getD i Go.undef)/\(us.getD i Go.undef).oneCell'=true
 | a::as,v::aI,h,0,_=>h.1
 | a::as,v::aI,h,i+1,G=>by
  have:=fu.oa h.2 i (by grind);simpa [h5]using this
 | [],[],_,i,G=>by grind
 | [],_::_,h,_,_=>h.elim
 | _::_,[],h,_,_=>h.elim
theorem fu.YI:∀ {as:List aN} {us:List Value},as.length=us.length->(∀ i,i<as.length->bM P H kap F w (h5 as i) (us.getD i Go.undef)/\(us.getD i Go.undef).oneCell'=true)->fu P H kap F w as us
 | [],[],_,_=>trivial
 | a::as,v::aI,ai,h=>⟨h 0 (by simp),fu.YI (by grind) λi G=>by have:=h (i+1) (by grind);simpa [h5]using this⟩
 | [],_::_,ai,_=>by grind
 | _::_,[],ai,_=>by grind
theorem C4:∀ (t:aa) {cs:List Value} {x:t.aq},cw P t F w cs x->fu P H kap F w (qc t x) cs:=by
 have fe:∀ (t:aa),t.gb=true->∀ {cs:List Value} {x:t.aq},cw P t F w cs x->fu P H kap F w [.val t x] cs:=by
  intro t aH cs x h;obtain⟨u,rfl,hu⟩:=Kf aH h;exact⟨⟨(eh aH).2 ⟨hu,h⟩,PV aH h⟩,trivial⟩
 intro t;induction t with
 | bool=>intro cs x h;exact fe _ rfl h
 | int k=>intro cs x h;exact fe (.int k) rfl h
 | str=>intro cs x h;exact fe _ rfl h
 | dc=>intro cs x h;subst h;trivial
 | ae t aR=>intro cs x h;exact aR h
 | aw a b hp gq=>
  intro cs x h;obtain⟨c,d,rfl,aZ,U⟩:=h;exact (hp aZ).append (gq U)
 | slice e aR=>intro cs x h;exact fe (.slice e) rfl h
 | array n e aR=>
  intro cs xs h;simp  [cw]at h;simp only[qc];have key:∀ (k:Nat) (l:List (List Value)),(∀ i (G:i<l.length),fu P H kap F w (qc e (List.getD xs (k+i) e.dW)) l[i])->fu P H kap F w ((List.range' k l.length).flatMap λi=>qc e (List.getD xs i e.dW)) l.flatten:=by
   intro k l;induction l generalizing k with
   | nil=>intro _;trivial
   | cons c l anp=>
    intro dj;refine fu.append ?_ (anp (k+1) λi G=>?_)
    ·have:=dj 0 (by simp);grind
    ·have:=dj (i+1) (by grind);grind
  rw[aRq];grind
 | bP e aR=>intro cs x h;exact fe (.bP e) rfl h
 | map k v Ai Aj=>intro cs x h;exact fe (.map k v) rfl h
 | fn a b hp gq=>intro cs x h;exact fe (.fn a b) rfl h
 | cI a aR=>intro cs x h;exact fe (.cI a) rfl h
 | eY=>intro cs x h;exact fe .eY rfl h
 | cP e aR=>intro cs x h;exact fe (.cP e) rfl h
variable {e:aa}{k:bL}
theorem PY{xs:List e.aq}(a6:mA P H kap F w k (.bo e xs))(bq:∀ r,F r->F' r)(aj:k.fT=false->F' k.ab):cw P (.slice e) F' w [k.slice xs.length] xs:=by
 obtain⟨E,M⟩:=a6;simp  [bL.slice];cases aA:k.fT with
 | true=>rw[E aA];exact⟨none,0,rfl,amY _,by decide,λ_=>rfl,λp ak=>by simp⟩
 | false=>
  obtain⟨cs,T,bI,c2,c3,c4,c5⟩:=M aA;refine⟨some ⟨k.ab,k.off,none⟩,k.cap,by simp,c3,c4.1,(by simp),λp ak _=>?_⟩;cases ak;refine⟨aj aA,rfl,λi G=>?_⟩;obtain⟨bE,d1,d2⟩:=c5 i G;refine⟨bE,⟨aj aA,rfl,λj aM=>?_⟩,fM e bq (dk.refl F w) d2⟩;simp  [World.cell?];grind
variable {t:aa}{v:Value}
theorem C5{dO:aa}{x:t.aq}{y:dO.aq}(hc:fE t dO x=some y)(h:ft P t F w v x):ft P dO F w v y:=by
 obtain⟨e,rfl⟩:=mU hc;grind
theorem w8{dO:aa}{x:t.aq}{y:dO.aq}{cs:List Value}(hc:fE t dO x=some y)(h:cw P t F w cs x):cw P dO F w cs y:=by
 obtain⟨e,rfl⟩:=mU hc;grind
def kV(H:Nat->b_)(kap:Nat->bL)(F':Nat->Prop)(l:List Nat):Prop:=∀ b∈l,(H b).body.cg (kap b)=true->F' (kap b).ab
variable {l:List Nat}
theorem kV.left{m:List Nat}(h:kV H kap F' (l++m)):kV H kap F' l:=λb U=>h b (aRC _ U)
theorem kV.right{m:List Nat}(h:kV H kap F' (l++m)):kV H kap F' m:=λb U=>h b (aQY _ U)
theorem YJ{oN rS:aa}{es:List (oN.aq×rS.aq)}(a6:mA P H kap F w k (.mp oN rS es))(bq:∀ r,F r->F' r)(aj:F' k.ab):cw P (.map oN rS) F' w [.map (some k.ab)] es:=by
 obtain⟨ms,clk,E,M⟩:=a6;obtain⟨M,al,a7,bR⟩:=M.mono bq (dk.refl F w);exact .inr ⟨_,ms,clk,rfl,aj,E,M,al,a7,bR⟩
theorem Ko{xs:List e.aq}{ba G:Nat}(h:cw P (.slice e) F' w [k.slice xs.length] xs)(E:ba<=G)(M:G<=xs.length)(ax:Ki k e.size ba G v) :
  cw P (.slice e) F' w [v] ((xs.take G).drop ba):=by
 have hlen:((xs.take G).drop ba).length=G - ba:=by grind
 obtain⟨a,cap,aF,bI,c2,c3,c4⟩:=h;rcases ax with⟨aA,rfl⟩ | ⟨aA,o,rfl,kC,gX⟩
 ·have:xs=[]:=by
   simp  [bL.slice,aR1]at aF;grind
  subst this;have bQ:(([]:List e.aq).take G).drop ba=[]:=by simp
  rw[bQ];exact⟨none,0,rfl,amY _,by decide,λ_=>rfl,λp ak=>by simp⟩
 ·simp  [bL.slice,aA,aR1]at aF;obtain⟨rfl,_,rfl⟩:=aF;refine⟨some ⟨k.ab,o,none⟩,k.cap - ba,by grind,by omega,by omega,(by simp),λp ak C6=>?_⟩;cases ak;obtain⟨d1,d2,d3⟩:=c4 _ rfl (by omega);refine⟨d1,rfl,λi ea=>?_⟩;obtain⟨bE,m1,m2⟩:=d3 (ba+i) (by omega);grind
theorem PZ(a6:∀ b,c1 P H kap F w b)(bq:∀ r,F r->F' r)(aH:t.gb=true){av:aN}{x:t.aq}(h:(eK t av).run H=some (x,l))
  (ai:kV H kap F' l) (ag:bM P H kap F w av v):ft P t F' w v x:=by
 cases av with
 | undef=>cases h
 | kB b a=>cases h
 | eZ b g off=>cases h
 | q3 b g i off=>cases h
 | ke b g i=>cases h
 | jl k n c=>
  cases t<;>simp  [eK,aG.none,reduceCtorEq]at h;split at h
  ·rename_i aA;subst aA;cases h;obtain⟨aI,rfl,ai,_⟩:=ag;obtain rfl:=aQS ai;exact (eh rfl).2 ⟨rfl,rfl⟩
  simp_all
 | vp k n c=>cases h
 | sN n f=>cases h
 | agg n f=>cases h
 | l9 b g=>cases h
 | aS l aK ad n ae=>cases h
 | iw l=>cases h
 | vq a1 xs=>
  cases t<;>simp only[eK,aG.none,aG.dF,reduceCtorEq,aQX,aQx]at h;obtain⟨z,bz,rfl,rfl⟩:=h;exact (C5 bz ag.1).mono bq (dk.refl F w)
 | ys e id i=>cases h
 | Ap b g=>cases h
 | hS b g=>cases h
 | sub b g ba G=>
  cases t<;>simp only[eK,aG.none,aG.dF,aG.gW,reduceCtorEq]at h;split at h
  ·rename_i aB;obtain⟨rU,jU⟩:=ag;have lL:=a6 b;unfold c1 at lL;cases cm:(H b).body with
   | bo a1 xs=>
    rw[cm]at h lL jU;simp  at h;obtain⟨z,bz,rfl,rfl⟩:=h;obtain⟨⟨aO,aT⟩,b7⟩:=jU aB.symm rfl;exact (eh rfl).2 ⟨Ke rU.2,w8 bz (Ko (PY lL bq λaA=>ai b (by simp) (by rw[cm];simp[ca.cg,aA])) aO aT b7)⟩
   | jD a1 xs=>
    rw[cm]at h lL jU;simp  at h;obtain⟨z,bz,rfl,rfl⟩:=h;obtain⟨⟨aO,aT⟩,b7⟩:=jU aB.symm rfl;exact (eh rfl).2 ⟨Ke rU.2,w8 bz (Ko (fM (.slice a1) bq (dk.refl F w) lL) aO aT b7)⟩
   | _=>rw[cm]at h;cases h
  grind
 | hq b g=>
  cases t<;>simp only[eK,aG.none,aG.dF,aG.gW,reduceCtorEq]at h;split at h
  ·rename_i aB;obtain⟨rU,jU⟩:=ag;have lL:=a6 b;unfold c1 at lL;cases cm:(H b).body with
   | mp k' iA es=>
    rw[cm]at h lL jU;simp  at h;obtain⟨z,bz,rfl,rfl⟩:=h;have:=jU aB.symm rfl;subst this;exact (eh rfl).2 ⟨rfl,w8 bz (YJ lL bq (ai b (by simp) (by rw[cm];rfl)))⟩
   | lh k' iA es=>
    rw[cm]at h lL jU;simp  at h;obtain⟨z,bz,rfl,rfl⟩:=h;have:=jU aB.symm rfl;subst this;exact (eh rfl).2 ⟨rfl,w8 bz (fM (.map k' iA) bq (dk.refl F w) lL)⟩
   | _=>rw[cm]at h;cases h
  grind
 | val dO y=>
  simp  [eK,aQx]at h;obtain⟨z,bz,rfl,rfl⟩:=h;exact (C5 bz ag).mono bq (dk.refl F w)
 | dd=>
  cases t<;>simp  [eK,aG.none,aQx]at h
  ·obtain⟨rfl,rfl⟩:=h;subst ag;exact (eh rfl).2 ⟨rfl,none,0,rfl,amY _,by decide,λ_=>rfl,λp ak=>by simp⟩
  ·obtain⟨rfl,rfl⟩:=h;subst ag;exact (eh rfl).2 ⟨rfl,.inl ⟨rfl,rfl⟩⟩
 | own b g=>
  cases t<;>simp only[eK,aG.none,aG.dF,aG.gW,reduceCtorEq]at h;split at h
  ·rename_i aB;obtain⟨rU,jU⟩:=ag;have lL:=a6 b;unfold c1 at lL;cases cm:(H b).body with
   | bo a1 xs=>
    rw[cm]at h lL jU;simp  at h;obtain⟨z,bz,rfl,rfl⟩:=h;have:=jU aB.symm rfl;subst this;refine (eh rfl).2 ⟨by unfold bL.slice;split<;>rfl,w8 bz (PY lL bq λaA=>ai b (by simp) (by rw[cm];simp[ca.cg,aA]))⟩
   | jD a1 xs=>
    rw[cm]at h lL jU;simp  at h;obtain⟨z,bz,rfl,rfl⟩:=h;have:=jU aB.symm rfl;subst this;exact (eh rfl).2 ⟨by unfold bL.slice;split<;>rfl,w8 bz (fM _ bq (dk.refl F w) lL)⟩
   | _=>rw[cm]at h;cases h
  grind
 | eL dO y=>
  cases t<;>simp  [eK,aG.none,aQx]at h;obtain⟨z,bz,rfl,rfl⟩:=h;obtain⟨p,bE,rfl,M,al⟩:=ag;refine (eh rfl).2 ⟨rfl,w8 bz ?_⟩;exact .inr ⟨p,y,bE,rfl,rfl,M.mono bq (dk.refl F w),fM dO bq (dk.refl F w) al⟩
 | lg u=>
  subst ag;simp  [eK,aQx]at h;obtain⟨z,bz,rfl,rfl⟩:=h;unfold F7 at bz;split at bz
  ·cases bz;exact (eh rfl).2 ⟨rfl,.inl ⟨rfl,rfl⟩⟩
  ·cases bz;exact (eh rfl).2 ⟨rfl,.inl ⟨rfl,rfl⟩⟩
  ·cases bz;exact (eh rfl).2 ⟨rfl,rfl⟩
  grind
theorem F8{n:Nat}{f:Nat->aN}{aI:List Value}(ai:aI.length=n)(h:∀ i,i<n->bM P H kap F w (f i) (aI.getD i Go.undef)/\(aI.getD i Go.undef).oneCell'=true) :
  fu P H kap F w ((List.range n).map f) aI:=by
 refine fu.YI (by grind) λi G=>?_;have ea:i<n:=by grind
 have:h5 ((List.range n).map f) i=f i:=by simp[h5,ea]
 grind
theorem YK(a6:∀ b,c1 P H kap F w b)(bq:∀ r,F r->F' r){cr:List aN->aG (Option (e.aq×List Nat×List aN))}
  (fm:∀ {cs:List aN} {aI:List Value} {x:e.aq} {l:List Nat} {r:List aN},(cr cs).run H=some (x,l,r)->kV H kap F' l->fu P H kap F w cs aI->∃ c d,aI=c++d/\cw P e F' w c x/\fu P H kap F w r d)
  {av:aN} {v:Value} {x:Option e.aq} {l:List Nat} (h:(w7 e cr av).run H=some (x,l)) (ai:kV H kap F' l) (ag:bM P H kap F w av v):ft P (.bP e) F' w v x:=by
 have b9:(eK (.bP e) av).run H=some (x,l)->ft P (.bP e) F' w v x:=λh=>PZ a6 bq rfl h ai ag;cases av with
 | eZ b g off=>
  simp only[w7,aG.gW]at h;split at h
  ·rename_i aB;obtain⟨aB,rfl⟩:=aB;obtain⟨rU,jU⟩:=ag;have lL:=a6 b;unfold c1 at lL;cases cm:(H b).body with
   | ix t y=>
    rw[cm]at h lL jU;simp  at h;obtain⟨z,bz,rfl,rfl⟩:=h;obtain⟨eq,rfl⟩:=mU bz;subst eq;obtain rfl:=jU aB.symm rfl;obtain⟨bE,E,M⟩:=lL;exact (eh rfl).2 ⟨rfl,.inr ⟨_,_,bE,rfl,rfl,E.mono bq (dk.refl F w),fM t bq (dk.refl F w) M⟩⟩
   | cells t f=>
    rw[cm]at h lL jU;simp only at h;split at h
    ·rename_i aH;subst aH;simp only[aG.gf,amU,aG.dF]at h;obtain⟨⟨y,m,q⟩,E,M⟩:=h;split at M
     ·rename_i bC;obtain⟨rfl,rfl⟩:=M;obtain rfl:=jU aB.symm rfl;obtain⟨cs,T,aO,aT,b7⟩:=lL;have kg:fu P H kap F w ((List.range t.size).map f) cs.toList:=F8 (by have:=aT.1;omega) λi G=>by
       simp_all
      obtain⟨c,d,anq,bI,c2⟩:=fm E (λbk dZ=>ai bk (am2 _ dZ)) kg;have bC:=List.isEmpty_iff.1 bC;subst bC;cases d with
      | cons _ _=>exact c2.elim
      | nil=>
       refine (eh rfl).2 ⟨rfl,.inr ⟨_,y,c,rfl,rfl,⟨ai b (by simp) (by rw[cm];rfl),rfl,λj aM=>?_⟩,bI⟩⟩;have gV:j<cs.size:=by grind
       simp  [World.cell?,aRm gV];grind
     grind
    ·cases h
   | _=>rw[cm]at h;cases h
  ·cases h
 | _=>exact b9 h
theorem P0(a6:∀ b,c1 P H kap F w b)(bq:∀ r,F r->F' r):∀ (t:aa) {cs:List aN} {aI:List Value} {x:t.aq} {l:List Nat} {r:List aN},(lo t cs).run H=some (x,l,r)->
  kV H kap F' l->fu P H kap F w cs aI->∃ c d,aI=c++d/\cw P t F' w c x/\fu P H kap F w r d:=by
 have rV:∀ (t:aa) (g:aN->aG (Option (t.aq×List Nat))),t.gb=true->(∀ {av:aN} {v:Value} {x:t.aq} {l:List Nat},(g av).run H=some (x,l)->kV H kap F' l->bM P H kap F w av v->ft P t F' w v x)->
   ∀ {cs:List aN} {aI:List Value} {x:t.aq} {l:List Nat} {r:List aN},(match cs with | c::r=>(g c).map λo=>o.map λ(x,l)=>(x,l,r) | []=>.none:aG (Option (t.aq×List Nat×List aN))).run H=some (x,l,r)->
   kV H kap F' l->fu P H kap F w cs aI->∃ c d,aI=c++d/\cw P t F' w c x/\fu P H kap F w r d:=by
  intro t g aH aB cs aI x l r h ai aZ;cases cs with
  | nil=>cases h
  | cons c cs=>
   cases aI with
   | nil=>exact aZ.elim
   | cons v aI=>
    simp only[aG.map,aG.run_bind,aG.dF,aQX]at h;obtain⟨⟨y,m⟩,bz,rfl,rfl,rfl⟩:=h;refine⟨[v],aI,rfl,?_,aZ.2⟩;exact ((eh aH).1 (aB bz ai aZ.1.1)).2
 have fe:∀ (t:aa),t.gb=true->∀ {cs:List aN} {aI:List Value} {x:t.aq} {l:List Nat} {r:List aN},(match cs with | c::r=>(eK t c).map λo=>o.map λ(x,l)=>(x,l,r) | []=>.none:aG (Option (t.aq×List Nat×List aN))).run H=some (x,l,r)->
   kV H kap F' l->fu P H kap F w cs aI->∃ c d,aI=c++d/\cw P t F' w c x/\fu P H kap F w r d:=
  λt aH=>rV t (eK t) aH λh ai ag=>PZ a6 bq aH h ai ag
 intro t;induction t with
 | bool=>intro cs aI x l r h ai aZ;exact fe _ rfl h ai aZ
 | int k=>intro cs aI x l r h ai aZ;exact fe (.int k) rfl h ai aZ
 | str=>intro cs aI x l r h ai aZ;exact fe _ rfl h ai aZ
 | dc=>
  intro cs aI x l r h ai aZ;obtain⟨_,rfl,rfl⟩:=h;exact⟨[],aI,rfl,rfl,aZ⟩
 | ae t aR=>intro cs aI x l r h ai aZ;exact aR h ai aZ
 | aw a b hp gq=>
  intro cs aI x l r h ai aZ;simp only[lo,aG.gf,amU,aQx]at h;obtain⟨⟨y,m,q⟩,E,⟨z,dz,q'⟩,M,rfl,rfl,rfl⟩:=h;obtain⟨c,d,rfl,bI,c2⟩:=hp E ai.left aZ;obtain⟨gr,Av,rfl,d1,d2⟩:=gq M ai.right c2;exact⟨c++gr,Av,by simp,⟨c,gr,rfl,bI,d1⟩,d2⟩
 | slice e aR=>intro cs aI x l r h ai aZ;exact fe (.slice e) rfl h ai aZ
 | array n e aR=>
  intro cs aI xs l r h ai aZ;have key:∀ (n:Nat) {cs:List aN} {aI:List Value} {xs:List e.aq} {l:List Nat} {r:List aN},(n.rec (motive:=λ_=>List aN->aG (Option (List e.aq×List Nat×List aN))) (λcs=>.ret (some ([],[],cs)))
     (λ_ aR cs=>(lo e cs).eG λ(x,l,r)=>(aR r).eG λ(xs,m,q)=>.ret (some (x::xs,l++m,q))) cs).run H=some (xs,l,r)->
    kV H kap F' l->fu P H kap F w cs aI->
    ∃ gR d,aI=List.flatten gR++d/\gR.length=n/\xs.length=n/\(∀ i (h:i<xs.length) (e3:i<gR.length),cw P e F' w gR[i] xs[i])/\fu P H kap F w r d:=by
   intro n;induction n with
   | zero=>
    intro cs aI xs l r h ai aZ;cases h;exact⟨[],aI,rfl,rfl,rfl,λi G=>(by simp),aZ⟩
   | succ n F9=>
    intro cs aI xs l r h ai aZ;simp only[aG.gf,amU,aQx]at h;obtain⟨⟨y,m,q⟩,E,⟨z,dz,q'⟩,M,rfl,rfl,rfl⟩:=h;obtain⟨c,d,rfl,bI,c2⟩:=aR E ai.left aZ;obtain⟨gR,Av,rfl,d1,d2,d3,d4⟩:=F9 M ai.right c2;refine⟨c::gR,Av,by simp,by grind,by grind,λi G ea=>?_,d4⟩;grind
  obtain⟨gR,d,aF,bB,c7,bW,gS⟩:=key n h ai aZ;exact⟨gR.flatten,d,aF,⟨gR,rfl,bB,c7,bW⟩,gS⟩
 | bP e aR=>intro cs aI x l r h ai aZ;exact rV (.bP e) (w7 e (lo e)) rfl (λh ai ag=>YK a6 bq aR h ai ag) h ai aZ
 | map k v Ai Aj=>intro cs aI x l r h ai aZ;exact fe (.map k v) rfl h ai aZ
 | fn a b hp gq=>intro cs aI x l r h ai aZ;exact fe (.fn a b) rfl h ai aZ
 | cI a aR=>intro cs aI x l r h ai aZ;exact fe (.cI a) rfl h ai aZ
 | eY=>intro cs aI x l r h ai aZ;exact fe .eY rfl h ai aZ
 | cP e aR=>intro cs aI x l r h ai aZ;exact fe (.cP e) rfl h ai aZ
theorem oP(a6:∀ b,c1 P H kap F w b)(bq:∀ r,F r->F' r){av:aN}{x:t.aq}(h:(en t av).run H=some (x,l))
  (ai:kV H kap F' l) (ag:bM P H kap F w av v):ft P t F' w v x:=by
 have b9:(l' t av).run H=some (x,l)->ft P t F' w v x:=by
  intro h;unfold l' at h;split at h
  ·exact YK a6 bq (λh ai aZ=>P0 a6 bq _ h ai aZ) h ai ag
  ·split at h
   ·rename_i aH;exact PZ a6 bq aH h ai ag
   ·cases h
 cases av with
 | val dO y=>
  simp  [en,aQx]at h;obtain⟨z,bz,rfl,rfl⟩:=h;exact (C5 bz ag).mono bq (dk.refl F w)
 | agg n f=>
  simp  [en]at h;split at h
  ·cases h
  ·simp only[aG.gf,amU,aG.dF]at h;obtain⟨⟨y,m,q⟩,E,M⟩:=h;split at M
   ·rename_i hc;simp  at hc;obtain⟨rfl,rfl⟩:=M;obtain⟨aI,rfl,a7,bR⟩:=ag;obtain⟨c,d,rfl,bI,c2⟩:=P0 a6 bq t E ai (F8 a7 bR);rw[hc.1]at c2;cases d with
    | cons _ _=>exact c2.elim
    | nil=>
     rw[aQD]at *
     have hlen:=jT t bI;have ax:=hc.2;cases t<;>simp  [aa.isAgg]at ax
     ·exact⟨⟨c.toArray,rfl,by simpa [aa.size]using hlen⟩,by simpa [Value.cells]using bI⟩
     ·exact⟨⟨c.toArray,rfl,by simpa [aa.size]using hlen⟩,by simpa [Value.cells]using bI⟩
   grind
 | undef=>exact b9 h
 | kB b a=>exact b9 h
 | eZ b g off=>exact b9 h
 | own b g=>exact b9 h
 | q3 b g i off=>exact b9 h
 | ke b g i=>exact b9 h
 | eL dO y=>exact b9 h
 | hq b g=>exact b9 h
 | jl k n c=>exact b9 h
 | vp k n c=>exact b9 h
 | sN n f=>exact b9 h
 | dd=>exact b9 h
 | lg u=>exact b9 h
 | l9 b g=>exact b9 h
 | aS l aK ad n ae=>exact b9 h
 | iw l=>exact b9 h
 | vq e xs=>exact b9 h
 | ys e id i=>exact b9 h
 | Ap b g=>exact b9 h
 | hS b g=>exact b9 h
 | sub b g ba G=>exact b9 h
end
def aa.pure:aa->Bool
 | .bool | .int _ | .str | .dc | .cP _=>true
 | .ae t=>t.pure
 | .aw a b=>a.pure&&b.pure
 | .array _ e=>e.pure
 | _=>false
theorem P1{P:Program}{F F':Nat->Prop}{w w':World}:∀ (t:aa) {cs:List Value} {x:t.aq},t.pure=true->cw P t F w cs x->cw P t F' w' cs x:=by
 intro t;induction t with
 | bool=>intro cs x _ h;exact h
 | int k=>intro cs x _ h;exact h
 | str=>intro cs x _ h;exact h
 | dc=>intro cs x _ h;exact h
 | ae t aR=>intro cs x aH h;exact aR aH h
 | aw a b hp gq=>
  intro cs x aH h;simp  [aa.pure]at aH;obtain⟨c,d,rfl,aZ,U⟩:=h;exact⟨c,d,rfl,hp aH.1 aZ,gq aH.2 U⟩
 | slice e aR=>intro cs x aH;cases aH
 | array n e aR=>
  intro cs x aH h;obtain⟨gR,rfl,E,M,al⟩:=h;exact⟨gR,rfl,E,M,λi G ea=>aR aH (al i G ea)⟩
 | bP e aR=>intro cs x aH;cases aH
 | map k v Ai Aj=>intro cs x aH;cases aH
 | fn a b hp gq=>intro cs x aH;cases aH
 | cI a aR=>intro cs x aH;cases aH
 | eY=>intro cs x aH;cases aH
 | cP e aR=>intro cs x _ h;exact h
end Go.Fer
namespace Go.Fer
open Go.RowKit
section
variable {P:Program} {F:Nat->Prop} {w:World}
variable {t:aa}
theorem anr{x y:t.aq}(h:fE t t x=some y):y=x:=by
 obtain⟨e,rfl⟩:=mU h;rfl
theorem YL:∀ (t:aa) {f:Nat} {cs:List Value} {x:t.aq} {s:aa} {y:s.aq},cw P t F w cs x->yw t x f=some ⟨s,y⟩->
  ∃ bI c2 c3,cs=bI++(c2++c3)/\cw P s F w c2 y/\qd t f=some (s,bI.length):=by
 have fe:∀ (t:aa),(∀ a b,t≠.aw a b)->t≠.dc->∀ {f:Nat} {cs:List Value} {x:t.aq} {s:aa} {y:s.aq},cw P t F w cs x->yw t x f=some ⟨s,y⟩->
   ∃ bI c2 c3,cs=bI++(c2++c3)/\cw P s F w c2 y/\qd t f=some (s,bI.length):=by
  intro t E M f cs x s y h aC;cases f with
  | zero=>
   have e:yw t x 0=some ⟨t,x⟩:=by cases t<;>first | rfl | grind | grind
   have a1:qd t 0=some (t,0):=by cases t<;>first | rfl | grind | grind
   rw[e]at aC;cases aC;exact⟨[],cs,[],by simp,h,a1⟩
  | succ f=>
   have e:yw t x (f+1)=none:=by cases t<;>first | rfl | grind
   grind
 intro t;induction t with
 | aw a b hp gq=>
  intro f cs x s y h aC;obtain⟨c,d,rfl,aZ,U⟩:=h;cases f with
  | zero=>
   simp  [yw,Sigma.mk.injEq]at aC;obtain⟨rfl,aC⟩:=aC;cases aC;exact⟨[],c,d,by simp,aZ,rfl⟩
  | succ f=>
   obtain⟨bI,c2,c3,rfl,aO,aT⟩:=gq U aC;refine⟨c++bI,c2,c3,by simp,aO,?_⟩;simp[qd,aT,jT a aZ]
 | dc=>intro f cs x s y _ aC;cases f<;>cases aC
 | bool=>grind
 | int k=>grind
 | str=>grind
 | ae t _=>grind
 | slice e _=>grind
 | array n e _=>grind
 | bP e _=>grind
 | map k v _ _=>grind
 | fn a b _ _=>grind
 | cI a _=>grind
 | eY=>grind
 | cP e _=>exact fe (.cP e) (by simp) (by simp)
theorem YM:∀ (t:aa) {off:Nat} {cs:List Value} {x:t.aq} {s:aa} {y:s.aq},cw P t F w cs x->vu t x off s=some y->
  ∃ bI c2 c3,cs=bI++(c2++c3)/\bI.length=off/\cw P s F w c2 y:=by
 have fe:∀ (t:aa) {off:Nat} {cs:List Value} {x:t.aq} {s:aa} {y:s.aq},cw P t F w cs x->(if off=0 then fE t s x else none)=some y->
   ∃ bI c2 c3,cs=bI++(c2++c3)/\bI.length=off/\cw P s F w c2 y:=by
  intro t off cs x s y h aC;split at aC
  ·rename_i au;exact⟨[],cs,[],by simp,au.symm,w8 aC h⟩
  grind
 intro t;induction t with
 | aw a b hp gq=>
  intro off cs x s y h aC;obtain⟨c,d,rfl,aZ,U⟩:=h;simp  [vu]at aC;split at aC
  ·grind
  ·have:=jT a aZ;grind
 | ae t aR=>
  intro off cs x s y h aC;simp  [vu]at aC;split at aC
  ·rename_i au;exact⟨[],cs,[],by simp,au.1.symm,w8 aC h⟩
  ·simp  [cw]at h;grind
 | dc=>intro off cs x s y _ aC;cases aC
 | array n e _=>intro off cs x s y _ aC;cases aC
 | bool=>intro off cs x s y h aC;exact fe _ h aC
 | int k=>intro off cs x s y h aC;exact fe (.int k) h aC
 | str=>intro off cs x s y h aC;exact fe _ h aC
 | slice e _=>intro off cs x s y h aC;exact fe (.slice e) h aC
 | bP e _=>intro off cs x s y h aC;exact fe (.bP e) h aC
 | map k v _ _=>intro off cs x s y h aC;exact fe (.map k v) h aC
 | fn a b _ _=>intro off cs x s y h aC;exact fe (.fn a b) h aC
 | cI a _=>intro off cs x s y h aC;exact fe (.cI a) h aC
 | eY=>intro off cs x s y h aC;exact fe .eY h aC
 | cP e _=>intro off cs x s y h aC;exact fe (.cP e) h aC
theorem ans:∀ (t:aa) {off:Nat} {cs bE:List Value} {x eS:t.aq} {s:aa} {y:s.aq},cw P t F w cs x->Au t x off s y=some eS->cw P s F w bE y->
  ∃ bI c2 c3,cs=bI++(c2++c3)/\bI.length=off/\c2.length=s.size/\cw P t F w (bI++(bE++c3)) eS:=by
 have fe:∀ (t:aa) {off:Nat} {cs bE:List Value} {x eS:t.aq} {s:aa} {y:s.aq},cw P t F w cs x->(if off=0 then fE s t y else none)=some eS->cw P s F w bE y->
   ∃ bI c2 c3,cs=bI++(c2++c3)/\bI.length=off/\c2.length=s.size/\cw P t F w (bI++(bE++c3)) eS:=by
  intro t off cs bE x eS s y h aC ay;split at aC
  ·rename_i au;obtain⟨e,rfl⟩:=mU aC;subst e;exact⟨[],cs,[],by simp,au.symm,jT s h,by grind⟩
  grind
 intro t;induction t with
 | aw a b hp gq=>
  intro off cs bE x eS s y h aC ay;obtain⟨c,d,rfl,aZ,U⟩:=h;simp  [Au]at aC;split at aC
  ·simp  at aC;obtain⟨z,bz,rfl⟩:=aC;obtain⟨bI,c2,c3,rfl,aO,aT,b7⟩:=hp aZ bz ay;exact⟨bI,c2,c3++d,by simp,aO,aT,⟨_,d,by simp,b7,U⟩⟩
  ·simp  at aC;obtain⟨z,bz,rfl⟩:=aC;obtain⟨bI,c2,c3,rfl,aO,aT,b7⟩:=gq U bz ay;have:=jT a aZ;exact⟨c++bI,c2,c3,by simp,by grind,aT,⟨c,_,by simp,aZ,b7⟩⟩
 | ae t aR=>
  intro off cs bE x eS s y h aC ay;simp  [Au]at aC;split at aC
  ·rename_i au;obtain⟨au,e⟩:=au;subst e;have:=anr aC;exact⟨[],cs,[],by simp,au.symm,jT _ h,by grind⟩
  ·simp  [cw]at h ⊢;grind
 | dc=>intro off cs bE x eS s y _ aC;cases aC
 | array n e _=>intro off cs bE x eS s y _ aC;cases aC
 | bool=>intro off cs bE x eS s y h aC ay;exact fe _ h aC ay
 | int k=>intro off cs bE x eS s y h aC ay;exact fe (.int k) h aC ay
 | str=>intro off cs bE x eS s y h aC ay;exact fe _ h aC ay
 | slice e _=>intro off cs bE x eS s y h aC ay;exact fe (.slice e) h aC ay
 | bP e _=>intro off cs bE x eS s y h aC ay;exact fe (.bP e) h aC ay
 | map k v _ _=>intro off cs bE x eS s y h aC ay;exact fe (.map k v) h aC ay
 | fn a b _ _=>intro off cs bE x eS s y h aC ay;exact fe (.fn a b) h aC ay
 | cI a _=>intro off cs bE x eS s y h aC ay;exact fe (.cI a) h aC ay
 | eY=>intro off cs bE x eS s y h aC ay;exact fe .eY h aC ay
 | cP e _=>intro off cs bE x eS s y h aC ay;exact fe (.cP e) h aC ay
end
def ma:aa->List Value->Option (List Value)
 | .dc,cs=>some cs
 | .ae t,cs=>ma t cs
 | .aw a b,cs=>(ma a cs).bind (ma b)
 | .array n e,cs=>n.rec (motive:=λ_=>List Value->Option (List Value)) some (λ_ aR cs=>(ma e cs).bind aR) cs
 | .bool,cs=>match cs with | .bool false::r=>some r | _=>none
 | .int k,cs=>match cs with | .int k' n::r=>if k'=k/\n=0 then some r else none | _=>none
 | .str,cs=>match cs with | .string s::r=>if s.size=0 then some r else none | _=>none
 | .slice _,cs=>match cs with | .slice none 0 0::r=>some r | _=>none
 | .bP _,cs=>match cs with | .pointer none::r=>some r | _=>none
 | .map _ _,cs=>match cs with | .map none::r=>some r | _=>none
 | .fn _ _,cs=>match cs with | .nilFunc::r=>some r | _=>none
 | .cI _,cs=>match cs with | .nilFunc::r=>some r | _=>none
 | .eY,cs=>match cs with | .nilFunc::r=>some r | _=>none
 | .cP _,cs=>match cs with | .slice none 0 0::r=>some r | _=>none
theorem YN(k:IntKind):gQ k 0:=by cases k<;>decide
variable {P:Program}
theorem yx{H:Nat->b_}{kap:Nat->bL}{F:Nat->Prop}{w:World}:∀ (t:aa) {cs r:List Value},ma t cs=some r->
  ∃ c,cs=c++r/\cw P t F w c t.dW/\fu P H kap F w (vt t) c:=by
 intro t;induction t with
 | dc=>intro cs r h;cases h;exact⟨[],by simp,rfl,trivial⟩
 | ae t aR=>intro cs r h;exact aR h
 | aw a b hp gq=>
  intro cs r h;simp  [ma,amU]at h;obtain⟨q,E,M⟩:=h;obtain⟨c,rfl,bI,c2⟩:=hp E;obtain⟨d,rfl,d1,d2⟩:=gq M;exact⟨c++d,by simp,⟨c,d,rfl,bI,d1⟩,c2.append d2⟩
 | array n e aR=>
  intro cs r h;have key:∀ (n k:Nat) {cs r:List Value},n.rec   some (λ_ aR cs=>(ma e cs).bind aR) cs=some r->
    ∃ gR:List (List Value),cs=gR.flatten++r/\gR.length=n/\(∀ c∈gR,cw P e F w c e.dW)/\fu P H kap F w ((List.range' k n).flatMap λ_=>vt e) gR.flatten:=by
   intro n;induction n with
   | zero=>intro k cs r h;cases h;exact⟨[],by simp,rfl,by simp,trivial⟩
   | succ n F9=>
    intro k cs r h;simp  [amU]at h;obtain⟨q,E,M⟩:=h;obtain⟨c,rfl,bI,c2⟩:=aR E;obtain⟨gR,rfl,d1,d2,d3⟩:=F9 (k+1) M;refine⟨c::gR,by simp,by grind,?_,?_⟩
    ·grind
    ·exact c2.append d3
  obtain⟨gR,rfl,E,M,al⟩:=key n 0 h;refine⟨gR.flatten,rfl,⟨gR,rfl,E,by simp[aa.dW],λi G ea=>?_⟩,?_⟩
  ·have:(aa.array n e).dW[i]=e.dW:=by simp[aa.dW]
   grind
  ·simp  [vt,aRq];omega
 | bool=>
  intro cs r h;simp  [ma]at h;split at h
  ·cases h;exact⟨[.bool false],rfl,rfl,⟨h2.2 rfl,rfl⟩,trivial⟩
  grind
 | int k=>
  intro cs r h;simp  [ma]at h;split at h
  ·split at h
   ·rename_i aj;obtain⟨rfl,rfl⟩:=aj;cases h;exact⟨[.int _ 0],rfl,⟨rfl,YN _⟩,⟨hR.2 ⟨rfl,YN _⟩,rfl⟩,trivial⟩
   grind
  grind
 | str=>
  intro cs r h;simp only[ma]at h;split at h
  ·rename_i s jS;split at h
   ·rename_i ax;cases h;have:s=⟨([]).toArray⟩:=by
     cases s with | mk d=>simp  [ByteArray.size]at ax;grind
    subst this;exact⟨[.string ⟨([]).toArray⟩],rfl,⟨rfl,by decide⟩,⟨lf.2 ⟨rfl,by decide⟩,rfl⟩,trivial⟩
   grind
  grind
 | slice e _=>
  intro cs r h;simp  [ma]at h;split at h
  ·cases h;exact⟨[.slice none 0 0],rfl,⟨none,0,rfl,amY _,by decide,λ_=>rfl,λp ak=>by simp⟩,⟨rfl,rfl⟩,trivial⟩
  grind
 | bP e _=>
  intro cs r h;simp  [ma]at h;split at h
  ·cases h;exact⟨[.pointer none],rfl,.inl ⟨rfl,rfl⟩,⟨(eh rfl).2 ⟨rfl,.inl ⟨rfl,rfl⟩⟩,rfl⟩,trivial⟩
  grind
 | map k v _ _=>
  intro cs r h;simp  [ma]at h;split at h
  ·cases h;exact⟨[.map none],rfl,.inl ⟨rfl,rfl⟩,⟨(eh rfl).2 ⟨rfl,.inl ⟨rfl,rfl⟩⟩,rfl⟩,trivial⟩
  grind
 | fn a b _ _=>
  intro cs r h;simp  [ma]at h;split at h
  ·cases h;exact⟨[.nilFunc],rfl,⟨.nilFunc,rfl,⟨rfl,rfl⟩,λF' w' _ _ _ _ args x _ _ ax=>(ax).elim⟩,⟨rfl,rfl⟩,trivial⟩
  grind
 | cI a _=>
  intro cs r h;simp  [ma]at h;split at h
  ·cases h;exact⟨[.nilFunc],rfl,⟨.nilFunc,rfl,⟨rfl,rfl⟩,λF' w' _ _ _ _ ax=>(ax).elim λ_ h=>h.elim⟩,⟨rfl,rfl⟩,trivial⟩
  grind
 | eY=>
  intro cs r h;simp  [ma]at h;split at h
  ·cases h;exact⟨[.nilFunc],rfl,rfl,⟨(eh rfl).2 ⟨rfl,rfl⟩,rfl⟩,trivial⟩
  grind
 | cP e _=>
  intro cs r h;simp  [ma]at h;split at h
  ·cases h;exact⟨[.slice none 0 0],rfl,.inl ⟨rfl,rfl⟩,⟨rfl,rfl⟩,trivial⟩
  grind
def ob(P:Program)(t:aa)(id:TypeId):Bool:=
 match P.info? id with
 | some i=>i.size == t.size&&decide (i.bytes<=1024)&&(match i.zero with
  | some z=>(match ma t z.cells.toList with | some []=>true | _=>false)&&(match t,z with
   | .ae _,.agg _=>true
   | .array _ _,.agg _=>true
   | .ae _,_=>false
   | .array _ _,_=>false
   | _,.agg _=>false
   | _,_=>true)
  | none=>false)
 | none=>false
def YO(P:Program)(t:aa)(id:TypeId):Bool:=
 match t with
 | .aw (.bP (.array n .dc)) _=>(match P.underlying n with | some (.pointer i)=>i == id | _=>false)
 | _=>true
def dh(P:Program):aa->Sum TypeId (List Field×Nat)->Bool
 | .aw a b, .inr (f :: g :: [], off) => f.offset == off && dh P a (.inl f.type) && a.size != 0 && f.name != "_" && (g.offset == off + a.size && dh P b (.inl g.type) && b.size != 0 && g.name != "_")
 | .aw a b, .inr (f :: g :: h :: gC, off) => f.offset == off && dh P a (.inl f.type) && a.size != 0 && f.name != "_" && dh P b (.inr (g :: h :: gC, off + a.size))
 | .ae t,.inl id=>(ob P (.ae t) id&&YO P t id)&&!P.stoodInHeld id&&!P.eqGuardType P.depth id&&match P.underlying id with
  | some (.struct gC)=>(match gC.toList with
   | []=>decide (t=.dc)
   | [f] => f.offset == 0 && dh P t (.inl f.type) && t.size != 0 && f.name != "_"
   | l=>dh P t (.inr (l,0)))
  | _=>false
 | .bool,.inl id=>ob P .bool id&&(match P.underlying id with | some .bool=>true | _=>false)
 | .int k,.inl id=>ob P (.int k) id&&(match P.underlying id with | some (.int k')=>decide (k'=k) | _=>false)
 | .str,.inl id=>ob P .str id&&(match P.underlying id with | some .string=>true | _=>false)
 | .slice e,.inl id=>ob P (.slice e) id&&(match P.underlying id with | some (.slice i)=>dh P e (.inl i)&&e.size != 0 | _=>false)
 | .array n e,.inl id=>ob P (.array n e) id&&(match P.underlying id with | some (.array m i)=>decide (m=n)&&dh P e (.inl i)&&e.size != 0 | _=>false)
 | .bP e,.inl id=>ob P (.bP e) id&&(match P.underlying id with | some (.pointer i)=>(match e with | .array n .dc=>n == id | _=>false)||(dh P e (.inl i)&&e.size != 0) | _=>false)
 | .map k v,.inl id=>ob P (.map k v) id&&(match P.underlying id with | some (.map i j)=>dh P k (.inl i)&&dh P v (.inl j) | _=>false)
 | .fn a b,.inl id=>ob P (.fn a b) id&&(match P.underlying id with | some (.func _ _ _)=>true | _=>false)
 | .cI a,.inl id=>ob P (.cI a) id&&(match P.underlying id with | some (.func _ _ _)=>true | _=>false)
 | .eY,.inl id=>ob P .eY id&&(match P.underlying id with | some (.func _ _ _)=>true | _=>false)
 | .cP e,.inl id=>ob P (.cP e) id&&(match P.underlying id with | some (.slice i)=>dh P e (.inl i)&&e.size != 0 | _=>false)
 | _,_=>false
def cx(P:Program)(t:aa)(id:TypeId):Prop:=dh P t (.inl id)=true
theorem cx.nE{t:aa}{id:TypeId}(h:cx P t id):ob P t id=true:=by
 unfold cx at h;cases t<;>simp  [dh,amW]at h<;>first | exact h.1.1.1.1 | exact h.1
theorem nF{t:aa}{id:TypeId}(h:ob P t id=true):∃ i z,P.info? id=some i/\i.size=t.size/\i.bytes<=1024/\i.zero=some z/\
  ma t z.cells.toList=some []/\((∃ cs,z=.agg cs)<->t.isAgg=true):=by
 unfold ob at h;split at h
 ·rename_i i G;simp  at h;obtain⟨⟨E,M⟩,al⟩:=h;split at al
  ·rename_i z bz;refine⟨i,z,G,E,M,bz,?_,?_⟩
   ·grind
   ·cases t<;>cases z<;>simp_all[aa.isAgg]
  grind
 grind
end Go.Fer
namespace Go.Fer
open Go.RowKit
structure eC where
 cA:Prop
 c:Prop
 ht:aN
 jG:List (Nat×b_)
def use:aN->Prop×aN
 | .kB b a=>(b=true,a)
 | a=>(True,a)
def Aw:Value->aN
 | .bool b=>.val .bool b
 | .int k n=>if gQ k n then .val (.int k) n else .lg (.int k n)
 | .string s=>if s.size<1048576 then .val .str s.data.toList else .lg (.string s)
 | .slice none 0 0=>.dd
 | v=>.lg v
def bj(aJ:dX)(s:Nat->aN):Operand->aN
 | .tmp t=>s t
 | .const v=>Aw v
 | .func f=>match aJ.tZ f with
  | some v=>.val (.fn v.ts v.aS) v.sh
  | none=>.jl f 0 λ_=>.undef
 | .global _=>.undef
structure aQ where
 ts:aa
 aS:aa
 pre:ts.aq->Prop
 g:ts.aq->aS.aq
def kh:(t:aa)->t.aq->Nat->aN
 | .aw a _,x,0=>.val a x.1
 | .aw _ b,x,i+1=>kh b x.2 i
 | t,x,0=>.val t x
 | _,_,_+1=>.undef
def jV:aa->Nat
 | .aw _ b=>jV b+1
 | .dc=>0
 | _=>1
def q6(t:aa)(x:t.aq):aN:=
 match t with
 | .aw a b=>.sN (jV (.aw a b)) (kh (.aw a b) x)
 | .dc=>.lg (.tuple #[])
 | t=>.val t x
def ki:(t:aa)->List aN->aG (Option (t.aq×List Nat))
 | .aw a b,v::aI=>(en a v).eG λ(x,l)=>(ki b aI).eG λ(y,m)=>.ret (some ((x,y),l++m))
 | .aw _ _,[]=>.none
 | .dc,[]=>.ret (some ((),[]))
 | .dc,_::_=>.none
 | t,[v]=>en t v
 | _,_=>.none
def kj:List Nat->aG (List (Nat×b_))
 | []=>.ret []
 | b::l=>.fl b λx=>(kj l).bind λr=>match x.body with
  | .bo e xs=>.ret ((b,⟨x.gen,.jD e xs⟩)::r)
  | .mp k v es=>.ret ((b,⟨x.gen,.lh k v es⟩)::r)
  | .cells t f=>(lo t ((List.range t.size).map f)).bind λo=>.ret (match o with
   | some (y,_,[])=>(b,⟨x.gen,.ix t y⟩)::r
   | _=>r)
  | _=>.ret r
def cellsOf(t:aa)(av:aN):Option (List aN):=
 match t,av with
 | .ae t,.val (.ae dO) x=>if dO=t then some (qc dO x) else none
 | .ae t,.agg n f=>if n=t.size then some ((List.range n).map f) else none
 | .array n e,.val (.array kD a1) x=>if kD=n/\a1=e then some (qc (.array kD a1) x) else none
 | .array n e,.agg m f=>if m=n*e.size then some ((List.range m).map f) else none
 | t,av=>if t.gb then (match av with
  | .val dO _=>if dO.gb then some [av] else none
  | .eZ _ _ _ | .own _ _ | .q3 _ _ _ _ | .eL _ _ | .hq _ _ | .jl _ _ _ | .dd | .sub _ _ _ _=>some [av]
  | .lg (.agg _) | .lg (.tuple _)=>none
  | .lg _=>some [av]
  | _=>none) else none
def aN.oc:aN->Option (IntKind×Int)
 | .val (.int k) x=>some (k,x)
 | _=>none
def aN.w9:aN->Option (List UInt8)
 | .val .str x=>some x
 | _=>none
def C7(op:BinOp)(k:IntKind)(a b:Int):Option (Prop×aN):=
 match op with
 | .add=>some (True,.val (.int k) (k.wrap (a+b)))
 | .sub=>some (True,.val (.int k) (k.wrap (a - b)))
 | .mul=>some (True,.val (.int k) (k.wrap (a*b)))
 | .quo=>some (b≠0,.val (.int k) (k.wrap (a.tdiv b)))
 | .rem=>some (b≠0,.val (.int k) (a.tmod b))
 | .and=>some (True,.val (.int k) (n' k a b))
 | .or=>some (True,.val (.int k) (YF k a b))
 | .xor=>some (True,.val (.int k) (YG k a b))
 | .andNot=>some (True,.val (.int k) (YH k a b))
 | .eql=>some (True,.val .bool (decide (a=b)))
 | .neq=>some (True,.val .bool (decide (a≠b)))
 | .lss=>some (True,.val .bool (decide (a<b)))
 | .leq=>some (True,.val .bool (decide (a<=b)))
 | .gtr=>some (True,.val .bool (decide (a > b)))
 | .geq=>some (True,.val .bool (decide (a>=b)))
 | _=>none
def P2(op:BinOp)(k:IntKind)(a b:Int):Option (Prop×aN):=
 match op with
 | .shl=>some (0<=b,.val (.int k) (ano k a b))
 | .shr=>some (0<=b,.val (.int k) (lp k a b))
 | _=>none
def F_(op:BinOp)(a b:List UInt8):Option (Prop×aN):=
 match op with
 | .add=>some (b2 (a.length+b.length),.val .str (a++b))
 | .eql=>some (True,.val .bool (decide (a=b)))
 | .neq=>some (True,.val .bool (decide (a≠b)))
 | .lss=>some (True,.val .bool (Op.bytesLess a b))
 | .geq=>some (True,.val .bool (!Op.bytesLess a b))
 | _=>none
def aa.nG:aa->Nat
 | .ae t=>t.nG+1
 | .aw a b=>max a.nG b.nG
 | _=>1
def Ga(op:BinOp)(t:aa)(x y:aN):aG (Option (Prop×aN)):=
 (match t,x,y with
 | .bP _,.val (.bP _) p,.lg (.pointer none)=>.ret (some p.isNone)
 | .bP _,.eL _ _,.lg (.pointer none)=>.ret (some false)
 | .bP _,.eZ b g _,.lg (.pointer none)=>.fl b λz=>.ret (if z.gen=g&&z.body.hr then some false else none)
 | t,x,y=>if t.oO&&decide (t.nG<=100) then (en t x).eG λ(a,_)=>(en t y).eG λ(b,_)=>.ret (some (jm t a b)) else .none:aG (Option Bool)).eG λe=>
 .ret (match op with
  | .eql=>some (True,.val .bool e)
  | .neq=>some (True,.val .bool (!e))
  | _=>none)
def c'(cA c:Prop)(v:aN):aG (Option eC):=.ret (some ⟨cA,c,v,[]⟩)
def Kp(t:aa)(av:aN):aG (Option (Prop×Int)):=
 match t with
 | .slice _=>match av with
  | .val (.slice _) xs=>.ret (some (True,xs.length))
  | .dd=>.ret (some (True,0))
  | .own b g=>.fl b λx=>.ret (if x.gen=g&&x.body.gT then some (True,x.body.len) else none)
  | .sub b g ba G=>.fl b λx=>.ret (if x.gen=g&&x.body.gT then some (True,((G - ba:Nat):Int)) else none)
  | _=>.none
 | .str=>match av with
  | .val .str xs=>.ret (some (True,xs.length))
  | _=>.none
 | .map _ _=>match av with
  | .val (.map _ _) xs=>.ret (some (b2 xs.length,xs.length))
  | .hq b g=>.fl b λx=>.ret (if x.gen=g then (match x.body with | .mp _ _ es=>some (b2 es.length,(es.length:Int)) | .lh _ _ es=>some (b2 es.length,(es.length:Int)) | _=>none) else none)
  | _=>.none
 | _=>.none
def C8(t:aa):aN->aG (Option aN)
 | .eL dO x=>.ret (if dO=t/\(t.gb||t.isAgg)=true then some (.val dO x) else none)
 | .eZ b g off=>.fl b λx=>.ret (if x.gen=g then (match x.body with
   | .cells t0 f=>if t.gb then (if off<t0.size then some (f off) else none) else if t.isAgg then (if off+t.size<=t0.size then some (.agg t.size λi=>f (off+i)) else none) else none
   | .ix t0 y=>if t.gb||t.isAgg then (vu t0 y off t).map (.val t) else none
   | _=>none) else none)
 | .q3 b g i off=>.fl b λx=>.ret (if x.gen=g then (match x.body with
   | .bo e xs=>if t.gb||t.isAgg then (vu e (xs.getD i e.dW) off t).map (.val t) else none
   | .jD e xs=>if t.gb||t.isAgg then (vu e (xs.getD i e.dW) off t).map (.val t) else none
   | _=>none) else none)
 | _=>.none
def putCells(f:Nat->aN)(off:Nat)(l:List aN):Nat->aN:=λi=>if off<=i/\i<off+l.length then l.getD (i - off) .undef else f i
def YP(t:aa)(p v:aN):aG (Option (List (Nat×b_))):=
 match p with
 | .eZ b g off=>.fl b λx=>.ret (if x.gen=g then (match x.body with
   | .cells t0 f=>(cellsOf t v).bind λl=>if off+l.length<=t0.size/\l.length=t.size then some [(b,⟨x.gen,.cells t0 (putCells f off l)⟩)] else none
   | _=>none) else none)
 | .q3 b g i off=>(en t v).eG λ(y,l)=>(kj l).bind λwl=>.fl b λx=>.ret (if x.gen=g/\!l.contains b then (match x.body with
   | .bo e xs=>(Au e (xs.getD i e.dW) off t y).map λz=>wl++[(b,⟨x.gen,.bo e (xs.set i z)⟩)]
   | _=>none) else none)
 | _=>.none
def YQ(bQ:aa)(x:aN)(i:Int):aG (Option (Prop×aN)):=
 match x with
 | .val (.slice e) xs=>.ret (if e=bQ then some (0<=i/\i<(xs.length:Int),.eL e (oa e xs i)) else none)
 | .own b g=>.fl b λz=>.ret (if z.gen=g then (match z.body with
   | .bo e xs=>if e=bQ then some (0<=i/\i<(xs.length:Int),.q3 b g i.toNat 0) else none
   | .jD e xs=>if e=bQ then some (0<=i/\i<(xs.length:Int),.eL e (oa e xs i)) else none
   | _=>none) else none)
 | .sub b g ba G=>.fl b λz=>.ret (if z.gen=g then (match z.body with
   | .bo e _=>if e=bQ then some (0<=i/\i<((G - ba:Nat):Int),.q3 b g (ba+i.toNat) 0) else none
   | .jD e xs=>if e=bQ then some (0<=i/\i<((G - ba:Nat):Int),.eL e (oa e xs ((ba:Int)+i))) else none
   | _=>none) else none)
 | .dd=>.ret (some (False,.eL bQ bQ.dW))
 | _=>.none
def dG:Option Int->Int | some l=>l | none=>0
def fV(n:Nat):Option Int->Int | some h=>h | none=>n
def Gb(ba G:Option Int)(n m:Nat):Nat:=match ba,G with | some _,some _=>m | _,_=>n
def YR(bQ:aa)(x:aN)(ba G:Option Int):aG (Option (Prop×aN)):=
 match x with
 | .val (.slice e) xs=>.ret (if e=bQ then some (0<=dG ba/\dG ba<=fV xs.length G/\fV xs.length G<=(xs.length:Int),.val (.slice e) ((xs.take (fV xs.length G).toNat).drop (dG ba).toNat)) else none)
 | .dd=>.ret (some (0<=dG ba/\dG ba<=fV 0 G/\fV 0 G<=0,.dd))
 | .own b g=>.fl b λz=>.ret (if z.gen=g&&z.body.gT&&z.body.gU == bQ.size then some (0<=dG ba/\dG ba<=fV z.body.len G/\fV z.body.len G<=(z.body.len:Int),.sub b g (dG ba).toNat (fV z.body.len G).toNat) else none)
 | .sub b g fO aV=>.fl b λz=>.ret (if z.gen=g&&z.body.gT&&z.body.gU == bQ.size then some (0<=dG ba/\dG ba<=fV (aV - fO) G/\fV (aV - fO) G<=((Gb ba G (aV - fO) (z.body.len - fO):Nat):Int),.sub b g (fO+(dG ba).toNat) (fO+(fV (aV - fO) G).toNat)) else none)
 | _=>.none
def YS(x:aN)(ba G:Option Int):Option (Prop×aN):=
 match x with
 | .val .str xs=>some (0<=dG ba/\dG ba<=fV xs.length G/\fV xs.length G<=(xs.length:Int),.val .str ((xs.take (fV xs.length G).toNat).drop (dG ba).toNat))
 | _=>none
def od(d:Option Nat)(k:Nat->Nat->Option eC):aG (Option eC):=
 match d with
 | none=>.none
 | some d=>.fl d λx=>.ret (k d (x.gen+1))
def Gc(d:Option Nat)(e:aa)(x y:aN)(cA:Prop):aG (Option eC):=
 match x with
 | .own b g=>.fl b λz=>match (if z.gen=g then z.body else .ez) with
  | .bo a1 xs=>if h:a1=e then (en (.slice e) y).eG λ(br,_)=>.ret (some ⟨cA,b2 (xs.length+br.length),.own b (g+1),[(b,⟨g+1,.bo e ((h ▸ xs)++br)⟩)]⟩) else .none
  | _=>.none
 | .sub b g ba G=>.fl b λz=>match (if z.gen=g then z.body else .ez) with
  | .bo a1 xs=>if h:a1=e then (en (.slice e) y).eG λ(br,_)=>.ret (some ⟨cA,b2 (((xs.take G).drop ba).length+br.length),.own b (g+2),[(b,⟨g+2,.bo e ((h ▸ (xs.take G).drop ba)++br)⟩)]⟩) else .none
  | _=>.none
 | .dd=>(en (.slice e) y).eG λ(br,_)=>od d λb g=>some ⟨cA,b2 br.length,.own b g,[(b,⟨g,.bo e br⟩)]⟩
 | .vq a1 xs=>if h:a1=e then (en (.slice e) y).eG λ(br,_)=>od d λb g=>some ⟨cA,0<br.length/\b2 (xs.length+br.length),.own b g,[(b,⟨g,.bo e ((h ▸ xs)++br)⟩)]⟩ else .none
 | _=>.none
def Kq(t:aa):List aN->List (Nat×aN)->Option (List aN)
 | cs,[]=>some cs
 | cs,(i,av)::r=>
  match qd t i with
  | none=>none
  | some (s,off)=>match cellsOf s av with
   | none=>none
   | some l=>if l.length=s.size/\off+s.size<=cs.length then Kq t (cs.take off++(l++cs.drop (off+s.size))) r else none
def w_(e:aa)(bw:List (Nat×aN)):Nat->Nat->aG (Option (List e.aq×List Nat))
 | _,0=>.ret (some ([],[]))
 | i,n+1=>(match bw.find? (λp=>p.1 == i) with
   | some p=>en e p.2
   | none=>.ret (some (e.dW,[])):aG (Option (e.aq×List Nat))).eG λ(x,l)=>(w_ e bw (i+1) n).eG λ(xs,m)=>.ret (some (x::xs,l++m))
def yy(bw:List (Nat×aN)):Prop:=bw.foldr (λp q=>match p.2 with | .kB b _=>b=true/\q | _=>q) True
def lM(bw:List (Nat×aN)):List (Nat×aN):=bw.map λp=>(p.1,(use p.2).2)
def kk(bw:List aN):Prop:=bw.foldr (λp q=>match p with | .kB b _=>b=true/\q | _=>q) True
def lq(rho:Operand->aN):Option Operand->Option (Prop×Option Int)
 | none=>some (True,none)
 | some x=>match use (rho x) with
  | (o,.val (.int _) n)=>some (o,some n)
  | _=>none
def Kr(T:Nat->aa)(rho:Operand->aN)(ty:TypeId)(x:Operand)(ba G:Option Operand):aG (Option eC):=
 let (cB,e9):=use (rho x)
 match lq rho ba,lq rho G with
 | some (ol,l),some (sO,h)=>match T ty with
  | .slice e=>(YR e e9 l h).eG λ(c,v)=>c' (cB/\(ol/\sO)) c v
  | .str=>match YS e9 l h with
   | some (c,v)=>c' (cB/\(ol/\sO)) c v
   | none=>.none
  | _=>.none
 | _,_=>.none
def YT(bQ:aa)(x:aN)(ba G:Option Int)(m:Int):aG (Option (Prop×aN)):=
 match x with
 | .val (.slice e) xs=>.ret (if e=bQ then some (0<=dG ba/\dG ba<=fV xs.length G/\fV xs.length G=m/\m<=(xs.length:Int),.vq e ((xs.take m.toNat).drop (dG ba).toNat)) else none)
 | .dd=>.ret (some (dG ba=0/\fV 0 G=0/\m=0,.vq bQ []))
 | .own b g=>.fl b λz=>.ret (if z.gen=g&&z.body.gT then some (0<=dG ba/\dG ba<=fV z.body.len G/\fV z.body.len G<=m/\m<=(z.body.len:Int),.undef) else none)
 | _=>.none
def Ks(T:Nat->aa)(rho:Operand->aN)(ty:TypeId)(x:Operand)(ba G mb:Option Operand):aG (Option eC):=
 let (cB,e9):=use (rho x)
 match lq rho ba,lq rho G,lq rho mb with
 | some (ol,l),some (sO,some h),some (Ax,some m)=>match T ty with
  | .slice e=>(YT e e9 l (some h) m).eG λ(c,v)=>c' (cB/\(ol/\(sO/\Ax))) c v
  | _=>.none
 | _,_,_=>.none
def Gd(T:Nat->aa)(rho:Operand->aN)(args:List Operand)(ds:List TypeId):aG (Option eC):=
 match args,ds with
 | [x],[t]=>let (cB,e9):=use (rho x);(Kp (T t) e9).eG λ(c,n)=>c' cB c (.val (.int .i64) n)
 | _,_=>.none
def df(s:List UInt8):z1':=s.map λb=>(b.toNat:Int)
def Ge(T:Nat->aa)(rho:Operand->aN)(d:Option Nat)(args:List Operand)(ds:List TypeId):aG (Option eC):=
 match args,ds with
 | [x,y],[t,u]=>match T t,T u with
  | .slice e,.slice _=>let (cB,e9):=use (rho x);let (lN,kW):=use (rho y);Gc d e e9 kW (cB/\lN)
  | .slice (.int .u8),.str=>let (cB,e9):=use (rho x);let (lN,kW):=use (rho y);match kW with
   | .val .str s=>Gc d (.int .u8) e9 (.val (.slice (.int .u8)) (df s)) (cB/\lN)
   | _=>.none
  | _,_=>.none
 | _,_=>.none
def qe(rho:Operand->aN)(k:IntKind):List Operand->Option (Prop×z1')
 | []=>none
 | [x]=>match (use (rho x)).2.oc with
  | some (k',n)=>if k'=k then some ((use (rho x)).1,[n]) else none
  | none=>none
 | x::l=>match (use (rho x)).2.oc,qe rho k l with
  | some (k',n),some (cA,jH)=>if k'=k then some ((use (rho x)).1/\cA,n::jH) else none
  | _,_=>none
def Ay(rho:Operand->aN)(f:Int->Int->Int)(args:List Operand):aG (Option eC):=
 match args with
 | x::y::l=>match (use (rho x)).2.oc with
  | some (k,a)=>match qe rho k (y::l) with
   | some (cA,jH)=>c' ((use (rho x)).1/\cA) True (.val (.int k) (jH.foldl f a))
   | none=>.none
  | none=>.none
 | _=>.none
def Gf(T:Nat->aa)(rho:Operand->aN)(args:List Operand)(ds:List TypeId):aG (Option eC):=
 match args,ds with
 | [x],[t]=>match T t,use (rho x) with
  | .slice _,(cB,.dd)=>c' cB True (.val (.int .i64) 0)
  | _,_=>.none
 | _,_=>.none
def qf(t:aa):Bool:=match t with | .aw (.slice _) .dc=>true | _=>false
def Gg(t:aa)(y:t.aq):Option ((e:aa)×List e.aq):=match t,y with | .aw (.slice e) .dc,y=>some ⟨e,y.1⟩ | _,_=>none
def Kt(bs:Nat->Option aQ)(rho:Operand->aN)(d:Option Nat)(k:Nat)(args:List Operand):aG (Option eC):=
 let l:=args.map rho
 match bs k with
 | some c=>(ki c.ts (l.map λv=>(use v).2)).eG λ(x,b')=>match Gg c.aS (c.g x) with
  | some y=>(kj b').bind λwl=>od d λb g=>if b'.contains b then none else some ⟨kk l,c.pre x,.own b g,wl++[(b,⟨g,.bo y.1 y.2⟩)]⟩
  | none=>(if c.aS.pure then .ret [] else kj b':aG (List (Nat×b_))).bind λwl=>.ret (some ⟨kk l,c.pre x,q6 c.aS (c.g x),wl⟩)
 | none=>.none
def C9{k v:aa}(es:List (k.aq×v.aq))(x:k.aq):Option v.aq:=(es.find? λp=>jm k x p.1).map (·.2)
def oQ{k v:aa}:List (k.aq×v.aq)->k.aq->v.aq->List (k.aq×v.aq)
 | [],x,y=>[(x,y)]
 | p::es,x,y=>if jm k x p.1=true then (p.1,y)::es else p::oQ es x y
def yz(k:aa):Bool:=k.oO&&decide (k.nG<=100)
def Ku(k v:aa)(m:aN):aG (Option (List (k.aq×v.aq))):=
 match m with
 | .val t es=>.ret (fE t (.map k v) es)
 | .lg (.map none)=>.ret (some [])
 | .hq b g=>.fl b λx=>.ret (if x.gen=g then (match x.body with
   | .mp k' iA es=>fE (.map k' iA) (.map k v) es
   | .lh k' iA es=>fE (.map k' iA) (.map k v) es
   | _=>none) else none)
 | _=>.none
def YU(v:aa)(r:Option v.aq)(ok:Bool):aN:=
 match ok with
 | true=>.sN 2 (h5 [.val v (r.getD v.dW),.val .bool r.isSome])
 | false=>.val v (r.getD v.dW)
def C_(T:Nat->aa)(rho:Operand->aN)(ty:TypeId)(m x:Operand)(ok:Bool):aG (Option eC):=
 match T ty with
 | .map k v=>let (Ax,P3):=use (rho m);let (cB,e9):=use (rho x);if yz k&&(v.gb||v.isAgg) then
   (Ku k v P3).eG λes=>(en k e9).eG λ(y,_)=>
    c' (Ax/\cB) True (YU v (C9 es y) ok)
  else .none
 | _=>.none
def vv(T:Nat->aa)(rho:Operand->aN)(ty:TypeId)(m x y:Operand):aG (Option eC):=
 match T ty with
 | .map k v=>let (Ax,P3):=use (rho m);let (cB,e9):=use (rho x);let (lN,kW):=use (rho y);if yz k then
   match P3 with
   | .hq b g=>(en k e9).eG λ(x,sP)=>(en v kW).eG λ(y,lr)=>(kj (sP++lr)).bind λwl=>.fl b λz=>.ret (if z.gen=g/\!(sP++lr).contains b then (match z.body with
     | .mp k' iA es=>(fE (.map k' iA) (.map k v) es).map λes=>⟨Ax/\cB/\lN,True,.undef,wl++[(b,⟨z.gen,.mp k v (oQ es x y)⟩)]⟩
     | _=>none) else none)
   | _=>.none
  else .none
 | _=>.none
def Kv(T:Nat->aa)(rho:Operand->aN)(d:Option Nat)(ty:TypeId)(l c:Operand):aG (Option eC):=
 match T ty with
 | .slice e=>let (ol,ant):=use (rho l);let (vw,anu):=use (rho c);match ant.oc,anu.oc with
  | some (.i64,n),some (.i64,m)=>od d λb g=>some ⟨ol/\vw,0<=n/\n=m/\b2 n.toNat,.own b g,[(b,⟨g,.bo e (List.replicate n.toNat e.dW)⟩)]⟩
  | _,_=>.none
 | _=>.none
variable {af:Type}
def h1(xs:List af)(ba:Nat)(br:List af):List af:=xs.take ba++br++xs.drop (ba+br.length)
def Kw(T:Nat->aa)(rho:Operand->aN)(args:List Operand)(ds:List TypeId):aG (Option eC):=
 match args,ds with
 | [x,y],[t,u]=>match T t,T u with
  | .slice e,.slice _=>let (cB,e9):=use (rho x);let (lN,kW):=use (rho y);match (match e9 with | .own b g=>some (b,g,0,none) | .sub b g ba G=>some (b,g,ba,some G) | _=>none:Option (Nat×Nat×Nat×Option Nat)) with
   | some (b,g,ba,G)=>(en (.slice e) kW).eG λ(br,_)=>.fl b λz=>.ret (if z.gen=g then (match z.body with
     | .bo a1 xs=>if h:a1=e then some ⟨cB/\lN,True,.val (.int .i64) ((min (G.getD xs.length - ba) br.length:Nat):Int),[(b,⟨z.gen,.bo e (h1 (h ▸ xs) ba (br.take (G.getD xs.length - ba)))⟩)]⟩ else none
     | _=>none) else none)
   | none=>.none
  | _,_=>.none
 | _,_=>.none
def Az(rho:Operand->aN)(args:List Operand):Option (Nat×Nat×z21'):=
 match args with
 | [x,y]=>match (use (rho x)).2,(use (rho y)).2 with
  | .sub b g ba G,.sub bk g' _ _=>if bk=b/\g'=g then some (b,g,ba,G) else none
  | _,_=>none
 | _=>none
def Gh(T:Nat->aa)(rho:Operand->aN)(args:List Operand)(ds:List TypeId)(b g ba G:Nat):aG (Option eC):=
 match args,ds with
 | [x,y],[t,u]=>match T t,T u with
  | .slice e,.slice _=>let (cB,_):=use (rho x);let (lN,kW):=use (rho y);(en (.slice e) kW).eG λ(br,_)=>.fl b λz=>.ret (if z.gen=g then (match z.body with
    | .bo a1 xs=>if h:a1=e then some ⟨cB/\lN,G+br.length<=xs.length,.sub b g ba (G+br.length),[(b,⟨z.gen,.bo e (h1 (h ▸ xs) G br)⟩)]⟩ else none
    | _=>none) else none)
  | _,_=>.none
 | _,_=>.none
def Gi(T:Nat->aa)(rho:Operand->aN)(args:List Operand)(ds:List TypeId):aG (Option eC):=
 match args,ds with
 | [x],[t]=>match T t with
  | .slice e=>let (cB,e9):=use (rho x);match e9 with
   | .sub b g ba G=>.fl b λz=>.ret (if z.gen=g then (match z.body with
     | .bo a1 xs=>if h:a1=e then some ⟨cB,True,.undef,[(b,⟨z.gen,.bo e (h1 (h ▸ xs) ba (List.replicate (G - ba) e.dW))⟩)]⟩ else none
     | _=>none) else none)
   | _=>.none
  | _=>.none
 | _,_=>.none
def pq(T:Nat->aa)(bs:Nat->Option aQ)(rho:Operand->aN)(d:Option Nat)(c:Call):aG (Option eC):=
 match c.callee with
 | .builtin b=>match b with
  | .len=>Gd T rho c.args.toList c.argTypes.toList
  | .append=>match Az rho c.args.toList with
   | some (b,g,ba,G)=>Gh T rho c.args.toList c.argTypes.toList b g ba G
   | none=>Ge T rho d c.args.toList c.argTypes.toList
  | .clear=>Gi T rho c.args.toList c.argTypes.toList
  | .copy=>Kw T rho c.args.toList c.argTypes.toList
  | .min=>Ay rho (λa b=>if b<a then b else a) c.args.toList
  | .max=>Ay rho (λa b=>if b > a then b else a) c.args.toList
  | .cap=>Gf T rho c.args.toList c.argTypes.toList
  | _=>.none
 | .value f=>match f with
  | .func k=>Kt bs rho d k c.args.toList
  | _=>.none
 | _=>.none
def ff(br:z1'):List UInt8:=br.map λn=>UInt8.ofNat n.toNat
def YV(t:aa)(cA:Prop)(b g i:Nat):aG (Option eC):=
 .fl b λz=>.ret (match z.body with
  | .ie _ _ oe v=>if z.gen=g/\t.gb=true then some ⟨cA,i=oe,v,[]⟩ else none
  | _=>none)
def P4(t:aa)(cA:Prop)(b g i:Nat)(v:aN):aG (Option eC):=
 match v with
 | .own bk g'=>.fl b λz=>.ret (match z.body with
  | .ie e xs oe _=>if z.gen=g/\t.gb=true then some ⟨cA,i=oe,.undef,[(b,⟨z.gen,.ie e xs oe (.own bk g')⟩)]⟩ else none
  | _=>none)
 | _=>.none
def cR(aJ:dX)(T:Nat->aa)(bs:Nat->Option aQ)(rho:Operand->aN)(o:Oper):aG (Option eC):=
 match o.op with
 | .move x=>c' True True (rho x)
 | .assign x=>match rho x,T o.type with
  | .dd,.slice e=>od o.dst λb g=>some ⟨True,True,.own b g,[(b,⟨g,.bo e []⟩)]⟩
  | v,_=>c' True True v
 | .pick c a b=>match use (rho c) with
  | (vw,.val .bool kX)=>match a,b with
   | _,.const (.bool false)=>match use (rho a) with
    | (YW,.val .bool av)=>c' (vw/\(kX=true->YW)) True (.val .bool (kX&&av))
    | _=>.none
   | .const (.bool true),_=>match use (rho b) with
    | (cA,.val .bool bv)=>c' (vw/\(kX=false->cA)) True (.val .bool (kX||bv))
    | _=>.none
   | _,_=>.none
  | _=>.none
 | .binOp op ty x y _=>
  let (cB,e9):=use (rho x)
  let (lN,kW):=use (rho y)
  match e9.oc,kW.oc with
  | some (k,a),some (k',b)=>(match op with
   | .shl | .shr=>match P2 op k a b with
    | some (c,v)=>c' (cB/\lN) c v
    | none=>.none
   | _=>if k=k' then (match C7 op k a b with
    | some (c,v)=>c' (cB/\lN) c v
    | none=>.none) else .none)
  | _,_=>match e9.w9,kW.w9 with
   | some a,some b=>match F_ op a b with
    | some (c,v)=>c' (cB/\lN) c v
    | none=>.none
   | _,_=>(Ga op (T ty) e9 kW).eG λ(c,v)=>c' (cB/\lN) c v
 | .unOp op _ x=>match op,use (rho x) with
  | .not,(cB,.val .bool b)=>c' cB True (.val .bool (!b))
  | .neg,(cB,.val (.int k) n)=>c' cB True (.val (.int k) (k.wrap (0 - n)))
  | _,_=>.none
 | .extract x i=>match use (rho x) with
  | (cB,.sN n f)=>if i<n then c' cB True (f i) else .none
  | _=>.none
 | .nilCheck x=>match use (rho x) with
  | (cB,.ke b g i)=>.fl b λz=>.ret (if z.gen=g&&z.body.gT then some ⟨cB,True,.ke b g i,[]⟩ else none)
  | (cB,.eL t d)=>c' cB True (.eL t d)
  | (cB,.val (.bP e) p)=>c' cB (p.isSome=true) (.eL e (p.getD e.dW))
  | (cB,.eZ b g off)=>.fl b λz=>.ret (if z.gen=g&&z.body.hr then some ⟨cB,True,.eZ b g off,[]⟩ else none)
  | _=>.none
 | .fieldAddr ty x f=>match T ty with
  | .ae t=>match qd t f with
   | some (_,AA)=>match use (rho x) with
    | (cB,.eZ b g off)=>.fl b λz=>.ret (if z.gen=g&&z.body.hr then some ⟨cB,True,.eZ b g (off+AA),[]⟩ else none)
    | (cB,.q3 b g i off)=>.fl b λz=>.ret (if z.gen=g&&z.body.gT then some ⟨cB,True,.q3 b g i (off+AA),[]⟩ else none)
    | (cB,.ke b g i)=>.fl b λz=>.ret (if z.gen=g&&z.body.gT&&AA == 0 then some ⟨cB,True,.ke b g i,[]⟩ else none)
    | (cB,.eL (.ae dO) d)=>if dO=t then (match yw dO d f with
     | some ⟨s',y⟩=>c' cB True (.eL s' y)
     | none=>.none) else .none
    | _=>.none
   | none=>.none
  | _=>.none
 | .field ty x f=>match T ty with
  | .ae t=>match use (rho x) with
   | (cB,.val (.ae dO) d)=>if dO=t then (match yw dO d f with
     | some ⟨s',y⟩=>c' cB True (.val s' y)
     | none=>.none) else .none
   | _=>.none
  | _=>.none
 | .load ty x=>match use (rho x) with
  | (cB,.ke b g i)=>YV (T ty) cB b g i
  | (cB,e9)=>(C8 (T ty) e9).eG λv=>c' cB True v
 | .store ty x y=>let (lN,kW):=use (rho y);match use (rho x) with
  | (cB,.ke b g i)=>P4 (T ty) (cB/\lN) b g i kW
  | (cB,e9)=>(YP (T ty) e9 kW).eG λwl=>.ret (some ⟨cB/\lN,True,.undef,wl⟩)
 | .alloc ty=>od o.dst λb g=>if T ty=.dc then none else some ⟨True,True,.eZ b g 0,[(b,⟨g,.cells (T ty) (h5 (vt (T ty)))⟩)]⟩
 | .box ty x=>let (cB,e9):=use (rho x);match cellsOf (T ty) e9 with
  | some l=>od o.dst λb g=>if l.length=(T ty).size then some ⟨cB,True,.eZ b g 0,[(b,⟨g,.cells (T ty) (h5 l)⟩)]⟩ else none
  | none=>.none
 | .build ty bw=>let l:=bw.toList.map λp=>(p.1,rho p.2);match T ty with
  | .ae t=>match Kq t (vt t) (lM l) with
   | some cs=>c' (yy l) True (.agg cs.length (h5 cs))
   | none=>.none
  | .array m e=>(w_ e (lM l) 0 m).eG λ(xs,b')=>if (b'.isEmpty&&decide ((lM l).map (·.1)).Nodup&&(lM l).all (λp=>decide (p.1<m)))=true then c' (yy l) True (.val (.array m e) xs) else .none
  | _=>.none
 | .buildSlice ty n bw=>let l:=bw.toList.map λp=>(p.1,rho p.2);match T ty with
  | .slice e=>(w_ e (lM l) 0 n).eG λ(xs,b')=>(kj b').bind λwl=>od o.dst λb g=>if n*e.size<=65536/\(!b'.contains b&&decide ((lM l).map (·.1)).Nodup&&(lM l).all (λp=>decide (p.1<n)))=true then some ⟨yy l,True,.own b g,wl++[(b,⟨g,.bo e xs⟩)]⟩ else none
  | _=>.none
 | .indexAddr ty x i=>let (cB,e9):=use (rho x);let (AB,P5):=use (rho i);match T ty,P5.oc with
  | .slice e,some (_,n)=>(YQ e e9 n).eG λ(c,v)=>c' (cB/\AB) c v
  | .array m e,some (_,n)=>match e9 with
   | .eL (.array dz a1) xs=>if dz=m/\a1=e then c' (cB/\AB) (0<=n/\n<(m:Int)) (.eL a1 (oa a1 xs n)) else .none
   | .eZ b g off=>.fl b λz=>.ret (if z.gen=g&&z.body.hr then some ⟨cB/\AB,0<=n/\n<(m:Int),.eZ b g (off+n.toNat*e.size),[]⟩ else none)
   | _=>.none
  | _,_=>.none
 | .index ty x i=>let (cB,e9):=use (rho x);let (AB,P5):=use (rho i);match T ty,e9.w9,P5.oc with
  | .str,some s,some (_,n)=>c' (cB/\AB) (0<=n/\n<(s.length:Int)) (.val (.int .u8) ((s.getD n.toNat 0).toNat:Int))
  | .array m e,_,some (_,n)=>match e9 with
   | .val (.array dz a1) xs=>if dz=m/\a1=e then c' (cB/\AB) (0<=n/\n<(m:Int)) (.val a1 (oa a1 xs n)) else .none
   | .agg k f=>if k=m*e.size then c' (cB/\AB) (0<=n/\n<(m:Int)) (if e.isAgg=true then .agg e.size (λq=>f (n.toNat*e.size+q)) else f (n.toNat*e.size)) else .none
   | _=>.none
  | _,_,_=>.none
 | .convert a b x=>let (cB,e9):=use (rho x);match T a,T b,e9.oc with
  | .int _,.int k,some (_,n)=>c' cB True (.val (.int k) (k.wrap n))
  | .slice (.int .u8),.str,_=>(en (.slice (.int .u8)) e9).eG λ(br,_)=>c' cB True (.val .str (ff br))
  | _,_,_=>.none
 | .makeFunc fn first dS=>match fn with
  | .func k=>let l:=dS.toList.map rho;if first.isEmpty then (match aJ.t_ k with
   | some v=>(ki (h3 (v.cs.map .bP)) (l.map λv=>(use v).2)).eG λ(y,b')=>(kj b').bind λwl=>.ret (some ⟨kk l,True,.val (.fn (h3 v.as) v.aS) (λx=>v.sh (Kg v.as (v.cs.map .bP) x y)),wl⟩)
   | none=>match aJ.An k with
    | some v=>(ki (h3 (v.cs.map .bP)) (l.map λv=>(use v).2)).eG λ(y,b')=>(kj b').bind λwl=>.ret (some ⟨kk l,True,.val (.cI v.aK) (v.S y),wl⟩)
    | none=>c' (kk l) True (.jl k l.length (h5 (l.map λv=>(use v).2)))) else (if dS.isEmpty then c' (kk (first.toList.map rho)) True (.vp k first.size (h5 ((first.toList.map rho).map λv=>(use v).2))) else .none)
  | _=>.none
 | .makeMap ty r=>if r.isSome then .none else match T ty with
  | .map k v=>od o.dst λb g=>some ⟨True,True,.hq b g,[(b,⟨g,.mp k v []⟩)]⟩
  | _=>.none
 | .lookup ty m x ok=>C_ T rho ty m x ok
 | .mapUpdate ty m x y=>vv T rho ty m x y
 | .insert ty m x y=>vv T rho ty m x y
 | .makeSlice ty l c=>Kv T rho o.dst ty l c
 | .makeInterface _ _=>c' True False .undef
 | .panic _=>c' True False .undef
 | .slice ty x ba G mb=>if mb.isSome then Ks T rho ty x ba G mb else Kr T rho ty x ba G
 | .call c=>pq T bs rho o.dst c
 | _=>.none
def cS(m:List (Nat×List af))(id:Nat):List af:=match m.find? (λp=>p.1 == id) with
 | some p=>p.2
 | none=>[]
def eT(m:List (Nat×List af))(id i:Nat)(d:af):List (Nat×List af):=m.map λp=>if p.1=id then (p.1,p.2.set i d) else p
def AD(e:aa):ca->Option (List (Nat×List e.aq))
 | .bU a1 m=>if h:a1=e then some (h ▸ m) else none
 | _=>none
def gD(e:aa)(m:List (Nat×List e.aq)):(t:aa)->t.aq->t.iP.aq
 | .cP a1,x=>if h:a1=e then h ▸ ((cS m x.1).drop x.2.1).take x.2.2 else []
 | .ae t,x=>gD e m t x
 | .aw a b,x=>(gD e m a x.1,gD e m b x.2)
 | .slice t,xs=>xs.map (gD e m t)
 | .bool,x=>x
 | .int _,x=>x
 | .str,x=>x
 | .dc,x=>x
 | .array _ _,x=>x
 | .bP _,x=>x
 | .map _ _,x=>x
 | .fn _ _,x=>x
 | .cI _,x=>x
 | .eY,x=>x
def og(e:aa)(m:List (Nat×List e.aq)):(t:aa)->t.aq->Prop
 | .cP a1,x=>a1=e/\m.any (λp=>p.1 == x.1)=true/\x.2.1+x.2.2<=(cS m x.1).length
 | .ae t,x=>og e m t x
 | .aw a b,x=>og e m a x.1/\og e m b x.2
 | .slice t,xs=>∀ x∈(xs:List t.aq),og e m t x
 | _,_=>True
def P6(rho:Operand->aN)(c:YC)(args:List Operand):aG (Option eC):=
 (ki c.n8 ((args.map rho).map λv=>(use v).2)).bind λr=>match r with
 | some (x,b')=>.fl cG λz=>match AD c.e z.body with
  | some m=>(if (c.aS.pure||c.tY)=true then .ret [] else kj b':aG (List (Nat×b_))).bind λwl=>
  .ret (some ⟨kk (args.map rho),og c.e m c.n8 x/\c.pre (gD c.e m c.n8 x),q6 c.aS (c.g (gD c.e m c.n8 x)),if (c.aS.pure||c.tY)=true then [] else wl++[(cG,⟨z.gen,.ez⟩)]⟩)
  | none=>.none
 | none=>(ki c.n8.iP ((args.map rho).map λv=>(use v).2)).eG λ(x,b')=>(if c.aS.pure then .ret [] else kj b':aG (List (Nat×b_))).bind λwl=>.ret (some ⟨kk (args.map rho),c.pre x,q6 c.aS (c.g x),wl⟩)
def e4(aJ:dX)(T:Nat->aa)(rho:Operand->aN)(o:Oper):Option (aG (Option eC)):=
 match o.op with
 | .load ty x=>match use (rho x) with
  | (cB,.ys (.int k) id i)=>some (.fl cG λz=>.ret (match AD (.int k) z.body with
    | some m=>if T ty=.int k then some ⟨cB,i<(cS m id).length,.val (.int k) ((cS m id).getD i 0),[]⟩ else none
    | none=>none))
  | _=>none
 | .store ty x y=>match use (rho x) with
  | (cB,.ys (.int k) id i)=>match use (rho y) with
   | (lN,.val (.int k') d)=>some (.fl cG λz=>.ret (match AD (.int k) z.body with
    | some m=>if T ty=.int k/\k'=k then some ⟨cB/\lN,i<(cS m id).length,.undef,[(cG,⟨z.gen,.bU (.int k) (eT m id i d)⟩)]⟩ else none
    | none=>none))
   | _=>none
  | _=>none
 | .indexAddr ty x i=>match use (rho x) with
  | (cB,.val (.cP e) r)=>match (use (rho i)).2.oc with
   | some (_,n)=>some (.ret (if T ty=.cP e then some ⟨cB/\(use (rho i)).1,0<=n/\n<(r.2.2:Int),.ys e r.1 (r.2.1+n.toNat),[]⟩ else none))
   | none=>none
  | _=>none
 | .slice ty x ba G mb=>match use (rho x) with
  | (cB,.val (.cP e) r)=>match lq rho ba,lq rho G,mb with
   | some (ol,l),some (sO,h),none=>some (.ret (if T ty=.cP e then some ⟨cB/\(ol/\sO),0<=dG l/\dG l<=fV r.2.2 h/\fV r.2.2 h<=(r.2.2:Int),.val (.cP e) (r.1,r.2.1+(dG l).toNat,(fV r.2.2 h).toNat - (dG l).toNat),[]⟩ else none))
   | _,_,_=>none
  | _=>none
 | .call c=>match c.callee with
  | .builtin .len=>match c.args.toList,c.argTypes.toList with
   | [x],[t]=>match use (rho x) with
    | (cB,.val (.cP e) r)=>some (.ret (if T t=.cP e then some ⟨cB,True,.val (.int .i64) (r.2.2:Int),[]⟩ else none))
    | _=>none
   | _,_=>none
  | .builtin .unsafeSliceData=>match c.args.toList with
   | [x]=>match use (rho x) with
    | (cB,.own b g)=>some (.fl b λz=>.ret (match z.body with
     | .bo _ _=>if z.gen=g/\T o.type=.bP (.int .u8) then some ⟨cB,True,.Ap b g,[]⟩ else none
     | _=>none))
    | _=>none
   | _=>none
  | .builtin .unsafeString=>match c.args.toList,c.argTypes.toList with
   | [x,n],[sQ,_]=>match use (rho x),use (rho n) with
    | (cB,.Ap b g),(on,.val (.int .i64) m)=>some (.fl b λz=>.ret (match z.body with
     | .bo (.int .u8) xs=>if z.gen=g/\T sQ=.bP (.int .u8) then some ⟨cB/\on,m=(List.length xs:Int),.val .str (ff xs),[(b,⟨z.gen,.ez⟩)]⟩ else none
     | _=>none))
    | _,_=>none
   | _,_=>none
  | .value (.func k)=>(aJ.Ao k).map λgr=>P6 rho gr c.args.toList
  | _=>none
 | _=>none
def iB(aJ:dX)(T:Nat->aa)(bs:Nat->Option aQ)(rho:Operand->aN)(o:Oper):aG (Option eC):=
 match e4 aJ T rho o with
 | some r=>r
 | none=>cR aJ T bs rho o
def e0(r:Option Nat):Fence:={ Fence.wide with round:=r }
section
variable {P:Program} {w:World}
variable {t:TypeId}
theorem ep{d:TypeDesc}(h:P.underlying t=some d):(underlying t).run P w=.ok d w:=by simp[underlying,h]
variable {i:TypeInfo}
theorem Gj(h:P.info? t=some i):(typeInfo t).run P w=.ok i w:=by simp[typeInfo,h]
theorem ub(h:P.info? t=some i):(sizeOf t).run P w=.ok i.size w:=by simp[sizeOf,Gj h]
theorem sR{z:Value}(h:P.info? t=some i)(bz:i.zero=some z):(zeroValue t).run P w=.ok z w:=by simp[zeroValue,Gj h,bz]
theorem cx.size{t:aa}{id:TypeId}(h:cx P t id):(sizeOf id).run P w=.ok t.size w:=by
 obtain⟨i,z,E,M,_⟩:=nF h.nE;rw[ub E,M]
variable {t:aa}{id:TypeId}
theorem cx.ae(h:cx P (.ae t) id):∃ gC,P.underlying id=some (.struct gC):=by
 unfold cx at h;simp  [dh]at h;grind
theorem cx.sl{e:aa}(h:cx P (.slice e) id):∃ i,P.underlying id=some (.slice i)/\cx P e i/\e.size≠0:=by
 unfold cx at h;simp  [dh]at h;obtain⟨_,h⟩:=h;split at h
 ·rename_i i G;simp  at h;exact⟨i,G,h.1,h.2⟩
 grind
theorem anv:∀ (t:aa) {l:List Field} {Kx f off:Nat} {s:aa},dh P t (.inr (l,Kx))=true->qd t f=some (s,off)->
  ∃ qg,l[f]?=some qg/\qg.offset=Kx+off/\cx P s qg.type/\s.size≠0:=by
 intro t;induction t with
 | aw a b hp gq=>
  intro l Kx f off s h aC;match l,h with
  | [],h=>simp  [dh]at h
  | [x],h=>simp  [dh]at h
  | [x,y],h=>
   simp  [dh,ne_eq]at h;obtain⟨⟨⟨⟨E,M⟩,al⟩,_⟩,⟨⟨a7,bR⟩,er⟩,_⟩:=h;cases f with
   | zero=>obtain⟨rfl,rfl⟩:=aC;exact⟨x,rfl,E,M,al⟩
   | succ f=>
    simp only[qd,aQX]at aC;obtain⟨⟨s',gg⟩,aC,rfl,rfl⟩:=aC;have U:∃ u,qd b f=some u/\f=0/\u=(b,0):=by
     cases b<;>cases f<;>simp only[qd,reduceCtorEq]at aC<;>first
      | exact⟨_,aC,rfl,by cases aC;rfl⟩
      | (simp  [dh]at bR)
    obtain⟨u,hu,rfl,rfl⟩:=U;rw[hu]at aC;cases aC;exact⟨y,rfl,by omega,bR,er⟩
  | x::y::z::l,h=>
   simp  [dh,ne_eq]at h;obtain⟨⟨⟨⟨E,M⟩,al⟩,_⟩,a7⟩:=h;cases f with
   | zero=>obtain⟨rfl,rfl⟩:=aC;exact⟨x,rfl,E,M,al⟩
   | succ f=>
    simp  [qd,aQx]at aC;grind
 | _=>intro l Kx f off s h _;simp only[dh,amW]at h
theorem cx.field{s:aa}{id f off:Nat}(h:cx P (.ae t) id)(aC:qd t f=some (s,off)) :
  ∃ gC qg,P.underlying id=some (.struct gC)/\gC[f]?=some qg/\qg.offset=off/\cx P s qg.type/\s.size≠0:=by
 unfold cx at h;simp  [dh]at h;obtain⟨_,h⟩:=h;split at h
 ·rename_i gC mC;refine⟨gC,?_⟩;have gh:∀ {qg},gC.toList[f]?=some qg->gC[f]?=some qg:=λh=>by grind
  split at h
  ·rw[aQR h]at aC;cases f<;>cases aC
  ·rename_i x ai;simp  at h;have U:f=0/\(s,off)=(t,0):=by
    cases t<;>cases f<;>simp only[qd,reduceCtorEq]at aC<;>first
     | exact⟨rfl,by cases aC;rfl⟩
     | (have:=h.1.1.2;simp  [dh]at this)
   obtain⟨rfl,U⟩:=U;cases U;exact⟨x,mC,gh (by grind),h.1.1.1,h.1.1.2,h.1.2⟩
  ·obtain⟨qg,aO,aT,b7⟩:=anv t h aC;grind
 grind
def mV(w:World)(p:Addr)(cs:List Value):Prop:=(0<cs.length->p.spot=none)/\∀ j (h:j<cs.length),w.cell? ⟨p.block,p.off+j,none⟩=some cs[j]
variable {p:Addr}{cs:List Value}
theorem Holds.P7{F:Nat->Prop}(h:Holds F w p cs):mV w p cs:=⟨λ_=>h.2.1,h.2.2⟩
theorem C'(h:mV w p cs):(loadCells p cs.length).run P w=.ok cs.toArray w:=by
 obtain⟨ax,hc⟩:=h;refine run_loadCells_list w p cs λj v aM=>?_;have ak:p=⟨p.block,p.off,none⟩:=by cases p;grind
 have Gk:p.add j=⟨p.block,p.off+j,none⟩:=by
  unfold Addr.add;grind
 grind
theorem Da(h:cx P t id):(isAgg id).run P w=.ok t.isAgg w:=by
 unfold cx at h;unfold isAgg;cases t<;>simp  [dh,amW]at h<;>(obtain⟨_,h⟩:=h;split at h)<;>
  first
   | (rename_i hu;simp[ep hu,aa.isAgg];done)
   | (cases h;done)
   | (rename_i hu;simp[ep hu,aa.isAgg])
theorem Ky{F:Nat->Prop}{x:t.aq}(h:cx P t id)(dj:mV w p cs)(an:cw P t F w cs x) :
  ∃ v,(loadVar id p).run P w=.ok v w/\ft P t F w v x:=by
 have hlen:=jT t an;by_cases aZ:t.isAgg=true
 ·refine⟨.agg cs.toArray,?_,?_,by simpa [Value.cells]using an⟩
  ·have:=C' (P:=P) dj;rw[hlen]at this;simp[loadVar,Da h,aZ,h.size,this]
  ·cases t<;>simp  [aa.isAgg]at aZ
   ·exact⟨cs.toArray,rfl,by simpa [aa.size]using hlen⟩
   ·exact⟨cs.toArray,rfl,by simpa [aa.size]using hlen⟩
 ·have ai:t.gb=true:=by
   cases t<;>simp  [aa.isAgg]at aZ<;>first | rfl | (unfold cx at h;simp  [dh]at h)
  obtain⟨u,rfl,hu⟩:=Kf ai an;refine⟨u,?_,(eh ai).2 ⟨hu,an⟩⟩;have hc:=dj.2 0 (by simp);have ak:p=⟨p.block,p.off+0,none⟩:=by have:=dj.1 (by simp);cases p;grind
  rw[<-ak]at hc;simp[loadVar,Da h,aZ,hc]
end
section
variable {r:Option Nat} {P:Program} {o:Oper} {a:Act} {w w':World} {K:Act->World->Prop} {Q:Exit->Act->World->Prop}
theorem Db(ay:∀ c,o.op≠.defer c):o.semAt (e0 r).round a.eval=execOp a.eval o:=Oper.semAt_eq _ _ _ ay
variable {v:Value}
theorem ig(ay:∀ c,o.op≠.defer c)(h:(execOp a.eval o).run P w=.ok (.value v) w')(aj:K (a.put o.dst v) w'):o.wpIn (e0 r) 0 P a w K Q:=by
 refine⟨λ_ _=>trivial,?_⟩;rw[Db ay,h];exact aj
theorem Gl(ay:∀ c,o.op≠.defer c)(h:(execOp a.eval o).run P w=.ok .skip w')(aj:K (a.put o.dst Go.undef) w'):o.wpIn (e0 r) 0 P a w K Q:=by
 refine⟨λ_ _=>trivial,?_⟩;rw[Db ay,h];exact aj
end
def aE.iC(s:aE):List (Nat×b_)->aE
 | []=>s
 | p::l=>(s.cq p.1 p.2).iC l
def aE.jI(s:aE)(d:Option Nat)(res:eC):aE:=(s.iC res.jG).set d res.ht
def cT(C:cJ)(o:Oper)(s:aE)(res:eC):Prop:=
 ∀ a w kap F Q,bx C s a w kap F->res.cA->res.c->o.wpIn (e0 C.r) 0 C.P a w (λa' w'=>de C (s.jI o.dst res) a' w') Q
theorem cT.pure{C:cJ}{o:Oper}{s:aE}{cA c:Prop}{ht:aN}(ay:∀ c,o.op≠.defer c)(bp:∀ i,o.dst=some i->i<C.b3)
  (h:∀ a w kap F,bx C s a w kap F->cA->c->∃ v,(execOp a.eval o).run C.P w=.ok (.value v) w/\bM C.P s.ab kap F w ht v):cT C o s ⟨cA,c,ht,[]⟩:=by
 intro a w kap F Q D be hc;obtain⟨v,E,M⟩:=h a w kap F D be hc;exact ig ay E ⟨kap,F,D.set bp M⟩
section
variable {P:Program} {H:Nat->b_} {kap:Nat->bL} {F:Nat->Prop} {w:World}
theorem q7{av:aN}{v:Value}(h:bM P H kap F w av v)(hu:(use av).1):bM P H kap F w (use av).2 v:=by
 cases av<;>first | exact h | exact h.1 hu
theorem anw(v:Value):bM P H kap F w (Aw v) v:=by
 unfold Aw;split
 ·exact h2.2 rfl
 ·split
  ·rename_i h;exact hR.2 ⟨rfl,h⟩
  ·rfl
 ·split
  ·rename_i s h;refine lf.2 ⟨by simp,?_⟩;have:s.data.toList.length=s.size:=by rfl
   omega
  ·rfl
 ·rfl
 ·rfl
theorem lO{C:cJ}{s:aE}{a:Act}{w:World}{kap:Nat->bL}{F:Nat->Prop}(h:bx C s a w kap F)(x:Operand):bM C.P s.ab kap F w (bj C.aW s.aD x) (a.eval x):=by
 cases x with
 | tmp t=>
  exact h.b5 t
 | const v=>exact anw v
 | func f=>
  show bM _ _ _ _ _ (match C.aW.tZ f with | some v=>.val (.fn v.ts v.aS) v.sh | none=>.jl f 0 λ_=>.undef) (.func (.func f) #[] #[]);split
  ·rename_i v ag;exact (eh rfl).2 ⟨rfl,ang (h.j7.tZ f v ag) F w⟩
  ·exact⟨[],rfl,rfl,λi G=>by omega⟩
 | global g=>trivial
variable {k:IntKind}
theorem qh{av:aN}{v:Value}{n:Int}(h:bM P H kap F w av v)(G:av.oc=some (k,n)):v=.int k n/\gQ k n:=by
 unfold aN.oc at G;split at G
 ·cases G;exact hR.1 h
 grind
theorem P8{av:aN}{v:Value}{s:List UInt8}(h:bM P H kap F w av v)(G:av.w9=some s):v=.string ⟨s.toArray⟩/\s.length<2 ^ 63:=by
 unfold aN.w9 at G;split at G
 ·cases G;exact lf.1 h
 grind
end
theorem sS(k:IntKind)(n:Int):gQ k (k.wrap n):=by
 unfold gQ IntKind.wrap;have E:=Int.emod_nonneg n (b:=2 ^ k.bits) (by cases k<;>decide);have M:=Int.emod_lt_of_pos n (b:=2 ^ k.bits) (by omega);cases k<;>simp  [IntKind.min,IntKind.max,IntKind.signed,IntKind.bits,Int.reducePow]at E M ⊢<;>first
  | (constructor<;>split<;>first | (rename_i hc;have hc:=aQR hc;omega) | (rename_i hc;have hc:=mt aQN hc;omega))
  | omega
theorem anx{k:IntKind}{a b:Int}(aZ:gQ k a):gQ k (a.tmod b):=by
 unfold gQ at *
 have E:k.min<=0/\0<=k.max:=by cases k<;>decide
 have M:=Int.natAbs_tmod a b;have al:=Nat.mod_le a.natAbs b.natAbs;rcases Int.le_total 0 a with h | h
 ·have:=Int.tmod_nonneg b h;omega
 ·have a7:=Int.neg_tmod a b;have:=Int.tmod_nonneg b (a:=-a) (by omega);omega
end Go.Fer
namespace Go.Fer
open Go.RowKit
variable {P:Program}{w:World}{t:aa}{id:TypeId}{cs:Array Value}
theorem YX(h:cx P t id)(ai:t.isAgg=false){off:Nat}{v:Value}(ag:cs[off]?=some v) :
  (part id cs off).run P w=.ok v w:=by
 simp[part,Da h,ai,ag]
theorem YY(h:cx P t id)(ai:t.isAgg=true){off:Nat} :
  (part id cs off).run P w=.ok (.agg (cs.extract off (off+t.size))) w:=by
 simp[part,Da h,ai,h.size]
theorem uc{F:Nat->Prop}(h:cx P t id){p c q:List Value}{x:t.aq}(q8:cs.toList=p++(c++q))(hc:cw P t F w c x) :
  ∃ v,(part id cs p.length).run P w=.ok v w/\ft P t F w v x:=by
 have hlen:=jT t hc;by_cases aZ:t.isAgg=true
 ·refine⟨_,YY h aZ,?_⟩;have he:(cs.extract p.length (p.length+t.size)).toList=c:=by
   simp_all
  have ag:(Value.agg (cs.extract p.length (p.length+t.size))).cells.toList=c:=he;refine⟨?_,by grind⟩;cases t<;>simp  [aa.isAgg]at aZ
  ·exact⟨_,rfl,by grind [aa.size]⟩
  ·exact⟨_,rfl,by grind [aa.size]⟩
 ·have ai:t.gb=true:=by
   cases t<;>simp  [aa.isAgg]at aZ<;>first | rfl | grind [cx,dh]
  obtain⟨u,rfl,hu⟩:=Kf ai hc;refine⟨u,YX h (by grind) ?_,(eh ai).2 ⟨hu,hc⟩⟩;rw[<-aQP,q8];simp
theorem cx.Gm(h:cx P (.ae t) id):P.stoodInHeld id=false/\P.eqGuardType P.depth id=false/\
  (dh P t (.inr ((P.fieldsOf id).toList, 0)) = true \/ (∃ f, (P.fieldsOf id).toList = [f] /\ f.offset = 0 /\ cx P t f.type /\ f.name ≠ "_") \/ (t = .dc /\ (P.fieldsOf id).toList = [])) /\ P.underlying id = some (.struct (P.fieldsOf id)) := by
 grind [cx,dh,Program.fieldsOf]
theorem P9{F:Nat->Prop}:∀ (t:aa) (d:Nat),t.oO=true->t.nG<=d->
  (∀ {id:TypeId} {v u:Value} {x y:t.aq},cx P t id->ft P t F w v x->ft P t F w u y->(Op.equalIn d id v u).run P w=.ok (jm t x y) w)/\
  (∀ {l:List Field} {off:Nat} {xs br:Array Value} {p c q p' gr q':List Value} {x y:t.aq},dh P t (.inr (l,off))=true->xs.toList=p++(c++q)->p.length=off->cw P t F w c x->
   br.toList=p'++(gr++q')->p'.length=off->cw P t F w gr y->(Op.eqFields d xs br l).run P w=.ok (jm t x y) w):=by
 intro t;induction t with
 | bool=>
  intro d _ ay;refine⟨λ{id v u x y} h E M=>?_,λh=>by simp[dh]at h⟩;rw[h2.1 E,h2.1 M];obtain⟨d,rfl⟩:∃ e,d=e+1:=⟨d - 1,by grind [aa.nG]⟩
  unfold cx at h;simp  [dh]at h;split at h
  ·rename_i hu;rw[run_equalIn_bool' w d id x y hu];rfl
  grind
 | int k=>
  intro d _ ay;refine⟨λ{id v u x y} h E M=>?_,λh=>by simp[dh]at h⟩;rw[(hR.1 E).1,(hR.1 M).1];obtain⟨d,rfl⟩:∃ e,d=e+1:=⟨d - 1,by grind [aa.nG]⟩
  unfold cx at h;simp  [dh]at h;split at h
  ·rename_i hu;rw[run_equalIn_int w d id k _ x y hu];rfl
  grind
 | str=>
  intro d _ ay;refine⟨λ{id v u x y} h E M=>?_,λh=>by simp[dh]at h⟩;rw[(lf.1 E).1,(lf.1 M).1];obtain⟨d,rfl⟩:∃ e,d=e+1:=⟨d - 1,by grind [aa.nG]⟩
  grind [cx,dh,run_equalIn_string,ByteArray.toList_eq,jm]
 | dc=>intro d h;cases h
 | slice e _=>intro d h;cases h
 | array n e _=>intro d h;cases h
 | bP e _=>intro d h;cases h
 | map k v _ _=>intro d h;cases h
 | fn a b _ _=>intro d h;cases h
 | cI a _=>intro d h;cases h
 | eY=>intro d h;cases h
 | cP e _=>intro d h;cases h
 | aw a b hp gq=>
  intro d hc ay;simp  [aa.oO]at hc;simp  [aa.nG]at ay;have P_:=hp d hc.1 (by omega);have rR:=gq d hc.2 (by omega);refine⟨λh=>by unfold cx at h;simp[dh]at h,?_⟩;intro l off xs br p c q p' gr q' x y h an ak ud bf AE Gn;obtain⟨bI,c2,rfl,aO,aT⟩:=ud;obtain⟨d1,d2,rfl,m1,m2⟩:=Gn;have fC:=jT a aO;have fR:=jT a m1;have step : ∀ (f : Field) (b9 : List Field), f.offset = off -> cx P a f.type -> f.name ≠ "_" ->
    (Op.eqFields d xs br (f::b9)).run P w=if jm a x.1 y.1=true then (Op.eqFields d xs br b9).run P w else .ok false w:=by
   intro f b9 au aC aA;obtain⟨v,cn,cN⟩:=uc (cs:=xs) (p:=p)   (q:=c2++q) aC (by grind) aO;obtain⟨u,s1,s2⟩:=uc (cs:=br) (p:=p')   (q:=d2++q') aC (by grind) m1;simp  [Op.eqFields,aA,Sem.run_bind];rw[au,<-ak,cn,Result.andThen_ok,ak,<-AE,s1,Result.andThen_ok,P_.1 aC cN s2];cases jm a x.1 y.1<;>simp
  match l,h with
  | [],h=>simp  [dh]at h
  | [f],h=>simp  [dh]at h
  | [f,g],h=>
   simp  [dh,ne_eq]at h;obtain⟨⟨⟨⟨E,M⟩,al⟩,a7⟩,⟨⟨⟨bR,er⟩,jj⟩,ld⟩⟩:=h;rw[step f [g] E M a7];obtain⟨v,cn,cN⟩:=uc (cs:=xs) (p:=p++bI)   (q:=q) er (by grind) aT;obtain⟨u,s1,s2⟩:=uc (cs:=br) (p:=p'++d1)   (q:=q') er (by grind) m2;have aF:(p++bI).length=g.offset:=by grind
   have bB:(p'++d1).length=g.offset:=by grind
   rw[aF]at cn;rw[bB]at s1;simp  [Op.eqFields,cn,s1,rR.1 er cN s2,jm];grind
  | f::g::i::l,h=>
   simp  [dh,ne_eq]at h;obtain⟨⟨⟨⟨E,M⟩,al⟩,a7⟩,bR⟩:=h;rw[step f _ E M a7,rR.2 bR (p:=p++bI)   (q:=q) (p':=p'++d1)   (q':=q') (by grind) (by grind) aT (by grind) (by grind) m2];simp  [jm];grind
 | ae t aR=>
  intro d hc ay;simp  [aa.nG]at ay;obtain⟨d,rfl⟩:∃ e,d=e+1:=⟨d - 1,by omega⟩
  refine⟨λ{id v u x y} h E M=>?_,λh=>by simp[dh]at h⟩;have i:=aR d hc (by omega);obtain⟨aF,bB,c7,bW⟩:=h.Gm;obtain⟨⟨xs,rfl,kl⟩,ud⟩:=E;obtain⟨⟨br,rfl,mc⟩,Gn⟩:=M;simp  [Value.cells]at ud Gn;rw[run_equalIn_struct w d id xs br bW aF];rcases c7 with c7 | ⟨f,c7,gS,kU,jn⟩ | ⟨rfl,c7⟩
  ·exact i.2 c7 (p:=[])   (q:=[]) (p':=[])   (q':=[]) (by simp) rfl ud (by simp) rfl Gn
  ·rw[c7];obtain⟨v,cn,cN⟩:=uc (cs:=xs) (p:=[])   (q:=[]) kU (by simp) ud;obtain⟨u,s1,s2⟩:=uc (cs:=br) (p:=[])   (q:=[]) kU (by simp) Gn;simp  at cn s1;simp  [Op.eqFields,jn,gS,cn,s1,i.1 kU cN s2,jm];cases jm t x y<;>simp
  ·cases hc
variable {k:IntKind}{a:Int}{b:Int}
theorem anz(aZ:gQ k a):gQ k (lp k a b):=by
 unfold gQ at *
 unfold lp;have E:k.min<=0/\0<=k.max:=by cases k<;>decide
 generalize min b.toNat k.bits=n;have ak:(0:Int)<2 ^ n:=Int.pow_pos (by decide);rw[Int.fdiv_eq_ediv_of_nonneg _ (Int.le_of_lt ak)];rcases Int.le_total 0 a with h | h
 ·have M:=Int.ediv_nonneg h (Int.le_of_lt ak);have al:=Int.ediv_le_self (2 ^ n) h;omega
 ·have M:a / 2 ^ n<=0:=by
   have:=Int.ediv_le_ediv ak h;simp_all
  have al:a<=a / 2 ^ n:=by
   rw[Int.le_ediv_iff_mul_le ak];have a7:(1:Int)<=2 ^ n:=by omega
   have:=Int.mul_le_mul_of_nonpos_left   h a7;omega
  omega
theorem YZ(op:BinOp)(t:TypeId)(x y:Operand)(k k':IntKind)(a b:Int):(eqGuard op t x y (.int k a) (.int k' b)).run P w=.ok () w:=by
 simp_all[eqGuard]
theorem anA(op:BinOp)(t:TypeId)(x y:Operand)(a b:ByteArray):(eqGuard op t x y (.string a) (.string b)).run P w=.ok () w:=by
 simp_all[eqGuard]
theorem anB(op:BinOp)(t:TypeId)(x y:Operand)(a b:Bool):(eqGuard op t x y (.bool a) (.bool b)).run P w=.ok () w:=by
 simp_all[eqGuard]
theorem anC(op:BinOp)(t:TypeId)(x y:Operand)(a b:Option Addr):(eqGuard op t x y (.pointer a) (.pointer b)).run P w=.ok () w:=by
 simp_all[eqGuard]
section
variable {P:Program} {H:Nat->b_} {kap:Nat->bL} {F:Nat->Prop} {w:World}
variable {t:TypeId}{v:aN}{c:Prop}{op:BinOp}
theorem anD(h:C7 op k a b=some (c,v))(hc:c)(aZ:gQ k a) :
  ∃ u,(binOp op t (.int k a) (.int k b)).run P w=.ok u w/\bM P H kap F w v u:=by
 cases op<;>simp only[C7]at h<;>obtain⟨rfl,rfl⟩:=h<;>simp only[bM];case add=>simp_all[binOp,Op.intArith,hR,sS]
 case sub=>simp_all[binOp,Op.intArith,hR,sS]
 case mul=>simp_all[binOp,Op.intArith,hR,sS]
 case quo=>simp_all[binOp,Op.intDiv,hR,sS]
 case rem=>simp_all[binOp,Op.intDiv,hR,anx]
 case and=>simp_all[n',binOp,Op.intBits,hR,sS]
 case or=>simp_all[YF,binOp,Op.intBits,hR,sS]
 case xor=>simp_all[YG,binOp,Op.intBits,hR,sS]
 case andNot=>simp_all[YH,binOp,Op.intBits,hR,sS]
 case eql=>exact⟨.bool (a == b),by simp[binOp,Op.intCmp],h2.2 (congrArg Value.bool (by rfl))⟩
 case neq=>exact⟨.bool (a != b),by simp[binOp,Op.intCmp],h2.2 (congrArg Value.bool (by grind))⟩
 case lss=>simp_all[binOp,Op.intCmp]
 case leq=>simp_all[binOp,Op.intCmp]
 case gtr=>simp_all[binOp,Op.intCmp]
 simp_all[binOp,Op.intCmp]
theorem Y0{k':IntKind}(h:P2 op k a b=some (c,v))(hc:c)(aZ:gQ k a) :
  ∃ u,(binOp op t (.int k a) (.int k' b)).run P w=.ok u w/\bM P H kap F w v u:=by
 cases op<;>simp only[P2]at h<;>obtain⟨rfl,rfl⟩:=h<;>simp  [bM];case shl=>exact⟨_,by simp[binOp,Op.shift,show ¬b<0 by omega];rfl,hR.2 ⟨rfl,sS _ _⟩⟩
 case shr=>exact⟨_,by simp[binOp,Op.shift,show ¬b<0 by omega];rfl,hR.2 ⟨rfl,anz aZ⟩⟩
theorem anE{a b:List UInt8}(h:F_ op a b=some (c,v))(hc:c) :
  ∃ u,(binOp op t (.string ⟨a.toArray⟩) (.string ⟨b.toArray⟩)).run P w=.ok u w/\bM P H kap F w v u:=by
 have e:∀ l,(⟨l.toArray⟩:ByteArray).toList=l:=λl=>by simp
 cases op<;>simp only[F_]at h<;>obtain⟨rfl,rfl⟩:=h<;>simp only[bM];case add=>
  unfold b2 at hc;have ax:((ByteArray.size ⟨a.toArray⟩+ByteArray.size ⟨b.toArray⟩))=(a.length+b.length):=by rfl
  refine⟨.string ⟨(a++b).toArray⟩,?_,lf.2 ⟨rfl,by grind⟩⟩;simp  [binOp,Op.stringOp];rw[if_neg]
  ·rfl
  omega
 case eql=>exact⟨_,by rfl,h2.2 (by grind)⟩
 case neq=>exact⟨_,by rfl,h2.2 (by grind)⟩
 case lss=>simp_all[binOp,Op.stringOp]
 simp_all[binOp,Op.stringOp]
end
end Go.Fer
namespace Go.Fer
open Go.RowKit
def ei(P:Program)(T:Nat->aa):Prop:=∀ id,T id=.dc\/cx P (T id) id
theorem ei.cb{P:Program}{T:Nat->aa}(h:ei P T){id:Nat}{t:aa}(e:T id=t)(aH:t≠.dc):cx P t id:=by
 rcases h id with h | h<;>grind
theorem ue{d:Option Nat}{k:Nat->Nat->Option eC}{H:Nat->b_}{res:eC}(h:(od d k).run H=some res) :
  ∃ b,d=some b/\k b ((H b).gen+1)=some res:=by
 unfold od at h;cases d with
 | none=>cases h
 | some b=>
  simp_all
variable {w:World}
theorem bx.anF{C:cJ}{s:aE}{a:Act}{kap:Nat->bL}{F:Nat->Prop}(h:bx C s a w kap F){b g:Nat}{e:aa}(aB:(s.ab b).gen<g) :
  bx C (s.cq b ⟨g,.bo e []⟩) a w (λi=>if i=b then ⟨0,0,0,true⟩ else kap i) F:=by
 have ai:fN s.ab kap (λi=>if i=b then ⟨g,.bo e []⟩ else s.ab i) (λi=>if i=b then ⟨0,0,0,true⟩ else kap i):=C2 aB λbk dZ=>by grind
 refine h.move   ai (λ_ D=>D) (λ_ D=>.inl D) (amY _) (λ_ _ _=>rfl) (dN.refl _) (λ_=>?_) ?_ ?_ h.du (C3 (.inr ⟨rfl,rfl⟩) λbk dZ=>by grind)
 ·intro i;by_cases G:i=b
  ·subst G;simp  [c1];exact⟨λ_=>rfl,λaA=>by grind⟩
  ·exact c1.lj (h.bH i) ai (λ_ D=>D) (dk.refl _ _) (by grind) (by grind) λ_=>rfl
 ·intro i G;by_cases bJ:i=b
  ·grind [ca.cg]
  ·simp  [if_neg bJ]at G ⊢;exact⟨(h.own i G).1,(h.own i G).2.1,.inl ⟨i,G,rfl⟩⟩
 ·intro i j G aM a1;by_cases bJ:i=b
  ·grind [ca.cg]
  ·by_cases pn:j=b
   ·grind [ca.cg]
   ·simp  [if_neg bJ,if_neg pn]at G aM a1;exact h.inj i j G aM a1
section
variable {C:cJ} {T:Nat->aa} {bs:Nat->Option aQ} {o:Oper} {s:aE} {res:eC}
variable {x:Operand}
theorem anG(bp:∀ i,o.dst=some i->i<C.b3)(au:o.op=.move x)(h:(cR C.aW T bs (bj C.aW s.aD) o).run s.ab=some res):cT C o s res:=by
 simp  [cR,au,c']at h;subst h;simp_all[cT.pure,execOp,lO]
theorem anH(bp:∀ i,o.dst=some i->i<C.b3)(au:o.op=.assign x)(h:(cR C.aW T bs (bj C.aW s.aD) o).run s.ab=some res):cT C o s res:=by
 simp  [cR,au]at h;split at h
 ·rename_i e an aH;obtain⟨b,ay,aj⟩:=ue h;simp  at aj;subst aj;intro a w kap F Q D _ _;refine ig (w':=w) (v:=a.eval x) (by grind) (by simp[execOp,au]) ?_;have M:=D.anF (b:=b) (e:=e) (aRe _);have ag:=lO D x;rw[an]at ag;simp  [bM]at ag;refine⟨_,_,bx.set M bp ⟨⟨?_,by rw[ag];rfl⟩,λ_ _=>?_⟩⟩
  ·simp[aE.cq]
  grind [bL.slice]
 ·simp  [c']at h;subst h;simp_all[cT.pure,execOp,lO]
theorem da{a:Act}{kap:Nat->bL}{F:Nat->Prop}(D:bx C s a w kap F)(x:Operand){p:Prop}{av:aN}(hu:use (bj C.aW s.aD x)=(p,av))(ak:p):bM C.P s.ab kap F w av (a.eval x):=by
 grind [q7,lO]
theorem anI{c y:Operand}(bp:∀ i,o.dst=some i->i<C.b3)(au:o.op=.pick c x y)(h:(cR C.aW T bs (bj C.aW s.aD) o).run s.ab=some res):cT C o s res:=by
 simp  [cR,au]at h;split at h
 ·rename_i vw kX hc;split at h
  ·split at h
   ·rename_i YW av aZ;simp  [c']at h;subst h;refine cT.pure (by grind) bp λa w kap F D be _=>?_;have E:=h2.1 (da D c hc be.1);cases kX with
    | false=>
     have bQ:a.eval (.const (.bool false))=.bool false:=rfl;exact⟨.bool false,by simp_all[execOp,asBool],h2.2 rfl⟩
    | true=>
     have M:=h2.1 (da D x aZ (be.2 rfl));exact⟨.bool av,by simp_all[execOp,asBool],h2.2 rfl⟩
   ·cases h
  ·split at h
   ·rename_i cA bv U;simp  [c']at h;subst h;refine cT.pure (by grind) bp λa w kap F D be _=>?_;have E:=h2.1 (da D c hc be.1);cases kX with
    | true=>
     have bQ:a.eval (.const (.bool true))=.bool true:=rfl;exact⟨.bool true,by simp_all[execOp,asBool],h2.2 rfl⟩
    | false=>
     have M:=h2.1 (da D y U (be.2 rfl));exact⟨.bool bv,by simp_all[execOp,asBool],h2.2 rfl⟩
   ·cases h
  ·cases h
 ·cases h
theorem anJ{op:UnOp}{ty:TypeId}(bp:∀ i,o.dst=some i->i<C.b3)(au:o.op=.unOp op ty x)(h:(cR C.aW T bs (bj C.aW s.aD) o).run s.ab=some res):cT C o s res:=by
 simp only[cR,au]at h;split at h
 ·rename_i cB b an;simp  [c']at h;subst h;refine cT.pure (by grind) bp λa w kap F D be _=>?_;have E:=h2.1 (da D x an be);exact⟨.bool (!b),by simp_all[execOp,Op.unary],h2.2 rfl⟩
 ·rename_i cB k n an;simp only[c',aG.dF,amZ]at h;subst h;refine cT.pure (by grind) bp λa w kap F D be _=>?_;have E:=hR.1 (da D x an be);exact⟨.int k (k.wrap (0 - n)),by simp_all[execOp,Op.unary,Op.intArith],hR.2 ⟨rfl,sS _ _⟩⟩
 ·cases h
theorem anK{i:Nat}(bp:∀ i,o.dst=some i->i<C.b3)(au:o.op=.extract x i)(h:(cR C.aW T bs (bj C.aW s.aD) o).run s.ab=some res):cT C o s res:=by
 simp  [cR,au]at h;split at h
 ·rename_i cB n f an;split at h
  ·simp  [c']at h;subst h;refine cT.pure (by grind) bp λa w kap F D be _=>?_;obtain⟨aI,E,M,al⟩:=da D x an be;simp_all[execOp,Instr.extract]
  ·cases h
 ·cases h
theorem anL(bp:∀ i,o.dst=some i->i<C.b3)(au:o.op=.nilCheck x)(h:(cR C.aW T bs (bj C.aW s.aD) o).run s.ab=some res):cT C o s res:=by
 simp only[cR,au]at h;split at h
 ·rename_i cB b g i an;simp only[aG.gW,aG.dF]at h;split at h
  ·rename_i bz;simp  at bz;simp  at h;subst h;refine cT.pure (by grind) bp λa w kap F D be _=>?_;have E:=da D x an be;have M:=E.2 bz.1.symm bz.2;simp_all[execOp]
  grind
 ·rename_i cB t d an;simp  [c']at h;subst h;refine cT.pure (by grind) bp λa w kap F D be _=>?_;obtain⟨p,bE,E,M⟩:=da D x an be;exact⟨_,by simp_all[execOp],p,bE,rfl,M⟩
 ·rename_i cB e p an;simp  [c']at h;subst h;refine cT.pure (by grind) bp λa w kap F D be hc=>?_;have E:=(eh rfl).1 (da D x an be);obtain⟨_,E⟩:=E;rcases E with⟨_,rfl⟩ | ⟨q,y,bE,bC,rfl,aO,aT⟩
  ·grind
  ·exact⟨_,by simp_all[execOp],q,bE,rfl,aO,aT⟩
 ·rename_i cB b g off an;simp only[aG.gW,aG.dF]at h;split at h
  ·rename_i bz;simp  at bz;simp  at h;subst h;refine cT.pure (by grind) bp λa w kap F D be _=>?_;have E:=da D x an be;have M:=E.2 bz.1.symm bz.2;simp_all[execOp]
  grind
 ·cases h
theorem uf(b off n:Nat):(⟨b,off,none⟩:Addr).add n=⟨b,off+n,none⟩:=by
 grind [Addr.add]
variable {f:Nat}
theorem Kz{P:Program}{t s:aa}{id AA b off:Nat}(h:cx P (.ae t) id)(aC:qd t f=some (s,AA)) :
  (Instr.fieldAt id (.pointer (some ⟨b,off,none⟩)) f).run P w=.ok (.pointer (some ⟨b,off+AA,none⟩)) w:=by
 obtain⟨gC,qg,E,M,al,a7,bR⟩:=h.field aC;simp  [Instr.fieldAt,ep E,M,Instr.sureAddr,fieldPlace,a7.size,bR,al,uf]
theorem anM(aU:ei C.P T){ty:Nat}(bp:∀ i,o.dst=some i->i<C.b3)(au:o.op=.fieldAddr ty x f)(h:(cR C.aW T bs (bj C.aW s.aD) o).run s.ab=some res):cT C o s res:=by
 simp only[cR,au]at h;split at h
 ·rename_i t aH;have dJ:=aU.cb aH (by simp);split at h
  ·rename_i s' AA aC;split at h
   ·rename_i cB b g off an;simp only[aG.gW,aG.dF]at h;split at h
    ·rename_i bz;simp  at bz;simp  at h;subst h;refine cT.pure (by grind) bp λa w kap F D be _=>?_;have E:=da D x an be;have M:=E.2 bz.1.symm bz.2;exact⟨_,by simp[execOp,au,M,Kz dJ aC],⟨E.1.1,rfl⟩,λ_ _=>rfl⟩
    grind
   ·rename_i cB b g i off an;simp only[aG.gW,aG.dF]at h;split at h
    ·rename_i bz;simp  at bz;simp  at h;subst h;refine cT.pure (by grind) bp λa w kap F D be _=>?_;have E:=da D x an be;obtain⟨M,al,a7⟩:=E.2 bz.1.symm bz.2;exact⟨_,by simp[execOp,au,a7,Kz dJ aC];rfl,⟨E.1.1,rfl⟩,λ_ _=>⟨M,al,by grind⟩⟩
    grind
   ·rename_i cB b g i an;simp only[aG.gW,aG.dF]at h;split at h
    ·rename_i bz;simp  at bz;simp  at h;subst h;refine cT.pure (by grind) bp λa w kap F D be _=>?_;have E:=da D x an be;obtain⟨M,al,a7⟩:=E.2 bz.1.1.symm bz.1.2;exact⟨_,by simp[execOp,au,a7,Kz dJ aC];rfl,⟨E.1.1,rfl⟩,λ_ _=>⟨M,al,by grind⟩⟩
    grind
   ·rename_i cB dO d an;split at h
    ·rename_i Dc;subst Dc;split at h
     ·rename_i s2 y bf;simp  [c']at h;subst h;refine cT.pure (by grind) bp λa w kap F D be _=>?_;obtain⟨p,bE,E,M,al⟩:=da D x an be;obtain⟨bI,c2,c3,rfl,aO,aT⟩:=YL dO al bf;rw[aC]at aT;cases aT;have ak:p=⟨p.block,p.off,none⟩:=by have:=M.2.1;cases p;grind
      rw[ak]at E;refine⟨_,by simp[execOp,au,E,Kz dJ aC],⟨p.block,p.off+bI.length,none⟩,c2,rfl,⟨M.1,rfl,λj aM=>?_⟩,aO⟩;have:=M.2.2 (bI.length+j) (by grind);grind
     ·cases h
    ·cases h
   ·cases h
  ·cases h
 ·cases h
theorem anN(aU:ei C.P T){ty:Nat}(bp:∀ i,o.dst=some i->i<C.b3)(au:o.op=.field ty x f)(h:(cR C.aW T bs (bj C.aW s.aD) o).run s.ab=some res):cT C o s res:=by
 simp  [cR,au]at h;split at h
 ·rename_i t aH;have dJ:=aU.cb aH (by simp);split at h
  ·rename_i cB dO d an;split at h
   ·rename_i Dc;subst Dc;split at h
    ·rename_i s2 y bf;simp  [c']at h;subst h;refine cT.pure (by grind) bp λa w kap F D be _=>?_;obtain⟨⟨cs,E,M⟩,al⟩:=da D x an be;simp  [Value.cells]at al;obtain⟨bI,c2,c3,e,aO,aT⟩:=YL dO al bf;obtain⟨gC,qg,f1,f2,f3,f4,f5⟩:=dJ.field aT;obtain⟨v,cn,cN⟩:=uc   f4 e aO;refine⟨v,?_,cN⟩;simp_all[execOp,Instr.field,ep,asAgg]
    ·cases h
   ·cases h
  ·cases h
 ·cases h
end
end Go.Fer
namespace Go.Fer
open Go.RowKit
variable {P:Program}
theorem cx.bP{e:aa}{id:TypeId}(h:cx P (.bP e) id):∃ i,P.underlying id=some (.pointer i)/\True:=by
 unfold cx at h;simp  [dh]at h;obtain⟨_,h⟩:=h;split at h
 ·rename_i i G;exact⟨i,G,trivial⟩
 grind
variable {l:List Nat}
theorem Y1{k:IntKind}{av:aN}{H:Nat->b_}{x:Int}(h:(en (.int k) av).run H=some (x,l)):av.oc.isSome=true:=by
 cases av with
 | val dO y=>
  simp  [en,aQx]at h;obtain⟨z,bz,_⟩:=h;obtain⟨rfl,_⟩:=mU bz;rfl
 | lg v=>simp[en,l',aa.gb,eK,F7]at h
 | _=>simp[en,l',aa.gb,eK,aG.none]at h
theorem Y2{av:aN}{H:Nat->b_}{x:List UInt8}(h:(en .str av).run H=some (x,l)):av.w9.isSome=true:=by
 cases av with
 | val dO y=>
  simp  [en,aQx]at h;obtain⟨z,bz,_⟩:=h;obtain⟨rfl,_⟩:=mU bz;rfl
 | lg v=>simp[en,l',aa.gb,eK,F7]at h
 | _=>simp[en,l',aa.gb,eK,aG.none]at h
variable {w:World}{ty:TypeId}
theorem KA{i:TypeId}(G:P.underlying ty=some (.pointer i))(a:Option Addr)(d:Nat):(Op.equalIn (d+1) ty (.pointer a) (.pointer none)).run P w=.ok a.isNone w:=by
 cases a<;>simp[Op.equalIn,ep G]
inductive Gp:Value->Value->Prop where
 | bool (a b:Bool):Gp (.bool a) (.bool b)
 | agg (a b:Array Value):Gp (.agg a) (.agg b)
 | bP (a b:Option Addr):Gp (.pointer a) (.pointer b)
variable {x:Operand}{y:Operand}
theorem anO{u oh:Value}{e:Bool}(ak:Gp u oh)(h:(Op.equalIn 10000 ty u oh).run P w=.ok e w)
  (aB:∀ a b,u=.agg a->oh=.agg b->P.eqGuardType P.depth ty=false) :
  (do eqGuard .eql ty x y u oh;binOp .eql ty u oh:Sem Value).run P w=.ok (.bool e) w/\(do eqGuard .neq ty x y u oh;binOp .neq ty u oh:Sem Value).run P w=.ok (.bool (!e)) w:=by
 cases ak with
 | bool a b=>constructor<;>simp[anB,binOp,Op.equal,Op.maxDepth,h]
 | agg a b=>constructor<;>simp[run_eqGuard_agg _ _ _ _ _ _ _ (aB a b rfl rfl),binOp,Op.equal,Op.maxDepth,h]
 | bP a b=>constructor<;>simp[anC,binOp,Op.equal,Op.maxDepth,h]
section
variable {C:cJ} {T:Nat->aa} {bs:Nat->Option aQ} {o:Oper} {s:aE} {res:eC}
variable {a:Act}{kap:Nat->bL}{F:Nat->Prop}{v:Value}
theorem Gq(D:bx C s a w kap F){t:aa}{av:aN}{x:t.aq}(h:(en t av).run s.ab=some (x,l))(ag:bM C.P s.ab kap F w av v) :
  ft C.P t (λ_=>True) w v x:=oP D.bH (λ_ _=>trivial) h (λ_ _ _=>trivial) ag
theorem anP{op:BinOp}{e9 kW:aN}{c:Prop}{v:aN}(aU:ei C.P T)(D:bx C s a w kap F)
  (h:(Ga op (T ty) e9 kW).run s.ab=some (c,v)) {u oh:Value} (an:bM C.P s.ab kap F w e9 u) (bf:bM C.P s.ab kap F w kW oh) (anQ:¬(e9.oc.isSome=true/\kW.oc.isSome=true)) (anR:¬(e9.w9.isSome=true/\kW.w9.isSome=true)) :
  ∃ r,(do eqGuard op ty x y u oh;binOp op ty u oh:Sem Value).run C.P w=.ok r w/\bM C.P s.ab kap F w v r:=by
 unfold Ga at h;rw[aG.gf]at h;simp only[amU]at h;obtain⟨e,he,ag⟩:=h;simp  at ag;have key:Gp u oh/\(Op.equalIn 10000 ty u oh).run C.P w=.ok e w/\(∀ a b,u=.agg a->oh=.agg b->C.P.eqGuardType C.P.depth ty=false):=by
  split at he
  ·rename_i a1 p bB aH;obtain⟨i,G,_⟩:=(aU.cb aH (by simp)).bP;subst bf;simp  at he;subst he;obtain⟨_,oR⟩:=(eh rfl).1 an;rcases oR with⟨oR,rfl⟩ | ⟨q,z,bE,oR,rfl,_⟩
   ·obtain rfl:=(aQC oR).1;exact⟨.bP _ _,KA G none 9999,λ_ _ h=>by simp⟩
   ·obtain rfl:=(aQC oR).1;exact⟨.bP _ _,KA G (some q) 9999,λ_ _ h=>by simp⟩
  ·rename_i a1 bX q9 aH;obtain⟨i,G,_⟩:=(aU.cb aH (by simp)).bP;subst bf;simp  at he;subst he;obtain⟨q,bE,rfl,_⟩:=an;exact⟨.bP _ _,KA G (some q) 9999,λ_ _ h=>by simp⟩
  ·rename_i a1 b g off aH;obtain⟨i,G,_⟩:=(aU.cb aH (by simp)).bP;subst bf;simp only[aG.gW,aG.dF]at he;split at he
   ·rename_i bz;simp  at bz;simp  at he;subst he;have:=an.2 bz.1.symm bz.2;subst this;exact⟨.bP _ _,KA G (some _) 9999,λ_ _ h=>by simp⟩
   grind
  ·split at he
   ·rename_i kE;simp  at kE;simp only[aG.gf,amU,aG.dF,amZ]at he;obtain⟨⟨mD,fC⟩,E,⟨nH,fR⟩,M,rfl⟩:=he;have cn:=Gq D E an;have cN:=Gq D M bf;generalize pr:T ty=t at *
    cases t with
    | bool=>
     have dJ:=aU.cb pr (by simp);refine⟨?_,(P9 .bool 10000 rfl (by decide)).1 dJ cn cN,?_⟩
     ·rw[h2.1 cn,h2.1 cN];exact .bool _ _
     simp_all
    | int k=>exact (anQ ⟨Y1 E,Y1 M⟩).elim
    | str=>exact (anR ⟨Y2 E,Y2 M⟩).elim
    | ae t=>
     have dJ:=aU.cb pr (by simp);refine⟨?_,(P9 (.ae t) 10000 kE.1 (by omega)).1 dJ cn cN,λ_ _ _ _=>dJ.Gm.2.1⟩;obtain⟨⟨_,rfl,_⟩,_⟩:=cn;obtain⟨⟨_,rfl,_⟩,_⟩:=cN;exact .agg _ _
    | aw t1 bX=>have:=aU.cb pr (by simp);unfold cx at this;simp  [dh]at this
    | dc=>cases kE.1
    | slice _=>cases kE.1
    | array _ _=>cases kE.1
    | bP _=>cases kE.1
    | map _ _=>cases kE.1
    | fn _ _=>cases kE.1
    | cI _=>cases kE.1
    | eY=>cases kE.1
    | cP _=>cases kE.1
   ·cases he
 obtain⟨aO,aT,b7⟩:=key;have:=anO (x:=x) (y:=y) aO aT b7;cases op<;>simp only[reduceCtorEq,aQx]at ag;case eql=>obtain⟨rfl,rfl⟩:=ag;exact⟨_,this.1,h2.2 rfl⟩
 case neq=>obtain⟨rfl,rfl⟩:=ag;exact⟨_,this.2,h2.2 rfl⟩
theorem anS(aU:ei C.P T){op:BinOp}{mW:TypeId}(bp:∀ i,o.dst=some i->i<C.b3)(au:o.op=.binOp op ty x y mW)(h:(cR C.aW T bs (bj C.aW s.aD) o).run s.ab=some res):cT C o s res:=by
 simp  [cR,au]at h;have qi:∀ c,o.op≠.defer c:=by grind
 have ps:∀ (a:Act) (w:World) (r:Value),(do eqGuard op ty x y (a.eval x) (a.eval y);binOp op ty (a.eval x) (a.eval y)).run C.P w=.ok r w->(execOp a.eval o).run C.P w=.ok (.value r) w:=by
  intro a w r D;simp only[execOp,au,Sem.run_bind]at D ⊢;simp_all
 split at h
 ·rename_i k m k' n an bf;have fin:∀ (c:Prop) (v:aN),(∀ (w:World) kap F,c->gQ k m->∃ r,(binOp op ty (.int k m) (.int k' n)).run C.P w=.ok r w/\bM C.P s.ab kap F w v r)->
    res=⟨(use (bj C.aW s.aD x)).1/\(use (bj C.aW s.aD y)).1,c,v,[]⟩->cT C o s res:=by
   intro c v aj gY;subst gY;refine cT.pure qi bp λa w kap F D be hc=>?_;have E:=qh (da D x rfl be.1) an;have M:=qh (da D y rfl be.2) bf;obtain⟨r,cn,cN⟩:=aj w kap F hc E.2;exact⟨r,ps a w r (by simp[E.1,M.1,YZ,cn]),cN⟩
  split at h
  ·split at h
   ·rename_i c v ax;simp  [c',amZ]at h;exact fin c v (λw kap F hc aZ=>Y0 ax hc aZ) h.symm
   ·cases h
  ·split at h
   ·rename_i c v ax;simp  [c',amZ]at h;exact fin c v (λw kap F hc aZ=>Y0 ax hc aZ) h.symm
   ·cases h
  ·split at h
   ·rename_i KB;subst KB;split at h
    ·rename_i c v ax;simp  [c',amZ]at h;exact fin c v (λw kap F hc aZ=>anD ax hc aZ) h.symm
    ·cases h
   ·cases h
 ·split at h
  ·rename_i m n an bf;split at h
   ·rename_i c v ax;simp  [c',amZ]at h;subst h;refine cT.pure qi bp λa w kap F D be hc=>?_;have E:=P8 (da D x rfl be.1) an;have M:=P8 (da D y rfl be.2) bf;obtain⟨r,cn,cN⟩:=anE           (t:=ty) ax hc;exact⟨r,ps a w r (by simp[E.1,M.1,anA,cn]),cN⟩
   ·cases h
  ·simp only[c',aG.gf,amU,aG.dF,amZ]at h;obtain⟨⟨c,v⟩,ax,rfl⟩:=h;refine cT.pure qi bp λa w kap F D be hc=>?_;obtain⟨r,cn,cN⟩:=anP (x:=x) (y:=y) aU D ax (da D x rfl be.1) (da D y rfl be.2)
    (λ⟨aF,bB⟩=>by
     obtain⟨⟨k,m⟩,aF⟩:=Option.isSome_iff_exists.1 aF;obtain⟨⟨k',dz⟩,bB⟩:=Option.isSome_iff_exists.1 bB;grind)
    (λ⟨aF,bB⟩=>by
     obtain⟨m,aF⟩:=Option.isSome_iff_exists.1 aF;obtain⟨dz,bB⟩:=Option.isSome_iff_exists.1 bB;grind)
   grind
theorem AF{b:Nat}{cs:Array Value}{T:TypeId}{fP:z21'}(h:w.heap[b]?=some (.cells cs T fP))(off:Nat):w.cell? ⟨b,off,none⟩=cs[off]?:=by
 simp[World.cell?,h]
theorem Y3{t:aa}{id:TypeId}(h:cx P t id)(ai:t.isAgg=false){p:Addr}(ag:w.cell? p=some v):(loadVar id p).run P w=.ok v w:=by
 simp[loadVar,Da h,ai,ag]
theorem Y4(aU:ei C.P T){e9 v:aN}{u:Value}(D:bx C s a w kap F)(h:(C8 (T ty) e9).run s.ab=some v)(an:bM C.P s.ab kap F w e9 u) :
  ∃ r,(Instr.loadAt ty u).run C.P w=.ok r w/\bM C.P s.ab kap F w v r:=by
 generalize pr:T ty=t at *
 cases e9 with
 | eL dO d=>
  simp only[C8,aG.dF]at h;split at h
  ·rename_i hc;obtain⟨rfl,hc⟩:=hc;simp  at h;subst h;obtain⟨p,bE,rfl,M,al⟩:=an;have dJ:=aU.cb pr (by intro e;subst e;cases hc);obtain⟨r,cn,cN⟩:=Ky dJ M.P7 al;exact⟨r,by simp[Instr.loadAt,Instr.sureAddr,cn],cN⟩
  grind
 | eZ b g off=>
  simp only[C8,aG.gW,aG.dF]at h;split at h
  ·rename_i aB;split at h
   ·rename_i t0 f cm;have ag:=an.2 aB.symm (by rw[cm];rfl);subst ag;have a6:=D.bH b;unfold c1 at a6;rw[cm]at a6;obtain⟨cs,ih,bI,c2,c3⟩:=a6;split at h
    ·rename_i ai;split at h
     ·rename_i P';simp  at h;subst h;have dJ:=aU.cb pr (by intro e;subst e;cases ai);have Qa:t.isAgg=false:=by cases t<;>simp_all[aa.gb,aa.isAgg]
      refine⟨cs.getD off Go.undef,?_,(c3 off P').1⟩;refine Y3 dJ Qa ?_;rw[AF bI];simp_all
     grind
    ·split at h
     ·rename_i Y5;split at h
      ·simp  at h;subst h;have dJ:=aU.cb pr (by intro e;subst e;cases Y5);let aI:=(List.range t.size).map λj=>cs.getD (off+j) Go.undef;refine⟨.agg aI.toArray,?_,aI,rfl,by grind,λi G=>?_⟩
       ·simp  [Instr.loadAt,Instr.sureAddr,loadVar,Da dJ,Y5,dJ.size];rw[run_loadCells w ⟨(kap b).ab,off,none⟩ t.size (λj=>cs.getD (off+j) Go.undef)]
        ·rfl
        ·intro j aM;rw[uf,AF bI];simp[c2,show off+j<t0.size by omega]
       grind
      grind
     grind
   ·rename_i t0 y cm;have ag:=an.2 aB.symm (by rw[cm];rfl);subst ag;have a6:=D.bH b;unfold c1 at a6;rw[cm]at a6;obtain⟨bE,d1,d2⟩:=a6;split at h
    ·rename_i hc;simp  at h;obtain⟨z,bz,rfl⟩:=h;obtain⟨bI,c2,c3,rfl,c6,cM⟩:=YM t0 d2 bz;have dJ:=aU.cb pr (by intro e;subst e;cases hc);have dj:mV w ⟨(kap b).ab,off,none⟩ c2:=by
      refine⟨λ_=>rfl,λj aM=>?_⟩;have:=d1.2.2 (bI.length+j) (by grind);grind
     obtain⟨r,cn,cN⟩:=Ky dJ dj cM;exact⟨r,by simp[Instr.loadAt,Instr.sureAddr,cn],cN⟩
    grind
   grind
  grind
 | q3 b g i off=>
  simp only[C8,aG.gW,aG.dF]at h;split at h
  ·rename_i aB;have fin:∀ (e:aa) (xs:List e.aq),(s.ab b).body.gT=true->(s.ab b).body.len=xs.length->(s.ab b).body.gU=e.size->
     (∀ (G:i<xs.length),(kap b).fT=false->∃ bE,mV w ⟨(kap b).ab,(kap b).off+i*e.size,none⟩ bE/\cw C.P e F w bE xs[i])->
     (if t.gb||t.isAgg then (vu e (xs.getD i e.dW) off t).map (.val t) else none)=some v->∃ r,(Instr.loadAt ty u).run C.P w=.ok r w/\bM C.P s.ab kap F w v r:=by
    intro e xs aZ hlen KC hV ag;split at ag
    ·rename_i hc;simp only[aQX]at ag;obtain⟨z,bz,rfl⟩:=ag;obtain⟨aO,aT,b7⟩:=an.2 aB.symm aZ;subst b7;rw[hlen]at aO;obtain⟨bE,d1,d2⟩:=hV aO aT;have Qb:xs.getD i e.dW=xs[i]:=by grind
     rw[Qb]at bz;obtain⟨bI,c2,c3,rfl,c6,cM⟩:=YM e d2 bz;have dJ:=aU.cb pr (by intro e;subst e;cases hc);have dj:mV w ⟨(kap b).ab,(kap b).off+i*(s.ab b).body.gU+off,none⟩ c2:=by
      refine⟨λ_=>rfl,λj aM=>?_⟩;have:=d1.2 (bI.length+j) (by grind);grind
     obtain⟨r,cn,cN⟩:=Ky dJ dj cM;exact⟨r,by simp[Instr.loadAt,Instr.sureAddr,cn],cN⟩
    grind
   have a6:=D.bH b;unfold c1 at a6;split at h
   ·rename_i e xs cm;rw[cm]at a6;refine fin e xs (by rw[cm];rfl) (by rw[cm];rfl) (by rw[cm];rfl) (λG aA=>?_) h;obtain⟨cs,ih,bI,c2,c3,c4,c5⟩:=a6.2 aA;obtain⟨bE,d1,d2⟩:=c5 i G;exact⟨bE,⟨λ_=>rfl,λj aM=>by rw[AF bI];grind⟩,d2⟩
   ·rename_i e xs cm;rw[cm]at a6;refine fin e xs (by rw[cm];rfl) (by rw[cm];rfl) (by rw[cm];rfl) (λG aA=>?_) h;simp  [mA,bL.slice,aA,aQv]at a6;obtain⟨a',cap,aF,m1,m2,m3,m4⟩:=a6;obtain⟨rfl,_,rfl⟩:=aF;obtain⟨eH,ej,jJ⟩:=m4 _ rfl (by omega);obtain⟨bE,d1,d2⟩:=jJ i G;exact⟨bE,d1.P7,d2⟩
   grind
  grind
 | _=>cases h
end
end Go.Fer
namespace Go.Fer
open Go.RowKit
section
variable {C:cJ} {T:Nat->aa} {bs:Nat->Option aQ} {o:Oper} {s:aE} {res:eC}
theorem anT(aU:ei C.P T){ty:TypeId}{x:Operand}(bp:∀ i,o.dst=some i->i<C.b3)(au:o.op=.load ty x)(h:(cR C.aW T bs (bj C.aW s.aD) o).run s.ab=some res):cT C o s res:=by
 simp  [cR,au]at h;split at h
 ·rename_i cB b g i an;simp  [YV,aG.dF]at h;split at h
  ·rename_i e xs oe v cm;split at h
   ·rename_i hc;obtain⟨aB,ai⟩:=hc;simp  at h;subst h;refine cT.pure (by grind) bp λa w kap F D be G=>?_;subst G;have E:=(da D x an be).2 aB.symm (by rw[cm];rfl);have a6:=D.bH b;unfold c1 at a6;rw[cm]at a6 E;obtain⟨_,cs,ih,bI,c2,c3,c4,c5,pt,rW,yA⟩:=a6;have dJ:=aU.cb   rfl (by intro e;rw[e]at ai;cases ai);have Qa:(T ty).isAgg=false:=by cases aH:T ty<;>simp_all[aa.gb,aa.isAgg]
    refine⟨_,?_,rW⟩;have oS:w.cell? ⟨(kap b).ab,(kap b).off+i,none⟩=some (cs.getD ((kap b).off+i) Go.undef):=by
     rw[AF bI];have:(kap b).off+i<cs.size:=by
      grind
     simp_all
    have ak:a.eval x=.pointer (some ⟨(kap b).ab,(kap b).off+i,none⟩):=by rw[E.2.2];simp[ca.gU,c5.1]
    simp[execOp,au,ak,Instr.loadAt,Instr.sureAddr,Y3 dJ Qa oS]
   grind
  grind
 ·rename_i cB e9 _ an;simp  [c',aG.gf,amU,amZ]at h;obtain⟨v,ag,rfl⟩:=h;refine cT.pure (by grind) bp λa w kap F D be _=>?_;obtain⟨r,cn,cN⟩:=Y4 aU D ag (da D x an be);exact⟨r,by simp[execOp,au,cn],cN⟩
variable {P:Program}{id:TypeId}
theorem cx.str(h:cx P .str id):P.underlying id=some .string:=by
 unfold cx at h;simp  [dh]at h;grind
theorem cx.int{P:Program}{k:IntKind}{id:TypeId}(h:cx P (.int k) id):P.underlying id=some (.int k):=by
 unfold cx at h;simp  [dh]at h;grind
theorem cx.Y6{t:aa}(h:cx P t id):PW P t id:=λn s aj=>by
 subst aj;unfold cx at h;simp only[dh,amX,YO]at h;have h:=h.1.1.1.2;split at h
 ·rename_i i hu;rw[hu,eq_of_beq h]
 ·cases h
variable {e:aa}
theorem cx.KD(h:cx P e id):w4 P e id:=λk aj=>by
 subst aj;obtain⟨i,z,E,M,_⟩:=nF h.nE;exact⟨h.int,by simp[Program.cellsOf,E,M,aa.size]⟩
variable {n:Nat}
theorem cx.bo(h:cx P (.array n e) id):∃ i,P.underlying id=some (.array n i)/\cx P e i/\e.size≠0:=by
 unfold cx at h;simp  [dh]at h;obtain⟨_,h⟩:=h;split at h
 ·rename_i m i hu;simp  at h;obtain⟨⟨rfl,M⟩,al⟩:=h;exact⟨i,hu,M,al⟩
 grind
theorem anU{gR:List (List Value)}{m:Nat}(h:∀ c∈gR,c.length=m){i:Nat}(G:i<gR.length):∃ p q,gR.flatten=p++(gR[i]++q)/\p.length=i*m:=by
 refine⟨(gR.take i).flatten,(gR.drop (i+1)).flatten,?_,?_⟩
 ·rw[<-aR6,<-aQy G,<-List.flatten_append,aRP]
 ·have a7:(gR.take i).map List.length=List.replicate i m:=List.eq_replicate_iff.2 ⟨by grind,λx an=>by
   grind⟩
  simp_all
variable {F:Nat->Prop}{w:World}
theorem Qc{cs:List Value}{xs:List e.aq}(h:cw P (.array n e) F w cs xs){i:Nat}(G:i<n):∃ p c q,cs=p++(c++q)/\p.length=i*e.size/\cw P e F w c (xs.getD i e.dW):=by
 obtain⟨gR,rfl,E,M,al⟩:=h;obtain⟨p,q,aO,aT⟩:=anU   (λc hc=>by
  obtain⟨j,aM,rfl⟩:=List.mem_iff_getElem.1 hc;exact jT e (al j (by omega) aM)) (show i<gR.length by omega)
 grind
theorem anV(aU:ei C.P T){ty:TypeId}{x i:Operand}(bp:∀ i,o.dst=some i->i<C.b3)(au:o.op=.index ty x i)(h:(cR C.aW T bs (bj C.aW s.aD) o).run s.ab=some res):cT C o s res:=by
 simp only[cR,au]at h;split at h
 ·rename_i l k n aH an G;simp only[c',aG.dF,amZ]at h;subst h;refine cT.pure (by grind) bp λa w kap F D be hc=>?_;have E:=P8 (da D x rfl be.1) an;have M:=qh (da D i rfl be.2) G;have dJ:=(aU.cb aH (by simp)).str;have dx:n.toNat<l.length:=by omega
  refine⟨.int .u8 ((l.getD n.toNat 0).toNat),?_,hR.2 ⟨rfl,?_⟩⟩
  ·have e:(⟨l.toArray⟩:ByteArray)[n.toNat]?=some (l.getD n.toNat 0):=by
    have ax:=by simpa [ByteArray.size]using dx
    rw[getElem?_pos (⟨l.toArray⟩:ByteArray) n.toNat ax];simp;show (⟨l.toArray⟩:ByteArray).data[n.toNat]=_;grind
   simp[execOp,au,Instr.index,E.1,M.1,asIntOf,ep dJ,hc.1,e]
  ·have:=(l.getD n.toNat 0).toNat_lt;constructor
   ·have:IntKind.u8.min=0:=by decide
    omega
   ·have:IntKind.u8.max=255:=by decide
    omega
 ·rename_i m e k n aH G;split at h
  ·rename_i dz a1 xs an;split at h
   ·rename_i he;obtain⟨rfl,rfl⟩:=he;simp  [c',amZ]at h;subst h;refine cT.pure (by grind) bp λa w kap F D be hc=>?_;have E:bM C.P s.ab kap F w (use (bj C.aW s.aD x)).2 (a.eval x):=da D x rfl be.1;rw[an]at E;have M:=qh (da D i rfl be.2) G;obtain⟨j,aM,ug,_⟩:=(aU.cb aH (by simp)).bo;obtain⟨⟨cs,ag,q8⟩,q_⟩:=E;rw[ag]at q_;obtain⟨p,c,q,aF,bB,c7⟩:=Qc q_ (i:=n.toNat) (by omega);obtain⟨v,dT,eo⟩:=uc ug (cs:=cs) aF c7;refine⟨v,?_,eo⟩;rw[bB]at dT;simp[execOp,au,Instr.index,ag,M.1,asIntOf,ep aM,hc.1,hc.2,ug.size,dT]
   ·cases h
  ·rename_i k' f an;split at h
   ·simp  [c',amZ]at h;subst h;refine cT.pure (by grind) bp λa w kap F D be hc=>?_;have E:bM C.P s.ab kap F w (use (bj C.aW s.aD x)).2 (a.eval x):=da D x rfl be.1;rw[an]at E;have M:=qh (da D i rfl be.2) G;obtain⟨j,aM,ug,cQ⟩:=(aU.cb aH (by simp)).bo;obtain⟨aI,ag,ai,gA⟩:=E;have dx:n.toNat*e.size+e.size<=aI.length:=by
     have:(n.toNat+1)*e.size<=m*e.size:=am4 _ (by omega);grind
    by_cases aZ:e.isAgg=true
    ·simp  [if_pos aZ];refine⟨_,by simp[execOp,au,Instr.index,ag,M.1,asIntOf,ep aM,hc.1,hc.2,ug.size,YY ug aZ];rfl,(aI.toArray.extract (n.toNat*e.size) (n.toNat*e.size+e.size)).toList,by simp,?_,λq bC=>?_⟩<;>grind
    ·simp  [if_neg aZ];have a7:=gA (n.toNat*e.size) (by omega);refine⟨aI.getD (n.toNat*e.size) Go.undef,?_,a7.1⟩;have aB:aI.toArray[n.toNat*e.size]?=some (aI.getD (n.toNat*e.size) Go.undef):=by
      grind
     simp[execOp,au,Instr.index,ag,M.1,asIntOf,ep aM,hc.1,hc.2,ug.size,YX ug (by grind) aB]
   ·cases h
  ·cases h
 ·cases h
theorem uh:∀ {l:List aN},kk l->∀ i,i<l.length->(use (l.getD i .undef)).1
 | [],_,i,G=>by grind
 | a::l,h,0,_=>by
  cases a<;>first | trivial | exact h.1
 | a::l,h,i+1,G=>by
  have e3:kk l:=by cases a<;>first | exact h | exact h.2
  have:=uh e3 i (by grind);grind
theorem anW{k:bL}(h:k.fT=true->n=0):∃ a cap,k.slice n=.slice a n cap:=by
 unfold bL.slice;split<;>simp_all
variable {a:Act}{kap:Nat->bL}{b:Nat}
theorem Dd(D:bx C s a w kap F)(aZ:(s.ab b).body.gT=true):((kap b).fT=true->(s.ab b).body.len=0)/\(s.ab b).body.len<2 ^ 63:=by
 have a6:=D.bH b;unfold c1 at a6;cases cm:(s.ab b).body with
 | bo e xs=>
  rw[cm]at a6;refine⟨λaA=>by rw[a6.1 aA];rfl,?_⟩;simp  [ca.len];cases aA:(kap b).fT with
  | true=>rw[a6.1 aA];simp
  | false=>obtain⟨cs,ih,bI,c2,c3,c4,c5⟩:=a6.2 aA;omega
 | jD e xs=>
  rw[cm]at a6;simp  [mA,cw,bL.slice]at a6;simp  [ca.len];grind
 | ie e xs i v=>
  rw[cm]at a6;obtain⟨aV,cs,ih,bI,c2,c3,c4,_⟩:=a6;exact⟨λaA=>(by grind),(by simp  [ca.len];omega)⟩
 | _=>rw[cm]at aZ;cases aZ
theorem Qd(D:bx C s a w kap F)(aZ:(s.ab b).body.gT=true)(aA:(kap b).fT=false):(s.ab b).body.len<=(kap b).cap:=by
 have a6:=D.bH b;unfold c1 at a6;cases cm:(s.ab b).body with
 | bo e xs=>
  rw[cm]at a6;obtain⟨cs,ih,bI,c2,c3,c4,c5⟩:=a6.2 aA;exact c3
 | jD e xs=>
  rw[cm]at a6;simp only[mA,bL.slice,aA,aQv]at a6;obtain⟨a',cap,aF,m1,m2,m3,m4⟩:=a6;simp  at aF;simp  [ca.len];omega
 | ie e xs i v=>
  rw[cm]at a6;obtain⟨aV,cs,ih,bI,c2,c3,c4,_⟩:=a6;exact c3
 | _=>rw[cm]at aZ;cases aZ
variable {v:Value}
theorem anX(D:bx C s a w kap F){ba G:Nat}(aZ:(s.ab b).body.gT=true)(E:ba<=G)(M:G<=(s.ab b).body.len)(ax:Ki (kap b) (s.ab b).body.gU ba G v) :
  ∃ a cap,v=.slice a (G - ba) cap/\G - ba<2 ^ 63:=by
 have aA:=Dd D aZ;rcases ax with⟨aO,rfl⟩ | ⟨aO,o,rfl,_⟩
 ·simp_all
 grind
theorem De(h:n<2 ^ 63):gQ .i64 (n:Int):=by
 unfold gQ;have E:IntKind.i64.min=-9223372036854775808:=by decide
 have M:IntKind.i64.max=9223372036854775807:=by decide
 omega
theorem cx.mp{k v:aa}(h:cx P (.map k v) id):∃ i j,P.underlying id=some (.map i j)/\cx P k i/\cx P v j:=by
 unfold cx at h;simp  [dh]at h;obtain⟨_,h⟩:=h;split at h
 ·rename_i i j G;simp  at h;exact⟨i,j,G,h.1,h.2⟩
 grind
theorem anY(aU:ei C.P T){t:TypeId}{e9:aN}{c:Prop}{n:Int}{u:Value}(D:bx C s a w kap F)(h:(Kp (T t) e9).run s.ab=some (c,n))(hc:c)(an:bM C.P s.ab kap F w e9 u)(ty:TypeId) :
  (Builtin.len_ #[t] ty #[u]).run C.P w=.ok (.int .i64 n) w/\gQ .i64 n:=by
 have Qe:∀ e a' m cap,T t=.slice e->u=.slice a' m cap->m=n->m<2 ^ 63->(Builtin.len_ #[t] ty #[u]).run C.P w=.ok (.int .i64 n) w/\gQ .i64 n:=by
  intro e a' m cap aH hu hm dx;obtain⟨i,G,_⟩:=(aU.cb aH (by simp)).sl;subst hu;rw[<-hm];exact⟨by simp[Builtin.len_,ep G,goInt],De dx⟩
 have Y7:∀ k v r es clk m,T t=.map k v->u=.map (some r)->w.heap[r]?=some (.map es clk)->es.size=m->m=n->b2 m->(Builtin.len_ #[t] ty #[u]).run C.P w=.ok (.int .i64 n) w/\gQ .i64 n:=by
  intro k v r es clk m aH hu hw rX hm dx;obtain⟨i,j,G,_⟩:=(aU.cb aH (by simp)).mp;subst hu;rw[<-hm,<-rX];unfold b2 at dx;refine⟨?_,De (by omega)⟩;simp[Builtin.len_,ep G,goInt,getObj,Sem.run,hw]
 unfold Kp at h;split at h
 ·split at h
  ·simp  at h;obtain⟨_,an⟩:=(eh rfl).1 an;obtain⟨a',cap,aF,m1,m2,m3,m4⟩:=an;grind
  ·simp  at h;simp  [bM]at an;grind
  ·simp only[aG.gW,aG.dF]at h;split at h
   ·rename_i bz;simp  at bz;have ag:=an.2 bz.1.symm bz.2;have aA:=Dd D bz.2;obtain⟨a',cap,he⟩:=anW   aA.1;grind
   grind
  ·simp only[aG.gW,aG.dF]at h;split at h
   ·rename_i bz;simp  at bz;obtain⟨⟨aO,aT⟩,b7⟩:=an.2 bz.1.symm bz.2;obtain⟨a',cap,he,dx⟩:=anX D bz.2 aO aT b7;grind
   grind
  ·cases h
 ·rename_i aH;split at h
  ·rename_i xs;simp  at h;obtain⟨rfl,dx⟩:=lf.1 an;have dJ:=(aU.cb aH (by simp)).str;rw[<-h.2];have ax:ByteArray.size ⟨xs.toArray⟩=xs.length:=by rfl
   exact⟨by simp[Builtin.len_,ep dJ,goInt,ax],De (by omega)⟩
  ·cases h
 ·rename_i k v aH;split at h
  ·simp only[aG.dF,amZ,aQx]at h;obtain⟨rfl,h⟩:=h;obtain⟨_,an⟩:=(eh rfl).1 an;rcases an with⟨aF,rfl⟩ | ⟨r,es,clk,aF,m1,m2,m3,_⟩
   ·obtain rfl:=(aQC aF).1;obtain⟨i,j,G,_⟩:=(aU.cb aH (by simp)).mp;rw[<-h];exact⟨by simp[Builtin.len_,ep G,goInt],De (by simp)⟩
   grind
  ·rename_i b g;simp only[aG.gW,aG.dF]at h;split at h
   ·rename_i aB;split at h
    ·rename_i k' iA es cm;simp only[amZ,aQx]at h;obtain⟨rfl,h⟩:=h;have a6:=D.bH b;unfold c1 at a6;rw[cm]at a6;obtain⟨ms,clk,c6,cM⟩:=a6;exact Y7 k v _ ms clk es.length aH (an.2 aB.symm (by rw[cm];rfl)) c6 cM.1 h hc
    ·rename_i k' iA es cm;simp only[amZ,aQx]at h;obtain⟨rfl,h⟩:=h;have a6:=D.bH b;unfold c1 at a6;rw[cm]at a6;rcases a6 with⟨aF,_⟩ | ⟨r,ms,clk,aF,mT,c6,cM,_⟩
     ·grind
     ·simp  at aF;subst aF;exact Y7 k v _ ms clk es.length aH (an.2 aB.symm (by rw[cm];rfl)) c6 cM h hc
    grind
   grind
  ·cases h
 ·cases h
variable {b:Builtin}{ds:Array TypeId}
theorem sT{args:Array Operand}{w':World}(au:o.op=.call { callee:=.builtin b,args:=args,argTypes:=ds })
  (h:(builtin b ds o.type (args.map fun | .const _=>true | _=>false) (args.map a.eval)).run C.P w=.ok (.value v) w'):(execOp a.eval o).run C.P w=.ok (.value v) w':=by
 simp  [execOp,au,resolve,invoke];omega
theorem anZ(aU:ei C.P T){args:Array Operand}(bp:∀ i,o.dst=some i->i<C.b3)(au:o.op=.call { callee:=.builtin .len,args:=args,argTypes:=ds })(h:(cR C.aW T bs (bj C.aW s.aD) o).run s.ab=some res):cT C o s res:=by
 obtain⟨args⟩:=args;obtain⟨ds⟩:=ds;simp  [cR,au,pq,Gd]at h;split at h
 ·rename_i x t;simp only[c',aG.gf,amU,aG.dF,amZ]at h;obtain⟨⟨c,n⟩,aA,rfl⟩:=h;refine cT.pure (by grind) bp λa w kap F D be hc=>?_;obtain⟨E,M⟩:=anY aU D aA hc (da D x rfl be) o.type;refine⟨_,sT au ?_,hR.2 ⟨rfl,M⟩⟩;simp[builtin,E]
 ·cases h
theorem an0(aU:ei C.P T){args:Array Operand}(bp:∀ i,o.dst=some i->i<C.b3)(au:o.op=.call { callee:=.builtin .cap,args:=args,argTypes:=ds })(h:(Gf T (bj C.aW s.aD) args.toList ds.toList).run s.ab=some res):cT C o s res:=by
 obtain⟨args⟩:=args;obtain⟨ds⟩:=ds;simp  [Gf]at h;split at h
 ·rename_i x t;split at h
  ·rename_i e cB aH hu;simp  [c',amZ]at h;subst h;refine cT.pure (by grind) bp λa w kap F D be hc=>?_;have ag:a.eval x=.slice none 0 0:=da D x hu be;obtain⟨i,G,_⟩:=(aU.cb aH (by simp)).sl;refine⟨.int .i64 0,sT au ?_,hR.2 ⟨rfl,by decide⟩⟩;simp[builtin,Builtin.cap_,ag,ep G,goInt]
  ·cases h
 ·cases h
theorem Y8{a:Act}{w:World}{kap:Nat->bL}{F:Nat->Prop}(D:bx C s a w kap F){k:IntKind}:∀ (l:List Operand) {cA:Prop} {jH:z1'},qe (bj C.aW s.aD) k l=some (cA,jH)->cA->l.map a.eval=jH.map (Value.int k)/\∀ n∈jH,gQ k n
 | [],_,_,h,_=>by cases h
 | [x],cA,jH,h,be=>by
  simp  [qe]at h;split at h
  ·rename_i k' n an;split at h
   ·cases h;have E:=qh (da D x rfl be) an;grind
   grind
  grind
 | x::y::l,cA,jH,h,be=>by
  simp  [qe]at h;split at h
  ·rename_i k' n aMa aMb an ai;split at h
   ·cases h;have E:=qh (da D x rfl be.1) an;have M:=Y8 D (y::l) ai be.2;grind
   grind
  grind
theorem Qf{k:IntKind}:∀ (jH:z1') (m:Int),gQ k m->(∀ n∈jH,gQ k n)->((jH.map (Value.int k)).foldlM Builtin.min2 (Value.int k m)=pure (Value.int k (jH.foldl (λa b=>if b<a then b else a) m))/\gQ k (jH.foldl (λa b=>if b<a then b else a) m))/\
  ((jH.map (Value.int k)).foldlM Builtin.max2 (Value.int k m)=pure (Value.int k (jH.foldl (λa b=>if b > a then b else a) m))/\gQ k (jH.foldl (λa b=>if b > a then b else a) m))
 | [],m,h,_=>⟨⟨rfl,h⟩,rfl,h⟩
 | n::jH,m,h,ai=>by
  have ai:=λq bC=>ai q (am2 n bC);have E:=(Qf jH (if n<m then n else m) (by grind) ai).1;have M:=(Qf jH (if n > m then n else m) (by grind) ai).2;refine⟨⟨?_,E.2⟩,?_,M.2⟩
  ·simp  [Builtin.min2];grind
  ·simp  [Builtin.max2];grind
theorem Y9{f:Int->Int->Int}(U:(b=.min/\f=λa b=>if b<a then b else a)\/(b=.max/\f=λa b=>if b > a then b else a)){args:Array Operand}(bp:∀ i,o.dst=some i->i<C.b3)
  (au:o.op=.call { callee:=.builtin b,args:=args,argTypes:=ds }) (h:(Ay (bj C.aW s.aD) f args.toList).run s.ab=some res):cT C o s res:=by
 obtain⟨args⟩:=args;simp  [Ay]at h;split at h
 ·rename_i x y l;split at h
  ·rename_i k m an;split at h
   ·rename_i cA jH ai;simp  [c',amZ]at h;subst h;refine cT.pure (by grind) bp λa w kap F D be hc=>?_;have E:=qh (da D x rfl be.1) an;obtain⟨M,al⟩:=Y8 D (y::l) ai be.2;obtain⟨dT,eo⟩:=Qf jH m E.2 al;have fv:(x::y::l).map a.eval=Value.int k m::jH.map (Value.int k):=by grind
    refine⟨.int k (jH.foldl f m),sT au ?_,hR.2 ⟨rfl,?_⟩⟩
    ·rcases U with⟨rfl,rfl⟩ | ⟨rfl,rfl⟩
     ·simp  [builtin,Builtin.min_,fv];simp_all
     ·simp  [builtin,Builtin.max_,fv];simp_all
    grind
   ·cases h
  ·cases h
 ·cases h
end
end Go.Fer
namespace Go.Fer
open Go.RowKit
def fP(H:Nat->b_)(x:b_):b_:=match x.body with
 | .bo e xs=>⟨x.gen,.jD e xs⟩
 | .mp k v es=>⟨x.gen,.lh k v es⟩
 | .cells t f=>match (lo t ((List.range t.size).map f)).run H with
  | some (y,_,[])=>⟨x.gen,.ix t y⟩
  | _=>x
 | _=>x
def aE.cE(s:aE)(l:List Nat):aE:=⟨s.aD,λi=>if i∈l then fP s.ab (s.ab i) else s.ab i⟩
theorem Y_(H:Nat->b_):∀ (l:List Nat) (s:aE),(∀ i∈l,s.ab i=H i\/s.ab i=fP H (H i))->s.iC ((kj l).run H)=⟨s.aD,λi=>if i∈l then fP H (H i) else s.ab i⟩
 | [],s,_=>by
  rfl
 | b::l,s,h=>by
  simp only[kj,aG.gW,aG.run_bind];have key:∀ (s':aE),s'.aD=s.aD->s'.ab b=fP H (H b)->(∀ i,i≠b->s'.ab i=s.ab i)->s'.iC ((kj l).run H)=⟨s.aD,λi=>if i∈b::l then fP H (H i) else s.ab i⟩:=by
   intro s' aF bB c7;rw[Y_ H l s']<;>grind
  have iD:fP H (H b)=H b->s.iC ((kj l).run H)=⟨s.aD,λi=>if i∈b::l then fP H (H i) else s.ab i⟩:=λe=>
   key s rfl (by grind) λ_ _=>rfl
  have put:∀ x,fP H (H b)=x->s.iC ((b,x)::(kj l).run H)=⟨s.aD,λi=>if i∈b::l then fP H (H i) else s.ab i⟩:=λx e=>by
   exact key _ rfl (by simp[aE.cq,e]) λi G=>by simp[aE.cq,G]
  cases U:(H b).body with
  | bo e xs=>exact put _ (by simp[fP,U])
  | mp k v es=>exact put _ (by simp[fP,U])
  | cells t f=>
   simp only[aG.run_bind];cases aB:(lo t ((List.range t.size).map f)).run H with
   | none=>exact iD (by simp[fP,U,aB])
   | some z=>
    obtain⟨y,m,r⟩:=z;cases r with
    | nil=>exact put _ (by simp[fP,U,aB])
    | cons c r=>exact iD (by simp[fP,U,aB])
  | _=>exact iD (by simp[fP,U])
theorem ui(s:aE)(l:List Nat):s.iC ((kj l).run s.ab)=s.cE l:=by
 rw[Y_ s.ab l s λi _=>.inl rfl];rfl
theorem Df:∀ (l:List (Nat×b_)) (s:aE) (p:Nat×b_),s.iC (l++[p])=(s.iC l).cq p.1 p.2
 | [],_,_=>rfl
 | q::l,s,p=>by exact Df l _ p
def ca.Y':ca->Bool | .cI _ _ _ _=>true | .ie _ _ _ _=>true | _=>false
def iQ(H:Nat->b_)(l:List Nat):Prop:=∀ b∈l,(H b).body.Y'=false/\∀ t f,(H b).body=.cells t f->∃ y m,(lo t ((List.range t.size).map f)).run H=some (y,m,[])/\∀ c∈m,c∈l
theorem iQ.nil(H:Nat->b_):iQ H []:=λb U=>by grind
variable {H:Nat->b_}{l:List Nat}
theorem iQ.append{m:List Nat}(h:iQ H l)(k:iQ H m):iQ H (l++m):=by
 intro b U;rcases List.mem_append.1 U with U | U
 ·obtain⟨E,M⟩:=h b U;grind
 ·obtain⟨E,M⟩:=k b U;grind
variable {b:Nat}
theorem iQ.one(E:(H b).body.Y'=false)(M:(H b).body.hr=false):iQ H [b]:=by
 intro c hc;obtain rfl:=List.mem_singleton.1 hc;exact⟨E,λt f e=>by rw[e]at M;cases M⟩
variable {t:aa}
theorem uj{av:aN}{x:t.aq}(h:(eK t av).run H=some (x,l)):iQ H l:=by
 cases av with
 | val dO y=>
  simp  [eK,aQx]at h;obtain⟨z,bz,rfl,rfl⟩:=h;exact .nil H
 | vq a1 y=>
  cases t<;>simp only[eK,aG.none,aG.dF,reduceCtorEq,aQX,aQx]at h;obtain⟨z,bz,rfl,rfl⟩:=h;exact .nil H
 | dd=>
  cases t<;>simp  [eK,aG.none,aQx]at h<;>(obtain⟨rfl,rfl⟩:=h;exact .nil H)
 | lg u=>
  simp  [eK,aQx]at h;obtain⟨z,bz,rfl,rfl⟩:=h;exact .nil H
 | eL dO y=>
  cases t<;>simp  [eK,aG.none,aQx]at h;obtain⟨z,bz,rfl,rfl⟩:=h;exact .nil H
 | own b g=>
  cases t<;>simp only[eK,aG.none,aG.dF,aG.gW,reduceCtorEq]at h;split at h
  ·split at h
   ·rename_i U;simp  at h;obtain⟨z,bz,rfl,rfl⟩:=h;exact .one (by rw[U];rfl) (by rw[U];rfl)
   ·simp  at h;obtain⟨z,bz,rfl,rfl⟩:=h;exact .nil H
   grind
  grind
 | sub b g ba G=>
  cases t<;>simp only[eK,aG.none,aG.dF,aG.gW,reduceCtorEq]at h;split at h
  ·split at h
   ·rename_i U;simp  at h;obtain⟨z,bz,rfl,rfl⟩:=h;exact .one (by rw[U];rfl) (by rw[U];rfl)
   ·simp  at h;obtain⟨z,bz,rfl,rfl⟩:=h;exact .nil H
   grind
  grind
 | hq b g=>
  cases t<;>simp only[eK,aG.none,aG.dF,aG.gW,reduceCtorEq]at h;split at h
  ·split at h
   ·rename_i U;simp  at h;obtain⟨z,bz,rfl,rfl⟩:=h;exact .one (by rw[U];rfl) (by rw[U];rfl)
   ·simp  at h;obtain⟨z,bz,rfl,rfl⟩:=h;exact .nil H
   grind
  grind
 | jl k n c=>
  cases t<;>simp  [eK,aG.none,reduceCtorEq]at h;split at h
  ·cases h;exact .nil H
  simp_all
 | _=>cases h
theorem Za{e:aa}(fm:∀ {cs:List aN} {x:e.aq} {l:List Nat} {r:List aN},(lo e cs).run H=some (x,l,r)->iQ H l){av:aN}{x:Option e.aq}
  (h:(w7 e (lo e) av).run H=some (x,l)):iQ H l:=by
 have b9:(eK (.bP e) av).run H=some (x,l)->iQ H l:=uj;cases av with
 | eZ b g off=>
  simp  [w7]at h;split at h
  ·split at h
   ·simp  at h;obtain⟨z,bz,rfl,rfl⟩:=h;exact .nil H
   ·rename_i t f U;split at h
    ·simp only[aG.gf,amU,aG.dF]at h;obtain⟨⟨y,m,q⟩,E,M⟩:=h;split at M
     ·obtain⟨rfl,rfl⟩:=M;intro c hc;rcases List.mem_cons.1 hc with rfl | hc
      ·refine⟨by rw[U];rfl,λdO kF e=>?_⟩;grind
      ·obtain⟨aO,aT⟩:=fm E c hc;grind
     grind
    ·cases h
   ·cases h
  ·cases h
 | _=>exact b9 h
theorem Zb:∀ (t:aa) {cs:List aN} {x:t.aq} {l:List Nat} {r:List aN},(lo t cs).run H=some (x,l,r)->iQ H l:=by
 have rV:∀ (t:aa) (g:aN->aG (Option (t.aq×List Nat))),(∀ {av:aN} {x:t.aq} {l:List Nat},(g av).run H=some (x,l)->iQ H l)->
   ∀ {cs:List aN} {x:t.aq} {l:List Nat} {r:List aN},(match cs with | c::r=>(g c).map λo=>o.map λ(x,l)=>(x,l,r) | []=>.none:aG (Option (t.aq×List Nat×List aN))).run H=some (x,l,r)->iQ H l:=by
  intro t g aB cs x l r h;cases cs with
  | nil=>cases h
  | cons c cs=>
   simp  [aG.map,aG.run_bind,aQx]at h;grind
 intro t;induction t with
 | bool=>intro cs x l r h;exact rV .bool (eK .bool) uj h
 | int k=>intro cs x l r h;exact rV (.int k) (eK (.int k)) uj h
 | str=>intro cs x l r h;exact rV .str (eK .str) uj h
 | dc=>
  intro cs x l r h;obtain⟨_,rfl,rfl⟩:=h;exact .nil H
 | ae t aR=>intro cs x l r h;exact aR h
 | aw a b hp gq=>
  intro cs x l r h;simp only[lo,aG.gf,amU,aQx]at h;obtain⟨⟨y,m,q⟩,E,⟨z,dz,q'⟩,M,rfl,rfl,rfl⟩:=h;exact (hp E).append (gq M)
 | slice e aR=>intro cs x l r h;exact rV (.slice e) (eK (.slice e)) uj h
 | array n e aR=>
  intro cs xs l r h;simp  [lo]at h;have key:∀ (n:Nat) {cs:List aN} {xs:List e.aq} {l:List Nat} {r:List aN},(n.rec (motive:=λ_=>List aN->aG (Option (List e.aq×List Nat×List aN))) (λcs=>.ret (some ([],[],cs)))
     (λ_ aR cs=>(lo e cs).eG λ(x,l,r)=>(aR r).eG λ(xs,m,q)=>.ret (some (x::xs,l++m,q))) cs).run H=some (xs,l,r)->iQ H l:=by
   intro n;induction n with
   | zero=>intro cs xs l r h;cases h;exact .nil H
   | succ n F9=>
    intro cs xs l r h;simp only[aG.gf,amU,aQx]at h;obtain⟨⟨y,m,q⟩,E,⟨z,dz,q'⟩,M,rfl,rfl,rfl⟩:=h;exact (aR E).append (F9 M)
  grind
 | bP e aR=>intro cs x l r h;exact rV (.bP e) (w7 e (lo e)) (Za aR) h
 | map k v Ai Aj=>intro cs x l r h;exact rV (.map k v) (eK (.map k v)) uj h
 | fn a b hp gq=>intro cs x l r h;exact rV (.fn a b) (eK (.fn a b)) uj h
 | cI a aR=>intro cs x l r h;exact rV (.cI a) (eK (.cI a)) uj h
 | eY=>intro cs x l r h;exact rV .eY (eK .eY) uj h
 | cP e aR=>intro cs x l r h;exact rV (.cP e) (eK (.cP e)) uj h
theorem pv{av:aN}{x:t.aq}(h:(en t av).run H=some (x,l)):iQ H l:=by
 have b9:(l' t av).run H=some (x,l)->iQ H l:=by
  intro h;unfold l' at h;split at h
  ·exact Za (λh=>Zb _ h) h
  ·split at h
   ·exact uj h
   ·cases h
 cases av with
 | val dO y=>
  simp  [en,aQx]at h;obtain⟨z,bz,rfl,rfl⟩:=h;exact .nil H
 | agg n f=>
  simp  [en]at h;split at h
  ·cases h
  ·simp only[aG.gf,amU,aG.dF]at h;obtain⟨⟨y,m,q⟩,E,M⟩:=h;split at M
   ·obtain⟨rfl,rfl⟩:=M;exact Zb t E
   grind
 | _=>exact b9 h
theorem AG(H:Nat->b_)(x:b_):fP H x=x\/(∃ e xs,x.body=.bo e xs/\fP H x=⟨x.gen,.jD e xs⟩)\/(∃ k v es,x.body=.mp k v es/\fP H x=⟨x.gen,.lh k v es⟩)\/
  ∃ t f y m,x.body=.cells t f/\(lo t ((List.range t.size).map f)).run H=some (y,m,[])/\fP H x=⟨x.gen,.ix t y⟩:=by
 cases an:x.body with
 | bo e xs=>exact .inr (.inl ⟨e,xs,rfl,by simp[fP,an]⟩)
 | mp k v es=>exact .inr (.inr (.inl ⟨k,v,es,rfl,by simp[fP,an]⟩))
 | cells t f=>
  cases aB:(lo t ((List.range t.size).map f)).run H with
  | none=>exact .inl (by simp[fP,an,aB])
  | some z=>
   obtain⟨y,m,r⟩:=z;cases r with
   | nil=>exact .inr (.inr (.inr ⟨t,f,y,m,rfl,aB,by simp[fP,an,aB]⟩))
   | cons c r=>exact .inl (by simp[fP,an,aB])
 | _=>exact .inl (by simp[fP,an])
theorem an1{x:b_}{k:bL}(h:(fP H x).body.cg k=true):(x.body.cg k=true/\fP H x=x):=by
 rcases AG H x with e | ⟨_,_,_,e⟩ | ⟨_,_,_,_,e⟩ | ⟨_,_,_,_,_,_,e⟩
 ·grind
 all_goals rw[e]at h;cases h
theorem Zc(s:aE)(l:List Nat)(kap:Nat->bL):fN s.ab kap (s.cE l).ab kap:=by
 rw[YD];intro b;simp  [aE.cE];split
 ·rcases AG s.ab (s.ab b) with e | ⟨_,_,an,e⟩ | ⟨_,_,_,an,e⟩ | ⟨_,_,_,_,an,_,e⟩
  ·rw[e];exact t'.refl _ _
  ·rw[e];exact⟨amY _,λ_=>⟨λh=>(by cases h),λ_=>⟨by rw[an];rfl,rfl,by rw[an];rfl,by rw[an];rfl⟩,λh=>(by cases h),λh=>(by cases h)⟩⟩
  ·rw[e];exact⟨amY _,λ_=>⟨λh=>(by cases h),λh=>(by cases h),λ_=>⟨by rw[an];rfl,rfl⟩,λh=>(by cases h)⟩⟩
  ·rw[e];exact⟨amY _,λ_=>⟨λ_=>⟨by rw[an];rfl,rfl⟩,λh=>(by cases h),λh=>(by cases h),λh=>(by cases h)⟩⟩
 ·exact t'.refl _ _
theorem an2(s:aE)(l:List Nat):yu s.ab (s.cE l).ab:=by
 intro e m hm;simp only[aE.cE]at hm;split at hm
 ·rcases AG s.ab (s.ab cG) with k | ⟨_,_,_,k⟩ | ⟨_,_,_,_,k⟩ | ⟨_,_,_,_,_,_,k⟩
  ·rw[k]at hm;exact hm
  all_goals rw[k]at hm;cases hm
 ·exact hm
variable {a:Act}{w:World}{kap:Nat->bL}{F:Nat->Prop}
theorem bx.mX{C:cJ}{s:aE}(kY:iQ s.ab l)(h:bx C s a w kap F) :
  ∃ F',(∀ r,F r->F' r)/\bx C (s.cE l) a w kap F'/\kV s.ab kap F' l:=by
 let F':=λr=>F r\/∃ b∈l,(s.ab b).body.cg (kap b)=true/\(kap b).ab=r;have bq:∀ r,F r->F' r:=λr D=>.inl D;have xa:kV s.ab kap F' l:=λb U au=>.inr ⟨b,U,au,rfl⟩;have Qg:∀ b,((s.cE l).ab b).body.cg (kap b)=true->b ∉ l/\(s.ab b).body.cg (kap b)=true:=by
  intro b U;simp  [aE.cE]at U;by_cases hv:b∈l
  ·rw[if_pos hv]at U;obtain⟨aO,aT⟩:=an1 U;obtain⟨bI,c2⟩:=kY b hv;cases an:(s.ab b).body with
   | bo e xs=>simp[fP,an,ca.cg]at U
   | mp k v es=>simp[fP,an,ca.cg]at U
   | cells t f=>
    obtain⟨y,m,g,_⟩:=c2 t f an;simp[fP,an,g,ca.cg]at U
   | cI k v c r=>rw[an]at bI;cases bI
   | ie e xs i v=>rw[an]at bI;cases bI
   | _=>rw[an]at aO;cases aO
  grind
 have ai:=Zc s l kap;refine⟨F',bq,?_,xa⟩;refine h.move ai bq (λr D=>D.imp id λ⟨b,_,E,M⟩=>.inl ⟨b,E,M⟩) (amY _) (λ_ _ _=>rfl) (dN.refl _) (λ_ b=>?_) (λb U=>?_) (λb bk U dZ e=>h.inj b bk (Qg b U).2 (Qg bk dZ).2 e) (λr D=>?_) (λb _ U=>⟨rfl,?_⟩) (an2 s l)
 ·show c1 C.P (s.cE l).ab kap F' w b;by_cases hv:b∈l
  ·have a6:=h.bH b;have KE:(s.cE l).ab b=fP s.ab (s.ab b):=by simp[aE.cE,hv]
   have lj:fP s.ab (s.ab b)=s.ab b->c1 C.P (s.cE l).ab kap F' w b:=λe=>c1.lj a6 ai bq (dk.refl _ _) (by grind) rfl λ_=>rfl;cases an:(s.ab b).body with
   | bo e xs=>
    unfold c1 at a6 ⊢;rw[an]at a6;rw[KE];simp  [fP,an];exact PY a6 bq λaA=>xa b hv (by rw[an];simp[ca.cg,aA])
   | mp k v es=>
    unfold c1 at a6 ⊢;rw[an]at a6;rw[KE];simp  [fP,an];exact YJ a6 bq (xa b hv (by rw[an];rfl))
   | cells t f=>
    obtain⟨y,m,g,hm⟩:=(kY b hv).2 t f an;unfold c1 at a6 ⊢;rw[an]at a6;rw[KE];simp  [fP,an,g];obtain⟨cs,T,aO,aT,b7⟩:=a6;have kg:fu C.P s.ab kap F w ((List.range t.size).map f) cs.toList:=F8 (by have:=aT.1;omega) λi G=>by
     simp_all
    obtain⟨c,d,anq,bI,c2⟩:=P0 h.bH bq t g (λc hc=>xa c (hm c hc)) kg;cases d with
    | cons _ _=>exact c2.elim
    | nil=>
     refine⟨c,⟨xa b hv (by rw[an];rfl),rfl,λj aM=>?_⟩,bI⟩;have gV:j<cs.size:=by grind
     simp  [World.cell?,aRm gV];grind
   | _=>exact lj (by simp[fP,an])
  ·exact c1.lj (h.bH b) ai bq (dk.refl _ _) (by simp[aE.cE,hv]) rfl λ_=>rfl
 ·obtain⟨aO,aT⟩:=Qg b U;have au:=h.own b aT;refine⟨au.1,λaC=>?_,.inl ⟨b,aT,rfl⟩⟩;rcases aC with aC | ⟨b0,m1,m2,m3⟩
  ·grind
  ·exact aO (h.inj b b0 aT m2 m3.symm ▸ m1)
 ·rcases D with D | ⟨b,_,U,rfl⟩
  ·exact h.du r D
  ·exact (h.own b U).1
 ·split at U
  ·rcases AG s.ab (s.ab b) with e | ⟨_,_,an,e⟩ | ⟨_,_,_,an,e⟩ | ⟨_,_,_,_,an,_,e⟩
   ·grind
   ·rw[e]at U;simp[ca.hr,ca.iX]at U
   ·rw[an];exact .inr rfl
   ·rw[an];exact .inl rfl
  omega
section
variable {C:cJ} {T:Nat->aa} {bs:Nat->Option aQ} {o:Oper} {s:aE} {res:eC}
theorem bx.iR(h:bx C s a w kap F)(U:b<C.b3):b<fD:=aQt U h.hJ
variable {l:List aN}
theorem bx.newVar(h:bx C s a w kap F)(F6:b<fD){cs:List Value}{ty:TypeId}(ai:fu C.P s.ab kap F w l cs)(aH:l.length=t.size)(Qh:PW C.P t ty) :
  ∃ bV,bx C (s.cq b ⟨(s.ab b).gen+1,.cells t (h5 l)⟩) a (w.alloc (.cells cs.toArray ty)) bV F/\(bV b).ab=w.heap.size:=by
 refine⟨_,h.alloc (k:=⟨w.heap.size,0,0,false⟩) F6 (aRe _) rfl λH bV pw Km dx=>?_,by simp⟩;refine⟨cs.toArray,ty,ua _ _,⟨by simp[<-ai.len,aH],Qh⟩,λi G=>?_⟩;have:=ai.oa i (by omega);have e:cs.toArray.getD i Go.undef=cs.getD i Go.undef:=by simp
 rw[e];exact⟨bM.later dx (λ_ D=>D) (dk.alloc h.du _) this.1,this.2⟩
theorem Gr(t:aa){P:Program}{z:Value}(h:ma t z.cells.toList=some []):(vt t).length=t.size/\z.cells.size=t.size:=by
 obtain⟨c,e,E,M⟩:=yx (P:=P) (H:=λ_=>⟨0,.ez⟩) (kap:=λ_=>⟨0,0,0,true⟩) (F:=λ_=>True) (w:=default) t h;rw[aQD]at e;have:=jT t E;have:=M.len;grind
theorem an3(aU:ei C.P T){ty:TypeId}(bp:∀ i,o.dst=some i->i<C.b3)(au:o.op=.alloc ty)(h:(cR C.aW T bs (bj C.aW s.aD) o).run s.ab=some res)(pr:T ty≠.dc):cT C o s res:=by
 simp only[cR,au]at h;obtain⟨b,ay,aj⟩:=ue h;simp only[if_neg pr,amZ]at aj;subst aj;intro a w kap F Q D _ _;have dJ:=aU.cb rfl pr;obtain⟨i,z,E,M,al,a7,bR,er⟩:=nF dJ.nE;obtain⟨c,e,iS,z2⟩:=yx (P:=C.P) (H:=s.ab) (kap:=kap) (F:=F) (w:=w) (T ty) bR;rw[aQD]at e;have bz:=Gr (T ty) (P:=C.P) bR;obtain⟨bV,cn,cN⟩:=D.newVar (b:=b) (D.iR (bp b ay)) (t:=T ty) (ty:=ty) z2 bz.1 dJ.Y6;have dA:(execOp a.eval o).run C.P w=.ok (.value (.pointer (some ⟨w.heap.size,0,none⟩))) (w.alloc (.cells c.toArray ty)):=by
  have Dg:z.cells=c.toArray:=by grind
  simp[execOp,au,Instr.alloc,sR E a7,newVar,newRow,Dg]
 refine ig (by grind) dA ⟨bV,F,bx.set (s:=s.cq b _) cn bp ⟨⟨?_,rfl⟩,λ_ _=>?_⟩⟩
 ·simp[aE.cq]
 grind
theorem Qi{P:Program}{av:aN}{v:Value}(h:cellsOf t av=some l)(ag:bM P H kap F w av v):fu P H kap F w l v.cells.toList:=by
 unfold cellsOf at h;split at h
 ·rename_i dO x;split at h
  ·rename_i he;subst he;simp only[amZ]at h;subst h;obtain⟨⟨cs,rfl,_⟩,hc⟩:=ag;simp only[cw]at hc;exact C4 _ hc
  grind
 ·rename_i n f;split at h
  ·simp only[amZ]at h;subst h;obtain⟨aI,rfl,E,M⟩:=ag;exact F8 E M
  grind
 ·rename_i n e kD a1 x;split at h
  ·simp only[amZ]at h;subst h;obtain⟨⟨cs,rfl,_⟩,hc⟩:=ag;exact C4 _ hc
  grind
 ·rename_i n e m f;split at h
  ·simp only[amZ]at h;subst h;obtain⟨aI,rfl,E,M⟩:=ag;exact F8 E M
  grind
 ·split at h
  ·have one:v.oneCell'=true->l=[av]->fu P H kap F w l v.cells.toList:=by
    intro E M;subst M;rw[Ke E];exact⟨⟨ag,E⟩,trivial⟩
   split at h
   ·rename_i dO x;split at h
    ·rename_i Dc;obtain⟨aO,aT⟩:=(eh Dc).1 ag;exact one (PV Dc aT) (aQ7 h).symm
    grind
   ·exact one ag.1.2 (aQ7 h).symm
   ·exact one ag.1.2 (aQ7 h).symm
   ·exact one ag.1.2 (aQ7 h).symm
   ·refine one ?_ (aQ7 h).symm;obtain⟨p,bE,rfl,_⟩:=ag;rfl
   ·exact one ag.1.2 (aQ7 h).symm
   ·refine one ?_ (aQ7 h).symm;obtain⟨aI,rfl,_⟩:=ag;rfl
   ·refine one ?_ (aQ7 h).symm;simp only[bM]at ag;subst ag;rfl
   ·exact one ag.1.2 (aQ7 h).symm
   ·cases h
   ·cases h
   ·refine one ?_ (aQ7 h).symm;simp only[bM]at ag;subst ag;cases v<;>first | rfl | grind | grind | grind | grind
   grind
  grind
end
end Go.Fer
namespace Go.Fer
open Go.RowKit
theorem KF:∀ (l:List Value) (k off:Nat) (cs:Array Value),off+k+l.length<=cs.size->
  ((l.zipIdx k).foldl (λ(cs:Array Value) (p:Value×Nat)=>cs.setIfInBounds (off+p.2) p.1) cs).toList=cs.toList.take (off+k)++(l++cs.toList.drop (off+k+l.length))
 | [],k,off,cs,h=>by simp
 | c::l,k,off,cs,h=>by
  simp;rw[KF l (k+1) off _ (by grind)];grind [List.take_set,List.drop_set,List.take_succ_eq_append_getElem]
section
variable {P:Program} {w:World}
theorem an4(w:World)(b off:Nat)(v:Value){cs:Array Value}{T:TypeId}{fP:z21'}(h:w.heap[b]?=some (.cells cs T fP)) :
  (w.setCell ⟨b,off,none⟩ v).heap[b]?=some (.cells (cs.setIfInBounds off v) T fP):=by
 grind [World.setCell]
theorem yB{b:Nat}{T:TypeId}:∀ (aI:List Value) (off i:Nat) (w:World) (cs:Array Value),w.heap[b]?=some (.cells cs T (0,0))->off+i+aI.length<=cs.size->(∀ v∈aI,v.oneCell'=true)->
  ∃ w' eA,(storeCells ⟨b,off,none⟩ aI i).run P w=.ok () w'/\w'.heap[b]?=some (.cells eA T (0,0))/\eA.toList=cs.toList.take (off+i)++(aI++cs.toList.drop (off+i+aI.length))/\
   (∀ r,r≠b->w'.heap[r]?=w.heap[r]?)/\w'.heap.size=w.heap.size/\dN w w'
 | [],off,i,w,cs,h,_,_=>⟨w,cs,by rfl,h,by simp,λ_ _=>rfl,rfl,dN.refl w⟩
 | v::aI,off,i,w,cs,h,ai,ag=>by
  have dx:off+i<cs.size:=by grind
  have hc:w.cell? ⟨b,off+i,none⟩=some cs[off+i]:=by rw[AF h];simp
  have aC:w.frozen? ⟨b,off+i,none⟩=false:=by simp[World.frozen?,h]
  have E:=an4 w b (off+i) v h;obtain⟨w',eA,cn,cN,fF,oi,mE,oT⟩:=yB aI off (i+1) (w.setCell ⟨b,off+i,none⟩ v) _ E (by grind) (λu hu=>ag u (by grind));refine⟨w',eA,?_,cN,?_,?_,by simp_all,dN.trans (b:=w.setCell ⟨b,off+i,none⟩ v) ⟨rfl,rfl,rfl⟩ oT⟩
  ·simp  [storeCells,uf,run_store P w _ v _ (ag v (by simp)),hc,aC,Result.andThen_ok];omega
  ·rw[fF];have:=KF [v] 0 (off+i) cs (by grind);simp only[List.zipIdx_cons,List.zipIdx_nil,aQQ,List.foldl_nil,aSa]at this;rw[this];have aF:(cs.toList.take (off+i)).length=off+i:=by grind
   rw[List.take_append,List.drop_append,aF];simp only[show off+(i+1) - (off+i)=1 from by omega,show off+(i+1)+aI.length - (off+i)=aI.length+1 from by omega];have c7:List.drop (off+(i+1)+aI.length) (cs.toList.take (off+i))=[]:=List.drop_of_length_le (by omega);simp;grind
  grind [Below.heap_setCell]
end
section
variable {C:cJ} {T:Nat->aa} {bs:Nat->Option aQ} {o:Oper} {s:aE} {res:eC}
theorem an5(aU:ei C.P T){ty:TypeId}{x:Operand}(bp:∀ i,o.dst=some i->i<C.b3)(au:o.op=.box ty x)(h:(cR C.aW T bs (bj C.aW s.aD) o).run s.ab=some res):cT C o s res:=by
 simp  [cR,au]at h;split at h
 ·rename_i l ai;obtain⟨b,ay,aj⟩:=ue h;split at aj;case isFalse=>grind
  rename_i hlen;simp  at aj;subst aj;intro a w kap F Q D be _;have ag:=da D x rfl be;obtain⟨bV,cn,cN⟩:=D.newVar   (D.iR (bp b ay))     (Qi ai ag) hlen (by
   by_cases hu:T ty=.dc
   ·intro n s h;grind
   ·exact (aU.cb rfl hu).Y6)
  have dA:(execOp a.eval o).run C.P w=.ok (.value (.pointer (some ⟨w.heap.size,0,none⟩))) (w.alloc (.cells (a.eval x).cells.toList.toArray ty)):=by
   simp_all[execOp,Instr.box,newVar,newRow]
  refine ig (by grind) dA ⟨bV,F,bx.set   cn bp ⟨⟨?_,rfl⟩,λ_ _=>?_⟩⟩
  ·simp[aE.cq]
  grind
 ·cases h
variable {P:Program}
theorem an6:∀ (t:aa) {l:List Field} {off:Nat},dh P t (.inr (l,off))=true->∀ f∈l,∃ s,cx P s f.type:=by
 intro t;induction t with
 | aw a b hp gq=>
  intro l off h;match l,h with
  | [],h=>simp
  | [x],h=>simp  [dh]at h
  | [x,y],h=>
   simp  [dh]at h;intro f aC;simp  at aC;rcases aC with rfl | rfl
   ·exact⟨a,h.1.1.1.2⟩
   ·exact⟨b,h.2.1.1.2⟩
  | x::y::z::l,h=>
   simp  [dh]at h;intro f aC;rcases List.mem_cons.1 aC with rfl | aC
   ·exact⟨a,h.1.1.1.2⟩
   grind
 | _=>intro l off h;simp only[dh,amW]at h
theorem cx.an7{t:aa}{id:TypeId}(h:cx P (.ae t) id){gC:Array Field}(mC:P.underlying id=some (.struct gC)):∀ f∈gC.toList,∃ s,cx P s f.type:=by
 obtain⟨_,_,al,a7⟩:=h.Gm;grind [an6]
theorem fu.replace{H:Nat->b_}{kap:Nat->bL}{F:Nat->Prop}{w:World}{as l:List aN}{us aI:List Value}(h:fu P H kap F w as us)(k:fu P H kap F w l aI)(off:Nat) :
  fu P H kap F w (as.take off++(l++as.drop (off+l.length))) (us.take off++(aI++us.drop (off+aI.length))):=by
 have KG:∀ {as:List aN} {us:List Value} (n:Nat),fu P H kap F w as us->fu P H kap F w (as.take n) (us.take n):=by
  intro as;induction as with
  | nil=>intro us n h;cases us<;>first | exact h.elim | grind
  | cons a as aR=>intro us n h;cases us with
   | nil=>exact h.elim
   | cons u us=>cases n with
    | zero=>trivial
    | succ n=>exact⟨h.1,aR n h.2⟩
 have aMc:∀ {as:List aN} {us:List Value} (n:Nat),fu P H kap F w as us->fu P H kap F w (as.drop n) (us.drop n):=by
  intro as;induction as with
  | nil=>intro us n h;cases us<;>first | exact h.elim | grind
  | cons a as aR=>intro us n h;cases us with
   | nil=>exact h.elim
   | cons u us=>cases n with
    | zero=>grind
    | succ n=>exact aR n h.2
 rw[<-k.len];grind [append]
theorem Zd{P:Program}{H:Nat->b_}{kap:Nat->bL}{F:Nat->Prop}{w:World}{t:aa}{id:TypeId}{gC:Array Field}(dJ:cx P (.ae t) id)(mC:P.underlying id=some (.struct gC)){place:Nat->Option (z21')}
  (mY:∀ i f s,gC[i]?=some f->cx P s f.type->place i=some (f.offset,s.size)):∀ (bw:List (Nat×aN)) (iE:List (Nat×Value)) {as KH:List aN} {cs:Array Value},fu P H kap F w as cs.toList->Kq t as bw=some KH->
  bw.length=iE.length->(∀ i (h:i<bw.length) (e3:i<iE.length),bw[i].1=iE[i].1/\bM P H kap F w bw[i].2 iE[i].2)->∃ eA,Instr.fill place cs iE=some eA/\fu P H kap F w KH eA.toList
 | [],[],as,KH,cs,aZ,aC,_,_=>by cases aC;exact⟨cs,rfl,aZ⟩
 | (i,av)::bw,(oe,v)::iE,as,KH,cs,aZ,aC,hlen,gA=>by
  have aV:=gA 0 (by simp) (by simp);simp  at aV;obtain⟨rfl,ag⟩:=aV;simp  [Kq]at aC;split at aC
  ·grind
  ·rename_i s off vx;split at aC
   ·grind
   ·rename_i l ai;split at aC
    ·rename_i hc;obtain⟨aMd,qg,f1,f2,f3,f4,f5⟩:=dJ.field vx;rw[mC]at f1;simp  at f1;subst f1;have ak:=mY i qg s f2 f4;rw[f3]at ak;have kg:=Qi ai ag;have cQ:v.cells.size=s.size:=by have:=kg.len;grind
     have q8:=by simpa using aZ.len
     have KI:=KF v.cells.toList 0 off cs (by grind);have e:(v.cells.zipIdx.foldl (λcs p=>cs.setIfInBounds (off+p.2) p.1) cs)=((v.cells.toList.zipIdx 0).foldl (λcs p=>cs.setIfInBounds (off+p.2) p.1) cs):=by
      rw[<-Array.foldl_toList];simp
     have Gs:=aZ.replace kg off;rw[hc.1]at Gs;obtain⟨eA,aO,aT⟩:=Zd dJ mC mY bw iE (cs:=v.cells.zipIdx.foldl (λcs p=>cs.setIfInBounds (off+p.2) p.1) cs) (by rw[e,KI];omega) aC (by grind)
      (λj h e3=>by have:=gA (j+1) (by grind) (by grind);grind)
     grind [Instr.fill]
    grind
 | [],_::_,_,_,_,_,_,hlen,_=>by grind
 | _::_,[],_,_,_,_,_,hlen,_=>by grind
theorem Ze:∀ {l:List (Nat×aN)},yy l->∀ i (h:i<l.length),(use l[i].2).1
 | a::l,h,0,_=>by
  obtain⟨n,a⟩:=a;cases a<;>first | trivial | exact h.1
 | a::l,h,i+1,G=>by
  have e3:=by obtain⟨n,a⟩:=a;cases a<;>first | exact h | exact h.2
  have:=Ze e3 i (by grind);grind
theorem Qj{a:Act}{w:World}{kap:Nat->bL}{F:Nat->Prop}(D:bx C s a w kap F)(bw:List (Nat×Operand))(be:yy (bw.map λp=>(p.1,bj C.aW s.aD p.2))) :
  ∀ i (h:i<(lM (bw.map λp=>(p.1,bj C.aW s.aD p.2))).length) (e3:i<(bw.map λp=>(p.1,a.eval p.2)).length),(lM (bw.map λp=>(p.1,bj C.aW s.aD p.2)))[i].1=(bw.map λp=>(p.1,a.eval p.2))[i].1/\bM C.P s.ab kap F w (lM (bw.map λp=>(p.1,bj C.aW s.aD p.2)))[i].2 (bw.map λp=>(p.1,a.eval p.2))[i].2:=by
 grind [Ze,lM,q7,lO]
theorem an8(aU:ei C.P T){ty:TypeId}{bw:Array (Nat×Operand)}(bp:∀ i,o.dst=some i->i<C.b3)(au:o.op=.build ty bw)(Qk:∀ m e,T ty≠.array m e)(h:(cR C.aW T bs (bj C.aW s.aD) o).run s.ab=some res):cT C o s res:=by
 obtain⟨bw⟩:=bw;simp only[cR,au]at h;split at h
 ·rename_i t aH;have dJ:=aU.cb aH (by simp);split at h
  ·rename_i cs q8;simp only[c',aG.dF,amZ]at h;subst h;refine cT.pure (by grind) bp λa w kap F D be _=>?_;obtain⟨gC,mC⟩:=dJ.ae;obtain⟨i,z,E,M,al,a7,bR,er⟩:=nF dJ.nE;obtain⟨c,e,iS,z2⟩:=yx (P:=C.P) (H:=s.ab) (kap:=kap) (F:=F) (w:=w) (.ae t) bR;rw[aQD]at e;have an9:=dJ.an7 mC;have hm:=ChangeMaps.mapM_total (f:=λ(f:Field)=>(C.P.info? f.type).map λi=>(f.offset,i.size)) (0,0) (l:=gC.toList) (λf aC=>by
    obtain⟨s',vy⟩:=an9 f aC;obtain⟨oe,_,Dh,_⟩:=nF vy.nE;simp_all)
   have mY:=run_places (P:=C.P) w gC.toList _ hm;obtain⟨eA,aO,aT⟩:=Zd (w:=w) dJ mC (place:=λj=>((gC.toList.map λf=>((C.P.info? f.type).map λi=>(f.offset,i.size)).getD (0,0)))[j]?)
    (λj f s' aM vy=>by
     obtain⟨oe,_,Dh,uk,_⟩:=nF vy.nE;grind)
    _ _ (by rw[e];exact z2) q8 (by simp[lM]) (Qj D bw be)
   have hlen:=by simpa using aT.len
   refine⟨.agg eA,?_,eA.toList,by simp,by grind,λj aM=>?_⟩
   ·have sU:(gC.mapM λf=>do pure (f.offset,<-sizeOf f.type):Sem (Array (z21'))).run C.P w=.ok (gC.toList.map λf=>((C.P.info? f.type).map λi=>(f.offset,i.size)).getD (0,0)).toArray w:=by
     simp_all[Array.mapM_eq_mapM_toList]
    simp_all[execOp,Instr.build,sR,ep]
   ·have:=aT.oa j aM;omega
  ·cases h
 ·grind
 ·cases h
end
end Go.Fer
namespace Go.Fer
open Go.RowKit
section
variable {C:cJ} {T:Nat->aa} {bs:Nat->Option aQ} {o:Oper} {s:aE} {res:eC}
theorem KJ{P:Program}{w w':World}{t:aa}{id:TypeId}(h:cx P t id){p:Addr}{v:Value}(cQ:v.cells.size=t.size)(ax:(storeCells p v.cells.toList).run P w=.ok () w'):(storeVar id p v).run P w=.ok () w':=by
 simp[storeVar,h.size,cQ,ax]
theorem an_(aU:ei C.P T){ty:TypeId}{x y:Operand}(bp:o.dst=none)(au:o.op=.store ty x y)(h:(cR C.aW T bs (bj C.aW s.aD) o).run s.ab=some res):cT C o s res:=by
 simp only[cR,au]at h;split at h
 ·rename_i cB b g i an;unfold P4 at h;split at h
  ·rename_i bk g' bf;simp only[aG.gW,aG.dF]at h;split at h
   ·rename_i e xs oe v cm;split at h
    ·rename_i hc;obtain⟨aB,ai⟩:=hc;simp only[amZ]at h;subst h;intro a w kap F Q D be G;have G:i=oe:=G;subst G;have E:=(da D x an be.1).2 aB.symm (by rw[cm];rfl);have ag:=da D y (av:=.own bk g') (p:=(use (bj C.aW s.aD y)).1) (by rw[<-bf]) be.2;have a6:=D.bH b;unfold c1 at a6;rw[cm]at a6 E;obtain⟨aV,cs,ih,bI,c2,c3,c4,c5,pt,rW,yA⟩:=a6;have dJ:=aU.cb (t:=T ty) rfl (by intro e;rw[e]at ai;cases ai);have oS:=Ke ag.1.2;have cQ:(a.eval y).cells.size=(T ty).size:=by
      rw[oS];cases aH:T ty<;>simp_all[aa.gb,aa.size]
     have km:(kap b).off+i<cs.size:=by
      have:i<(kap b).cap:=by omega
      rw[c5.1]at c2;omega
     have ak:a.eval x=.pointer (some ⟨(kap b).ab,(kap b).off+i,none⟩):=by rw[E.2.2];simp[ca.gU,c5.1]
     obtain⟨w',eA,cn,cN,fF,oi,mE,oT⟩:=yB (P:=C.P) (a.eval y).cells.toList ((kap b).off+i) 0 w cs bI (by rw[oS];simp;omega) (λu hu=>by rw[oS]at hu;simp at hu;rw[hu];exact ag.1.2);refine Gl (w':=w') (by grind) (by simp[execOp,au,ak,Instr.storeAt,Instr.sureAddr,KJ dJ cQ cn]) ?_;rw[bp];refine⟨kap,F,?_⟩;have hx:fN s.ab kap (λq=>if q=b then (⟨(s.ab b).gen,.ie e xs i (.own bk g')⟩:b_) else s.ab q) kap:=
      po rfl (λh=>by cases h) (λ_=>by rw[cm];exact⟨rfl,rfl,rfl⟩) (λh=>by cases h) (λh=>by cases h)
     refine (D.q5 (b:=b) (x:=⟨(s.ab b).gen,.ie e xs i (.own bk g')⟩) (by rw[cm];simp[ca.cg,aV]) (by simp[ca.cg,aV]) hx (λh=>by cases h) (λh=>by cases h) oi mE oT λH pw dx he=>?_);rw[oS]at fF;simp only[aSa]at fF;have gh:∀ k,eA[k]?=if k=(kap b).off+i then some (a.eval y) else cs[k]?:=by
      intro k;rw[<-aQP,fF];have mF:(cs.toList.take ((kap b).off+i)).length=(kap b).off+i:=by rw[aRb,aQK];omega
      rcases Nat.lt_trichotomy k ((kap b).off+i) with aj | aj | aj
      ·rw[if_neg (by omega),aQO (by omega),List.getElem?_take_of_lt aj,aQP]
      ·rw[if_pos aj,am8 (by omega),mF,aj];simp
      ·rw[if_neg (by omega),am8 (by omega),mF,am8 (by simp;omega),aRp];simp only[aRU,List.length_nil];rw[show (kap b).off+i+(0+1)+(k - ((kap b).off+i) - (0+1))=k from by omega,aQP]
     have KK:eA.size=cs.size:=by
      rw[<-aQK,fF];grind
     have cj:eA.getD ((kap b).off+i) Go.undef=a.eval y:=by
      rw[aQu,gh];simp
     refine⟨aV,eA,ih,cN,by omega,c3,c4,c5,λj aM w5=>?_,by rw[cj];exact bM.later dx (λ_ D=>D) he ag,by rw[cj];exact ag.1.2⟩;obtain⟨bE,d1,d2⟩:=pt j aM w5;refine⟨bE,λq bC=>?_,fM e (λ_ D=>D) he d2⟩;have vz:q=0:=by have:=jT e d2;omega
     subst vz;rw[gh,if_neg (by rw[c5.1];omega)];exact d1 0 bC
    ·cases h
   ·cases h
  ·cases h
 rename_i cB e9 an' an;simp only[aG.gf,amU,aG.dF,amZ]at h;obtain⟨wl,oj,rfl⟩:=h;have Ql:cB=(use (bj C.aW s.aD x)).1:=by rw[an]
 have AH:e9=(use (bj C.aW s.aD x)).2:=by rw[an]
 subst Ql;subst AH;clear an an';intro a w kap F Q D be _;have ak:bM C.P s.ab kap F w (use (bj C.aW s.aD x)).2 (a.eval x):=da D x rfl be.1;have ag:bM C.P s.ab kap F w (use (bj C.aW s.aD y)).2 (a.eval y):=da D y rfl be.2;generalize (use (bj C.aW s.aD x)).2=aoa at *
 generalize (use (bj C.aW s.aD y)).2=kW at *
 have ay:∀ c,o.op≠.defer c:=by grind
 have fin:∀ w',(Instr.storeAt ty (a.eval x) (a.eval y)).run C.P w=.ok () w'->de C (s.iC wl) a w'->o.wpIn (e0 C.r) 0 C.P a w (λa' w'=>de C (s.jI o.dst ⟨(use (bj C.aW s.aD x)).1/\(use (bj C.aW s.aD y)).1,True,.undef,wl⟩) a' w') Q:=by
  intro w' E M;refine Gl (w':=w') ay (by simp[execOp,au,E]) ?_;rw[bp];exact M
 unfold YP at oj;cases aoa with
 | eZ b g off=>
  simp only[aG.gW,aG.dF]at oj;split at oj
  ·rename_i aB;split at oj
   ·rename_i n f cm;simp only[amU]at oj;obtain⟨l,ai,oj⟩:=oj;split at oj
    ·simp  at oj;subst oj;have KL:=ak.2 aB.symm (by rw[cm];rfl);have kg:=Qi ai ag;have a6:=D.bH b;unfold c1 at a6;rw[cm]at a6;obtain⟨cs,ih,bI,c2,c3⟩:=a6;have hlen:=kg.len;have qj:∀ u∈(a.eval y).cells.toList,u.oneCell'=true:=by
      intro u hu;obtain⟨i,G,rfl⟩:=List.mem_iff_getElem.1 hu;have:=(kg.oa i (by omega)).2;grind
     obtain⟨w',eA,cn,cN,fF,oi,mE,oT⟩:=yB (P:=C.P) (a.eval y).cells.toList off 0 w cs bI (by omega) qj;have cQ:(a.eval y).cells.size=(T ty).size:=by grind
     have Gt:T ty≠.dc:=by
      intro e;simp_all[cellsOf,aa.gb]
     refine fin w' (by rw[KL];simp[Instr.storeAt,Instr.sureAddr,KJ (aU.cb rfl Gt) cQ cn]) ⟨kap,F,?_⟩;have hx:fN s.ab kap (λi=>if i=b then (⟨(s.ab b).gen,.cells n (putCells f off l)⟩) else s.ab i) kap:=
      po rfl (λ_=>by rw[cm];rfl) (λh=>by cases h) (λh=>by cases h) (λh=>by cases h)
     refine (D.q5     (by rw[cm];rfl) rfl hx (λ_=>by rw[cm];rfl) (λh=>by cases h) oi mE oT λH pw dx he=>?_);have KK:eA.size=n.size:=by
      grind [Array.length_toList]
     refine⟨eA,ih,cN,⟨KK,c2.2⟩,λi G=>?_⟩;have bQ:eA.getD i Go.undef=eA.toList.getD i Go.undef:=by simp
     rw[bQ,fF];simp only[aSa];have mF:(cs.toList.take off).length=off:=by grind
     unfold putCells;by_cases bh:off<=i/\i<off+l.length
     ·rw[if_pos bh];have aF:(cs.toList.take off++((a.eval y).cells.toList++cs.toList.drop (off+(a.eval y).cells.toList.length))).getD i Go.undef=(a.eval y).cells.toList.getD (i - off) Go.undef:=by
       grind
      rw[aF];have:=kg.oa (i - off) (by omega);exact⟨bM.later dx (λ_ D=>D) he this.1,this.2⟩
     ·have aF:(cs.toList.take off++((a.eval y).cells.toList++cs.toList.drop (off+(a.eval y).cells.toList.length))).getD i Go.undef=cs.getD i Go.undef:=by
       rcases aRs i off with E | E
       ·simp_all[aQO]
       ·rw[am1,am8 (by omega),mF,am8 (by omega),aRp];rw[show off+(a.eval y).cells.toList.length+(i - off - (a.eval y).cells.toList.length)=i from by omega];simp
      grind [bM.later]
    grind
   grind
  grind
 | q3 b g i off=>
  simp only[aG.gf,amU,aG.run_bind,aG.gW,aG.dF]at oj;obtain⟨⟨z,l⟩,bz,oj⟩:=oj;split at oj
  ·rename_i aB;obtain⟨aB,Di⟩:=aB;have Di:b ∉ l:=by grind
   split at oj
   ·rename_i e xs cm;simp only[aQX]at oj;obtain⟨oU,Dg,rfl⟩:=oj;obtain⟨fU,fW,mB⟩:=ak.2 aB.symm (by rw[cm];rfl);rw[cm]at fU mB;simp only[ca.len,ca.gU]at fU mB;obtain⟨F',f1,bm,f2⟩:=bx.mX (pv bz) D;have yC:=oP D.bH f1 bz f2 ag;have Qm:((s.cE l).ab b)=s.ab b:=by simp[aE.cE,Di]
    have a6:=bm.bH b;unfold c1 at a6;rw[Qm,cm]at a6;obtain⟨cs,ih,bI,c2,c3,c4,c5⟩:=a6.2 fW;obtain⟨bE,d1,d2⟩:=c5 i fU;have Qb:xs.getD i e.dW=xs[i]:=by grind
    rw[Qb]at Dg;have hy:=jT e d2;obtain⟨c6,cM,hU,bC,aMe,aMf,aob⟩:=ans e d2 Dg yC.2;have Gt:T ty≠.dc:=by
     intro a1;have:=yC.1;rw[a1]at this;exact this
    have AI:(a.eval y).cells.toList.length=(T ty).size:=yC.1.len;have KM:(i+1)*e.size<=(kap b).cap*e.size:=am4 _ (by omega);have hbound:off+(T ty).size<=e.size:=by
     grind
    have qj:∀ u∈(a.eval y).cells.toList,u.oneCell'=true:=by
     intro u hu;have kg:=C4 (P:=C.P) (H:=λ_=>⟨0,.ez⟩) (kap:=λ_=>⟨0,0,0,true⟩) (T ty) yC.2;obtain⟨j,aM,rfl⟩:=List.mem_iff_getElem.1 hu;have:=(kg.oa j (by rw[kg.len];exact aM)).2;grind
    have km:(kap b).off+i*e.size+off+0+(a.eval y).cells.toList.length<=cs.size:=by
     grind
    obtain⟨w',eA,cn,cN,fF,oi,mE,oT⟩:=yB (P:=C.P) (a.eval y).cells.toList ((kap b).off+i*e.size+off) 0 w cs bI km qj;refine fin w' (by rw[mB];simp[Instr.storeAt,Instr.sureAddr,KJ (aU.cb rfl Gt) (by omega) cn]) ⟨kap,F',?_⟩;have ra:s.iC ((kj l).run s.ab++[(b,⟨(s.ab b).gen,.bo e (xs.set i oU)⟩)])=(s.cE l).cq b ⟨(s.ab b).gen,.bo e (xs.set i oU)⟩:=by
     rw[Df,ui]
    rw[ra];have hx:fN (s.cE l).ab kap (λoe=>if oe=b then (⟨(s.ab b).gen,.bo e (xs.set i oU)⟩:b_) else (s.cE l).ab oe) kap:=
     po (by grind) (λh=>by cases h) (λ_=>by rw[Qm,cm];exact⟨rfl,by simp[ca.len],rfl⟩) (λh=>by cases h) (λh=>by cases h)
    have Zf:(kap b).fT=false:=fW;refine bm.q5 (b:=b) (x:=⟨(s.ab b).gen,.bo e (xs.set i oU)⟩) (by rw[Qm,cm];simp[ca.cg,Zf]) (by simp[ca.cg,Zf]) hx (λh=>by cases h) (λh=>by cases h) oi mE oT λH pw dx he=>?_;refine⟨λaA=>(by grind),λ_=>?_⟩;have KK:eA.size=cs.size:=by
     rw[<-aQK,fF];grind
    refine⟨eA,ih,cN,by omega,by grind,c4,λj aM=>?_⟩;have gV:j<xs.length:=by grind
    simp only[aSa]at fF km;have gh:∀ k,eA[k]?=if (kap b).off+i*e.size+off<=k/\k<(kap b).off+i*e.size+off+(T ty).size then (a.eval y).cells.toList[k - ((kap b).off+i*e.size+off)]? else cs[k]?:=by
     intro k;rw[<-aQP,fF];have mF:(cs.toList.take ((kap b).off+i*e.size+off)).length=(kap b).off+i*e.size+off:=by grind
     by_cases bh:(kap b).off+i*e.size+off<=k/\k<(kap b).off+i*e.size+off+(T ty).size
     ·rw[if_pos bh,am8 (by omega),mF,aQO (by omega)]
     ·rw[if_neg bh];rcases aRs k ((kap b).off+i*e.size+off) with E | E
      ·grind
      ·rw[am8 (by omega),mF,am8 (by omega),aRp];rw[show (kap b).off+i*e.size+off+(a.eval y).cells.toList.length+(k - ((kap b).off+i*e.size+off) - (a.eval y).cells.toList.length)=k from by omega];simp
    by_cases w5:j=i
    ·subst w5;have aF:(xs.set j oU)[j]=oU:=by simp
     rw[aF];refine⟨c6++((a.eval y).cells.toList++hU),λk aj=>?_,fM e (λ_ D=>D) he aob⟩;rw[gh];subst bC;simp only[aQW]at aj hy;by_cases bh:off<=k/\k<off+(T ty).size
     ·rw[if_pos (by omega)];rw[show (kap b).off+j*e.size+k - ((kap b).off+j*e.size+off)=k - c6.length from by omega];grind
     grind
    ·have aF:(xs.set i oU)[j]=xs[j]:=by grind
     rw[aF];obtain⟨Zg,Qn,AJ⟩:=c5 j gV;refine⟨Zg,λk aj=>?_,fM e (λ_ D=>D) he AJ⟩;rw[gh,if_neg]
     ·grind
     ·have aMg:=jT e AJ;rcases aRs j i with E | E
      ·have:(j+1)*e.size<=i*e.size:=am4 _ (by omega);grind
      ·have:(i+1)*e.size<=j*e.size:=am4 _ (by omega);grind
   grind
  grind
 | _=>cases oj
end
end Go.Fer
