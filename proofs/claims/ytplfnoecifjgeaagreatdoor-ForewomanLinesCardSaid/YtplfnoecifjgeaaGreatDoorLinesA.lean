/- Part 1 of the proof of Lines: shallow programs of Go functions, and what they compute. No condition. -/
import Derived.Below
import Derived.OrdersIn
import Derived.RangeFuncCalls
import Derived.RangeFuncSeq
import Derived.Laws.StructEq
import Derived.Laws.Tables
import Derived.ChangeMaps3
noncomputable section
abbrev ajh:=@Bool.false_eq_true
abbrev aji:=@Option.bind_eq_some_iff
abbrev ajj:=@List.getElem_mem
abbrev ajk:=@Option.some.injEq
abbrev ajl:=@decide_eq_true_eq
abbrev ajm:=@Bool.and_eq_true
abbrev ajn:=@Nat.le_refl
abbrev ajo:=@Nat.mul_le_mul_right
abbrev ajp:=@List.mem_cons_of_mem
abbrev ajq:=@if_false
abbrev ajr:=@Int.toNat_natCast
abbrev aju:=@Option.getD_some
abbrev aJ6:=@List.getElem_range
abbrev aJ7:=@List.getD_eq_getElem?_getD
abbrev aJ8:=@Prod.mk.injEq
abbrev aJ9:=@List.drop_eq_getElem_cons
abbrev aJ':=@Nat.lt_of_lt_of_le
abbrev aKa:=@Nat.le_trans
abbrev aKb:=@Array.getD_eq_getD_getElem?
abbrev aKc:=@List.getElem?_append_right
abbrev aKd:=@List.foldl_cons
abbrev aKe:=@decide_false
abbrev aKf:=@Option.isSome_some
abbrev aKg:=@List.append_nil
abbrev aKh:=@List.cons.inj
abbrev aKi:=@Array.length_toList
abbrev aKj:=@Bool.not_eq_true'
abbrev aKk:=@Array.getElem?_toList
abbrev aKl:=@implies_true
abbrev aKm:=@Bool.or_eq_true
abbrev aKn:=@List.mem_of_find?_eq_some
abbrev aKo:=@Bool.not_true
abbrev aKp:=@List.getElem?_eq_getElem
abbrev aKq:=@List.map_cons
abbrev aKr:=@Nat.zero_le
abbrev aKs:=@Int.le_refl
abbrev aKt:=@Option.map_eq_some_iff
abbrev aKu:=@List.all_eq_true
abbrev aKv:=@of_decide_eq_true
abbrev aKw:=@List.nil_append
abbrev aKx:=@List.length_append
abbrev aKy:=@List.mem_append_right
abbrev aKz:=@Nat.add_mul
abbrev aKA:=@List.map_congr_left
abbrev aKB:=@decide_eq_false_iff_not
abbrev aKC:=@List.eq_nil_of_length_eq_zero
abbrev aKD:=@List.length_map
abbrev aKE:=@List.take_length
abbrev aKF:=@Bool.not_false
abbrev aKG:=@List.flatMap_cons
abbrev aKH:=@and_self
abbrev aKI:=@Option.some.inj
abbrev aKJ:=@List.length_filter_le
abbrev aKK:=@List.set_getElem_self
abbrev aKL:=@List.length_replicate
abbrev aKM:=@Nat.lt_succ_self
abbrev aKN:=@List.length_cons
abbrev aKO:=@Bool.true_and
abbrev aKP:=@decide_true
abbrev aKQ:=@List.getElem?_append_left
abbrev aKR:=@List.mem_range
abbrev aKS:=@Bool.or_eq_false_iff
abbrev aKT:=@Nat.pow_le_pow_right
abbrev aKU:=@List.mem_cons
abbrev aKV:=@List.getElem?_toArray
abbrev aKW:=@Bool.eq_iff_iff
abbrev aKX:=@List.filter_append
abbrev aKY:=@List.getElem?_cons_zero
abbrev aKZ:=@Bool.false_or
abbrev aK0:=@true_and
abbrev aK1:=@List.append_assoc
abbrev aK2:=@Array.getElem?_eq_none
abbrev aK3:=@List.pairwise_lt_range
abbrev aK4:=@List.perm_ext_iff_of_nodup
abbrev aK5:=@List.mem_cons_self
abbrev aK6:=@List.any_cons
abbrev aK7:=@Int.zero_add
abbrev aK8:=@List.contains_iff_mem
abbrev aK9:=@Int.le_trans
abbrev aK':=@List.getElem_append_right
abbrev aLa:=@List.range_eq_range'
abbrev aLb:=@List.mem_of_getElem?
abbrev aLc:=@Option.map_some
abbrev aLd:=@List.range_succ
abbrev aLe:=@List.filter_congr
abbrev aLf:=@List.length_set
abbrev aLg:=@and_true
abbrev aLh:=@List.getElem?_cons_succ
abbrev aLi:=@List.filter_cons_of_pos
abbrev aLj:=@List.filter_cons_of_neg
abbrev aLk:=@List.length_take
abbrev aLl:=@List.mem_flatMap
abbrev aLm:=@List.getElem_map
abbrev aLn:=@List.getElem?_drop
abbrev aLo:=@Nat.pos_of_ne_zero
abbrev aLp:=@List.getElem?_take
abbrev aLq:=@Bool.true_eq_false
abbrev aLr:=@List.take_append_drop
abbrev aLs:=@List.map_append
abbrev aLt:=@List.mem_map
abbrev aLu:=@List.length_singleton
abbrev aLv:=@List.ext_getElem?
abbrev aLw:=@List.take_add_one
abbrev aLx:=@List.pairwise_map
abbrev aLy:=@List.countP_congr
abbrev aLz:=@List.Pairwise.filter
abbrev aLA:=@List.foldl_map
abbrev aLB:=@Bool.false_and
abbrev aLC:=@List.ext_getElem
abbrev aLD:=@Nat.le_of_not_lt
abbrev aLE:=@List.any_eq_true
abbrev aLF:=@List.not_mem_nil
abbrev aLG:=@List.mem_map_of_mem
abbrev aLH:=@List.flatMap_append
abbrev aLI:=@Int.toNat_of_nonneg
abbrev aLJ:=@List.countP_pos_iff
abbrev aLK:=@List.all_cons
abbrev aLL:=@Option.toList_some
abbrev aLM:=@List.mem_filter
abbrev aLN:=@Option.isSome_none
abbrev aLO:=@List.countP_append
abbrev aLP:=@List.length_range
abbrev aLQ:=@Nat.lt_or_ge
abbrev aLR:=@Nat.le_of_eq
abbrev aLS:=@forall_const
abbrev aLT:=@List.range'_succ
abbrev aLU:=@Nat.succ_lt_succ
abbrev aLV:=@Nat.zero_lt_succ
abbrev aLW:=@List.map_flatMap
abbrev aLX:=@List.countP_cons
abbrev aLY:=@imp_self
abbrev z1':=List Int
abbrev z2':=List (Int×Int×Int×Int)
abbrev z3':=List (Int×Int)
abbrev z4':=List (Int×Int×Int)
abbrev z5':=List ((Int×Int×Int)×Int)
abbrev z6':=List (Nat×(Nat×Nat))
abbrev z7':=List (Int×Int×Int×Int×Int×Int)
abbrev z8':=List (Nat×Nat)
abbrev z9':=List (Option Nat)
set_option linter.unusedVariables false
set_option linter.unusedSimpArgs false
namespace Go.Fer
@[ext] structure G (ag:Type):Type where
 et:Prop
 bo:ag->Prop
section
variable {ag bet eK A rho:Type}
def mpure(x:ag):G ag:=⟨True,λy=>y=x⟩
def ao(m:G ag)(f:ag->G bet):G bet:=⟨m.et/\∀ x,m.bo x->(f x).et,λy=>∃ x,m.bo x/\(f x).bo y⟩
def ad(p:Prop)(m:G ag):G ag:=⟨p/\m.et,m.bo⟩
def eL(p:Prop)(x:ag):G ag:=⟨p,λy=>y=x⟩
def any(p:ag->Prop):G ag:=⟨∃ x,p x,p⟩
theorem vk{m n:G ag}(E:m.et<->n.et)(M:∀ x,m.bo x<->n.bo x):m=n:=by
 cases m;cases n;simp only[G.mk.injEq];grind
@[simp] theorem h1 (x:ag):(mpure x).et=True:=rfl
@[simp] theorem aGT (x y:ag):(mpure x).bo y=(y=x):=rfl
@[simp] theorem aH (x:ag) (f:ag->G bet):ao (mpure x) f=f x:=vk (by simp[ao,mpure]) (by simp[ao,mpure])
@[simp] theorem aGU (m:G ag):ao m mpure=m:=vk (by simp[ao,mpure]) (by simp[ao,mpure])
theorem bb{p:Prop}(h:p)(m:G ag):ad p m=m:=vk (by simp[ad,h]) (by simp[ad])
@[simp] theorem bS (m:G ag):ad True m=m:=bb trivial m
theorem HP(p:Prop)(m:G ag)(f:ag->G bet):ao (ad p m) f=ad p (ao m f):=vk (by simp[ao,ad,and_assoc]) (by simp[ao,ad])
@[simp] theorem rE (x:ag):eL True x=mpure x:=rfl
theorem bJ{p:Prop}(h:p)(x:ag):eL p x=mpure x:=vk (by simp_all) (by simp_all)
theorem ed(p:Prop)(x:ag)(f:ag->G bet):ao (eL p x) f=ad p (f x):=by
 apply vk
 ·simp[ao,eL,ad]
 ·simp[ao,eL,ad]
theorem Vi{c:Prop}[Decidable c](m n:G ag)(f:ag->G bet):ao (if c then m else n) f=if c then ao m f else ao n f:=by grind
def aR(n m:G ag):Prop:=m.et->n.et/\∀ y,n.bo y->m.bo y
theorem le_refl(m:G ag):aR m m:=λh=>⟨h,λ_ h=>h⟩
theorem le_trans{a b c:G ag}(h:aR a b)(k:aR b c):aR a c:=λaz=>⟨(h (k az).1).1,λy bh=>(k az).2 y ((h (k az).1).2 y bh)⟩
theorem le_of_eq{a b:G ag}(h:a=b):aR a b:=h ▸ le_refl a
def dj(m:G ag)(p:ag->Prop):Prop:=m.et/\∀ y,m.bo y->p y
theorem dj.mono{m:G ag}{p q:ag->Prop}(h:dj m p)(k:∀ y,p y->q y):dj m q:=⟨h.1,λy bh=>k y (h.2 y bh)⟩
theorem eY{x:ag}{p:ag->Prop}:dj (mpure x) p<->p x:=⟨λh=>h.2 x rfl,λh=>⟨trivial,λ_ e=>e ▸ h⟩⟩
theorem hp{m:G ag}{f:ag->G bet}{p:bet->Prop}:dj (ao m f) p<->dj m λx=>dj (f x) p:=
 ⟨λh=>⟨h.1.1,λx al=>⟨h.1.2 x al,λy bh=>h.2 y ⟨x,al,bh⟩⟩⟩,λh=>⟨⟨h.1,λx al=>(h.2 x al).1⟩,λy ⟨x,al,bh⟩=>(h.2 x al).2 y bh⟩⟩
theorem l_{q:Prop}{m:G ag}{p:ag->Prop}:dj (ad q m) p<->q/\dj m p:=by
 simp[dj,ad,and_assoc]
inductive bq(A rho:Type) where
 | next (s:A)
 | done (r:rho)
inductive DY(body:A->G (bq A rho)):A->Prop where
 | mk (s:A) (h:(body s).et) (k:∀ s',(body s).bo (.next s')->DY body s'):DY body s
inductive Bf(body:A->G (bq A rho)):A->rho->Prop where
 | done (s:A) (r:rho) (h:(body s).bo (.done r)):Bf body s r
 | next (s s':A) (r:rho) (h:(body s).bo (.next s')) (k:Bf body s' r):Bf body s r
def dG(body:A->G (bq A rho))(s:A):G rho:=⟨DY body s,Bf body s⟩
theorem DZ(body:A->G (bq A rho))(s:A) :
  dG body s=ao (body s) fun | .next s'=>dG body s' | .done r=>mpure r:=by
 apply vk
 ·constructor
  ·rintro⟨_,h,k⟩;refine⟨h,λx al=>?_⟩;cases x with
   | next s'=>exact k s' al
   | done r=>trivial
  ·rintro⟨h,k⟩;exact⟨s,h,λs' az=>k _ az⟩
 ·intro r;constructor
  ·rintro (⟨_,_,h⟩ | ⟨_,s',_,h,k⟩)
   ·exact⟨.done r,h,rfl⟩
   ·exact⟨.next s',h,k⟩
  ·rintro⟨x,al,U⟩;cases x with
   | next s'=>exact .next s s' r al U
   | done wZ=>cases U;exact .done s _ al
theorem Bg{body:A->G (bq A rho)}{s s':A}(h:body s=mpure (.next s')):dG body s=dG body s':=by
 rw[DZ,h,aH]
theorem tR{body:A->G (bq A rho)}{s:A}{r:rho}(h:body s=mpure (.done r)):dG body s=mpure r:=by
 rw[DZ,h,aH]
theorem ajz{body:A->G (bq A rho)}{res:rho}(I:A->Prop)(yI:A->Nat)
  (round:∀ s,I s->(∃ s',body s=mpure (.next s')/\I s'/\yI s'<yI s)\/body s=mpure (.done res)) (s:A) (h:I s) :
  dG body s=mpure res:=by
 have key:∀ n s,yI s=n->I s->dG body s=mpure res:=by
  intro n;induction n using Nat.strongRecOn with
  | _ n aP=>
   intro s aC az;rcases round s az with⟨s',e,fa,cF⟩ | e
   ·rw[Bg e];grind
   ·exact tR e
 grind
theorem D0{body:A->G (bq A rho)}{p:rho->Prop}(I:A->Prop)(yI:A->Nat)
  (round:∀ s,I s->dj (body s) fun | .next s'=>I s'/\yI s'<yI s | .done r=>p r) (s:A) (h:I s):dj (dG body s) p:=by
 have key:∀ n s,yI s=n->I s->dj (dG body s) p:=by
  intro n;induction n using Nat.strongRecOn with
  | _ n aP=>
   intro s aC az;rw[DZ,hp];refine (round s az).mono λy bh=>?_;cases y with
   | next s'=>grind
   | done r=>exact eY.2 bh
 grind
end
end Go.Fer
namespace Go.Fer
def Vj(b:Nat)(c:Nat->Option Value):Prop:=
 match b with
 | 0=>∃ m,c 0=some (.int .i64 m)
 | 1 | 2=>∃ v,c 0=some v/\(v=.nilIface\/∃ nj nM,v=.iface nj nM)
 | 5=>∀ i,c i=if i<20 then some (.int .u64 (10 ^ i)) else none
 | _=>True
end Go.Fer
namespace Go.Fer
open Go.RowKit
inductive aa where
 | bool | int (k:IntKind) | str | dp
 | ae (t:aa) | ar (a b:aa)
 | slice (e:aa) | array (n:Nat) (e:aa) | bV (e:aa) | map (k v:aa) | fn (a b:aa) | cO (a:aa) | e3
 deriving DecidableEq
@[reducible] def aa.ak:aa->Type
 | .bool=>Bool
 | .int _=>Int
 | .str=>List UInt8
 | .dp=>Unit
 | .ae t=>t.ak
 | .ar a b=>a.ak×b.ak
 | .slice e=>List e.ak
 | .array _ e=>List e.ak
 | .bV e=>Option e.ak
 | .map k v=>List (k.ak×v.ak)
 | .fn a b=>a.ak->G b.ak
 | .cO a=>List a.ak->Prop
 | .e3=>Option Nat
def aa.dK:(t:aa)->t.ak
 | .bool=>false
 | .int _=>(0:Int)
 | .str=>[]
 | .dp=>()
 | .ae t=>t.dK
 | .ar a b=>(a.dK,b.dK)
 | .slice _=>[]
 | .array n e=>List.replicate n e.dK
 | .bV _=>none
 | .map _ _=>[]
 | .fn _ _=>λ_=>⟨False,λ_=>False⟩
 | .cO _=>λ_=>False
 | .e3=>none
def aa.size:aa->Nat
 | .dp=>0
 | .ae t=>t.size
 | .ar a b=>a.size+b.size
 | .array n e=>n*e.size
 | _=>1
def aa.fE:aa->Bool
 | .dp | .ae _ | .ar _ _ | .array _ _=>false
 | _=>true
def gS(k:IntKind)(n:Int):Prop:=k.min<=n/\n<=k.max
instance (k:IntKind) (n:Int):Decidable (gS k n):=inferInstanceAs (Decidable (_/\_))
def Holds(F:Nat->Prop)(w:World)(p:Addr)(cs:List Value):Prop:=
 F p.block/\p.spot=none/\∀ j (h:j<cs.length),w.cell? ⟨p.block,p.off+j,none⟩=some cs[j]
def dy(F:Nat->Prop)(w w':World):Prop:=w.heap.size<=w'.heap.size/\∀ r,F r->w'.heap[r]?=w.heap[r]?
theorem dy.refl(F:Nat->Prop)(w:World):dy F w w:=⟨ajn _,λ_ _=>rfl⟩
theorem dy.trans{F F':Nat->Prop}{a b c:World}(h:dy F a b)(bF:∀ r,F r->F' r)(k:dy F' b c):dy F a c:=
 ⟨aKa h.1 k.1,λr U=>(k.2 r (bF r U)).trans (h.2 r U)⟩
theorem dy.cell{F:Nat->Prop}{w w':World}(h:dy F w w'){a:Addr}(br:F a.block):w'.cell? a=w.cell? a:=by
 simp  [World.cell?,h.2 _ br]
def o7(P:Program)(F:Nat->Prop)(w:World):Prop:=∀ b,b<P.globals.size->F b/\Vj b λi=>w.cell? ⟨b,i,none⟩
theorem o7.mono{P:Program}{F F':Nat->Prop}{w w':World}(h:o7 P F w)(bF:∀ r,F r->F' r)(he:dy F w w'):o7 P F' w':=λb V=>by
 obtain⟨E,M⟩:=h b V;have e:=funext λi=>he.cell (a:=⟨b,i,none⟩) E;grind
theorem Holds.mono{F F':Nat->Prop}{w w':World}{p:Addr}{cs:List Value}(h:Holds F w p cs)(bF:∀ r,F r->F' r)(he:dy F w w'):Holds F' w' p cs:=
 ⟨bF _ h.1,h.2.1,λj aI=>(he.cell (a:=⟨p.block,p.off+j,none⟩) h.1).trans (h.2.2 j aI)⟩
def l':aa->Value->Prop
 | .ae t,v=>∃ cs:Array Value,v=.agg cs/\cs.size=t.size
 | .array n e,v=>∃ cs:Array Value,v=.agg cs/\cs.size=n*e.size
 | .dp,_=>False
 | .ar _ _,_=>False
 | _,v=>v.cells=#[v]
def fh(aJ:List Value):List Value:=aJ.flatMap (·.cells.toList)
@[simp] theorem aGV:fh []=[]:=rfl
@[simp] theorem ajA (v:Value) (aJ:List Value):fh (v::aJ)=v.cells.toList++fh aJ:=rfl
def yJ:aa->List Value->Prop
 | .ar a b,v::aJ=>l' a v/\yJ b aJ
 | .ar _ _,[]=>False
 | .dp,aJ=>aJ=[]
 | t,aJ=>∃ v,aJ=[v]/\l' t v
def HQ:aa->Value->List Value->Prop
 | .ar _ _,v,aJ=>v=.tuple aJ.toArray
 | .dp,v,aJ=>v=.tuple #[]/\aJ=[]
 | _,v,aJ=>aJ=[v]
def w0(F:Nat->Prop)(w w':World):Nat->Prop:=λr=>F r\/(w.heap.size<=r/\r<w'.heap.size)
structure HR(P:Program){ag:Type}(R:(Nat->Prop)->World->List Value->ag->Prop)(l:Nat)(S:List ag->Prop)(I:List ag->Bool->(Nat->Prop)->(Nat->Prop)->World->Prop):Prop where
 D1:∀ {pre ae} {F F' Y:Nat->Prop} {w w':World},I pre ae F Y w->(∀ r,F r->F' r)->(∀ r,F r\/Y r->w'.heap[r]?=w.heap[r]?)->w.heap.size<=w'.heap.size->w'.os=w.os/\w'.tape=w.tape/\w'.output=w.output->(∀ r,F' r->r<w'.heap.size)->(∀ r,F' r->¬Y r)->I pre ae F' Y w'
 yield:∀ {pre} {F Y:Nat->Prop} {w:World} {args:List Value} {x:ag},I pre false F Y w->(∀ r,F r->r<w.heap.size)->(∀ r,Y r->r<w.heap.size/\¬F r)->(∃ T,S (pre++x::T))->R F w args x->
  YieldAt Fence.wide 0 P l args.toArray w λe w'=>∃ (b:Bool) (F' iv:Nat->Prop),e=.returned (.bool b)/\(∀ r,F r->F' r)/\(∀ r,F' r->F r\/Y r\/w.heap.size<=r)/\(∀ r,F' r->r<w'.heap.size)/\
   (∀ r,r<w.heap.size->¬Y r->w'.heap[r]?=w.heap[r]?)/\(∀ r,iv r->(Y r\/w.heap.size<=r)/\r<w'.heap.size/\¬F' r)/\w.heap.size<=w'.heap.size/\(w'.os=w.os/\w'.tape=w.tape/\w'.output=w.output)/\I (pre++[x]) (!b) F' iv w'
def Vk{ag:Type}(S:List ag->Prop)(I:List ag->Bool->(Nat->Prop)->(Nat->Prop)->World->Prop)(F Y:Nat->Prop)(w:World)(e:Ending)(w':World):Prop:=
 ∃ v pre ae F' iv,e=.returned v/\(ae=false->S pre)/\I pre ae F' iv w'/\(∀ r,F r->F' r)/\(∀ r,F' r->F r\/Y r\/w.heap.size<=r)/\(∀ r,F' r->r<w'.heap.size)/\
  (∀ r,r<w.heap.size->¬Y r->w'.heap[r]?=w.heap[r]?)/\(∀ r,iv r->(Y r\/w.heap.size<=r)/\r<w'.heap.size/\¬F' r)/\w.heap.size<=w'.heap.size/\(w'.os=w.os/\w'.tape=w.tape/\w'.output=w.output)
def ajB:Option Nat->Value
 | none=>.nilFunc
 | some k=>.func (.func k) #[] #[]
def cr(P:Program):(t:aa)->(Nat->Prop)->World->List Value->t.ak->Prop
 | .bool,_,_,cs,x=>cs=[.bool x]
 | .int k,_,_,cs,x=>cs=[.int k x]/\gS k x
 | .str,_,_,cs,x=>cs=[.string ⟨x.toArray⟩]/\x.length<2 ^ 63
 | .dp,_,_,cs,_=>cs=[]
 | .ae t,F,w,cs,x=>cr P t F w cs x
 | .ar a b,F,w,cs,x=>∃ c d,cs=c++d/\cr P a F w c x.1/\cr P b F w d x.2
 | .slice e,F,w,cs,xs=>∃ a cap,cs=[.slice a xs.length cap]/\xs.length<=cap/\cap<2 ^ 63/\(a=none->cap=0)/\
   ∀ p,a=some p->0<cap->F p.block/\p.spot=none/\∀ i (h:i<xs.length),∃ bI,Holds F w ⟨p.block,p.off+i*e.size,none⟩ bI/\cr P e F w bI xs[i]
 | .array n e,F,w,cs,xs=>∃ gm:List (List Value),cs=gm.flatten/\gm.length=n/\xs.length=n/\∀ i (h:i<xs.length) (eA:i<gm.length),cr P e F w gm[i] xs[i]
 | .bV e,F,w,cs,x=>(cs=[.pointer none]/\x=none)\/∃ p y bI,cs=[.pointer (some p)]/\x=some y/\Holds F w p bI/\cr P e F w bI y
 | .map k v,F,w,cs,xs=>(cs=[.map none]/\xs=[])\/∃ r es clk,cs=[.map (some r)]/\F r/\w.heap[r]?=some (.map es clk)/\es.size=xs.length/\(xs.map (·.1)).Nodup/\
   (∀ i (h:i<xs.length) (eA:i<es.size),l' k es[i].key/\cr P k F w es[i].key.cells.toList xs[i].1/\l' v es[i].val/\cr P v F w es[i].val.cells.toList xs[i].2/\es[i].born<clk)/\
   (∀ i j (h:i<es.size) (eA:j<es.size),es[i].born=es[j].born->i=j)
 | .fn a b,F,w,cs,f=>∃ u,cs=[u]/\(u.cells=#[u]/\u.oneCell'=true)/\∀ (F':Nat->Prop) (w':World),(∀ r,F r->F' r)->dy F w w'->(∀ r,F' r->r<w'.heap.size)->o7 P F' w'->
   ∀ args x,yJ a args->cr P a F' w' (fh args) x->(f x).et->∃ g du,u=.func (.func g) #[] du/\(∀ as w,(callFunc g as).run P w=.ok (.enter g as) w)/\
    Calls P g (args.toArray++du) w' λe vl=>∃ v y aJ,e=.returned v/\(f x).bo y/\HQ b v aJ/\yJ b aJ/\cr P b (w0 F' w' vl) vl (fh aJ) y/\Below w'.heap.size w' vl
 | .cO a,F,w,cs,S=>∃ u,cs=[u]/\(u.cells=#[u]/\u.oneCell'=true)/\∀ (F':Nat->Prop) (w':World),(∀ r,F r->F' r)->dy F w w'->(∀ r,F' r->r<w'.heap.size)->o7 P F' w'->
   (∃ L,S L)->∃ g du,u=.func (.func g) #[] du/\(∀ as w,(callFunc g as).run P w=.ok (.enter g as) w)/\
    ∀ (l:Nat) (I:List a.ak->Bool->(Nat->Prop)->(Nat->Prop)->World->Prop) (Y:Nat->Prop),(∀ r,Y r->r<w'.heap.size/\¬F' r)->
     HR P (λF w args x=>yJ a args/\cr P a F w (fh args) x) l S I->I [] false F' Y w'->Calls P g (#[Value.func (.yield l) #[] #[]]++du) w' (Vk S I F' Y w')
 | .e3,_,_,cs,x=>cs=[ajB x]
theorem jx{P:Program}:∀ (t:aa) {F:Nat->Prop} {w:World} {cs:List Value} {x:t.ak},cr P t F w cs x->cs.length=t.size:=by
 intro t;induction t with
 | bool=>intro F w cs x h;simp  [cr]at h;simp[h,aa.size]
 | int k=>intro F w cs x h;simp[h.1,aa.size]
 | str=>intro F w cs x h;simp[h.1,aa.size]
 | dp=>intro F w cs x h;simp  [cr]at h;simp[h,aa.size]
 | ae t aP=>intro F w cs x h;exact aP h
 | ar a b gD fy=>
  intro F w cs x h;obtain⟨c,d,rfl,br,V⟩:=h;simp[aa.size,gD br,fy V]
 | slice e aP=>intro F w cs x h;obtain⟨a,cap,rfl,_⟩:=h;rfl
 | array n e aP=>
  intro F w cs x h;obtain⟨gm,rfl,E,M,ai⟩:=h;have:∀ l∈gm,l.length=e.size:=by
   intro l af;obtain⟨i,D,rfl⟩:=List.mem_iff_getElem.1 af;grind
  have bf:gm.map List.length=List.replicate n e.size:=by
   rw[<-E];exact List.eq_replicate_iff.2 ⟨by simp,by grind⟩
  simp[bf,aa.size]
 | bV e aP=>intro F w cs x h;rcases h with⟨rfl,_⟩ | ⟨p,y,bI,rfl,_⟩<;>rfl
 | map k v yK yL=>intro F w cs x h;rcases h with⟨rfl,_⟩ | ⟨r,es,clk,rfl,_⟩<;>rfl
 | fn a b gD fy=>intro F w cs x h;obtain⟨u,rfl,_⟩:=h;rfl
 | cO a aP=>intro F w cs x h;obtain⟨u,rfl,_⟩:=h;rfl
 | e3=>intro F w cs x h;subst h;rfl
theorem fQ{P:Program}:∀ (t:aa) {F F':Nat->Prop} {w w':World} {cs:List Value} {x:t.ak},(∀ r,F r->F' r)->dy F w w'->cr P t F w cs x->cr P t F' w' cs x:=by
 intro t;induction t with
 | bool=>intro F F' w w' cs x _ _ h;exact h
 | int k=>intro F F' w w' cs x _ _ h;exact h
 | str=>intro F F' w w' cs x _ _ h;exact h
 | dp=>intro F F' w w' cs x _ _ h;exact h
 | ae t aP=>intro F F' w w' cs x bF he h;simp  [cr]at h ⊢;grind
 | ar a b gD fy=>
  intro F F' w w' cs x bF he h;simp  [cr]at h ⊢;grind
 | slice e aP=>
  intro F F' w w' cs x bF he h;obtain⟨a,cap,rfl,E,M,ai,bf⟩:=h;refine⟨a,cap,rfl,E,M,ai,λp aq hc=>?_⟩;obtain⟨aY,a_,b7⟩:=bf p aq hc;refine⟨bF _ aY,a_,λi D=>?_⟩;obtain⟨bI,m1,m2⟩:=b7 i D;exact⟨bI,m1.mono bF he,aP bF he m2⟩
 | array n e aP=>
  intro F F' w w' cs x bF he h;simp  [cr]at h ⊢;grind
 | bV e aP=>
  intro F F' w w' cs x bF he h;simp  [cr]at h ⊢;rcases h with h | ⟨p,y,bI,E,M,ai,bf⟩
  ·grind
  ·exact .inr ⟨p,y,bI,E,M,ai.mono bF he,aP bF he bf⟩
 | map k v yK yL=>
  intro F F' w w' cs x bF he h;simp only[cr]at h ⊢;rcases h with h | ⟨r,es,clk,E,M,ai,bf,b2,d_,hn⟩
  ·grind
  ·refine .inr ⟨r,es,clk,E,bF _ M,(he.2 _ M).trans ai,bf,b2,λi D eE=>?_,hn⟩;grind
 | fn a b gD fy=>
  intro F F' w w' cs x bF he h;obtain⟨u,rfl,hu,E⟩:=h;exact⟨u,rfl,hu,λM3 vl w1 D2 az=>E M3 vl (λr U=>w1 r (bF r U)) (he.trans bF D2) az⟩
 | cO a aP=>
  intro F F' w w' cs x bF he h;obtain⟨u,rfl,hu,E⟩:=h;exact⟨u,rfl,hu,λM3 vl w1 D2 az=>E M3 vl (λr U=>w1 r (bF r U)) (he.trans bF D2) az⟩
 | e3=>intro F F' w w' cs x _ _ h;exact h
def e4(P:Program)(t:aa)(F:Nat->Prop)(w:World)(v:Value)(x:t.ak):Prop:=l' t v/\cr P t F w v.cells.toList x
def gn(P:Program)(t:aa)(F:Nat->Prop)(w:World)(aJ:List Value)(x:t.ak):Prop:=yJ t aJ/\cr P t F w (fh aJ) x
def vm(P:Program)(t:aa)(F:Nat->Prop)(w:World)(v:Value)(x:t.ak):Prop:=∃ aJ,HQ t v aJ/\gn P t F w aJ x
theorem e4.mono{P:Program}{t:aa}{F F':Nat->Prop}{w w':World}{v:Value}{x:t.ak}(h:e4 P t F w v x)(bF:∀ r,F r->F' r)(he:dy F w w'):e4 P t F' w' v x:=
 ⟨h.1,fQ t bF he h.2⟩
theorem HS{v:Value}(h:v.oneCell'=true):v.cells=#[v]:=by
 cases v<;>first | rfl | cases h
theorem Vl{v:Value}(h:v.cells=#[v]):v.cells.toList=[v]:=by rw[h]
theorem l'.len{t:aa}{v:Value}(h:l' t v):v.cells.toList.length=t.size:=by
 cases t<;>simp  [l']at h<;>first
  | (obtain⟨cs,rfl,h⟩:=h;simpa [Value.cells,aa.size]using h)
  | (rw[Vl h];rfl)
  | exact h.elim
theorem D3{P:Program}{a b:aa}{F:Nat->Prop}{w:World}{v:Value}{aJ:List Value}{x:a.ak}{y:b.ak} :
  gn P (.ar a b) F w (v::aJ) (x,y)<->e4 P a F w v x/\gn P b F w aJ y:=by
 constructor
 ·rintro⟨⟨E,M⟩,c,d,e,hc,an⟩;have af:=jx a hc;have:=List.append_inj e (by rw[af];exact E.len);obtain⟨ax,aU⟩:=this;subst ax;subst aU;exact⟨⟨E,hc⟩,M,an⟩
 ·rintro⟨⟨E,M⟩,ai,bf⟩;exact⟨⟨E,ai⟩,_,_,rfl,M,bf⟩
theorem HT{P:Program}{a b:aa}{F:Nat->Prop}{w:World}{aJ:List Value}{x:(aa.ar a b).ak}(h:gn P (.ar a b) F w aJ x) :
  ∃ v us,aJ=v::us/\e4 P a F w v x.1/\gn P b F w us x.2:=by
 cases aJ with
 | nil=>exact h.1.elim
 | cons v us=>exact⟨v,us,rfl,D3.1 h⟩
def aa.hH:aa->Bool
 | .ar _ _ | .dp=>false
 | _=>true
theorem tS{P:Program}{t:aa}(aT:t.hH=true){F:Nat->Prop}{w:World}{aJ:List Value}{x:t.ak} :
  gn P t F w aJ x<->∃ v,aJ=[v]/\e4 P t F w v x:=by
 have key:yJ t aJ<->∃ v,aJ=[v]/\l' t v:=by cases t<;>simp[aa.hH,yJ]at aT ⊢
 unfold gn e4;constructor<;>simp_all
section
variable {P:Program} {F:Nat->Prop} {w:World} {v:Value}
@[simp] theorem f' {x:Bool}:e4 P .bool F w v x<->v=.bool x:=by
 constructor
 ·rintro⟨E,M⟩;simp only[l']at E;simp only[cr]at M;rw[Vl E]at M;simpa using M
 ·rintro rfl;exact⟨by simp[l',Value.cells],by simp[cr,Value.cells]⟩
theorem h'{k:IntKind}{x:Int}:e4 P (.int k) F w v x<->v=.int k x/\gS k x:=by
 constructor
 ·rintro⟨E,M⟩;simp  [l']at E;simp  [cr]at M;grind
 ·rintro⟨rfl,h⟩;exact⟨by rfl,by simpa [cr,Value.cells]using h⟩
theorem oc{x:List UInt8}:e4 P .str F w v x<->v=.string ⟨x.toArray⟩/\x.length<2 ^ 63:=by
 constructor
 ·rintro⟨E,M⟩;simp  [l']at E;simp  [cr]at M;grind
 ·rintro⟨rfl,h⟩;exact⟨by rfl,by simpa [cr,Value.cells]using h⟩
theorem eH{t:aa}(aT:t.fE=true){x:t.ak}:e4 P t F w v x<->v.cells=#[v]/\cr P t F w [v] x:=by
 have E:l' t v<->v.cells=#[v]:=by cases t<;>simp[aa.fE,l']at aT ⊢
 unfold e4;grind
theorem M4{t:aa}(aT:t.fE=true){F:Nat->Prop}{w:World}{u:Value}{x:t.ak}(h:cr P t F w [u] x):u.oneCell'=true:=by
 cases t<;>simp only[cr]at aT h<;>try contradiction
 ·obtain rfl:=(aKh h).1;rfl
 ·obtain rfl:=(aKh h.1).1;rfl
 ·obtain rfl:=(aKh h.1).1;rfl
 ·obtain⟨a,cap,h,_⟩:=h;obtain rfl:=(aKh h).1;rfl
 ·rcases h with⟨h,_⟩ | ⟨p,y,bI,h,_⟩<;>(obtain rfl:=(aKh h).1;rfl)
 ·rcases h with⟨h,_⟩ | ⟨r,es,clk,h,_⟩<;>(obtain rfl:=(aKh h).1;rfl)
 ·grind
 ·grind
 ·obtain rfl:=(aKh h).1;cases x<;>rfl
theorem HU{t:aa}(aT:t.fE=true){F:Nat->Prop}{w:World}{cs:List Value}{x:t.ak}(h:cr P t F w cs x):∃ u,cs=[u]/\u.cells=#[u]:=by
 cases t<;>simp only[cr]at aT h<;>try contradiction
 ·exact⟨_,h,rfl⟩
 ·exact⟨_,h.1,rfl⟩
 ·exact⟨_,h.1,rfl⟩
 ·obtain⟨a,cap,rfl,_⟩:=h;exact⟨_,rfl,rfl⟩
 ·rcases h with⟨rfl,_⟩ | ⟨p,y,bI,rfl,_⟩<;>exact⟨_,rfl,rfl⟩
 ·rcases h with⟨rfl,_⟩ | ⟨r,es,clk,rfl,_⟩<;>exact⟨_,rfl,rfl⟩
 ·grind
 ·grind
 ·exact⟨_,h,by cases x<;>rfl⟩
end
structure je(P:Program)(k:FuncId)(ts tr:aa)(sh:ts.ak->G tr.ak):Prop where
 enter:∀ args w,(callFunc k args).run P w=.ok (.enter k args) w
 ki:∀ (F:Nat->Prop) (w:World) (args:List Value) (x:ts.ak),(∀ r,F r->r<w.heap.size)->o7 P F w->gn P ts F w args x->(sh x).et->
  Calls P k args.toArray w λe w'=>∃ v y,e=.returned v/\(sh x).bo y/\vm P tr (w0 F w w') w' v y/\Below w.heap.size w w'
structure Vm(P:Program)(k:FuncId)(ts tr:aa)(sh:ts.ak->G tr.ak):Prop where
 ki:∀ (F:Nat->Prop) (w:World) (args:List Value) (x:ts.ak),(∀ r,F r->r<w.heap.size)->o7 P F w->gn P ts F w args x->(sh x).et->
  Calls P k args.toArray w λe w'=>∃ v y,e=.returned v/\(sh x).bo y/\vm P tr (λr=>w.heap.size<=r/\r<w'.heap.size) w' v y/\Below w.heap.size w w'
def hI:List aa->aa
 | []=>.dp
 | [t]=>t
 | t::u::l=>.ar t (hI (u::l))
def HV:(as ds:List aa)->(hI as).ak->(hI ds).ak->(hI (as++ds)).ak
 | [],_,_,y=>y
 | [_],[],x,_=>x
 | [_],_::_,x,y=>(x,y)
 | _::u::l,ds,x,y=>(x.1,HV (u::l) ds x.2 y)
theorem Vn{P:Program}{F:Nat->Prop}{w:World}:∀ (as ds:List aa),as.all aa.hH=true->∀ {aJ us:List Value} {x:(hI as).ak} {y:(hI ds).ak},gn P (hI as) F w aJ x->gn P (hI ds) F w us y->gn P (hI (as++ds)) F w (aJ++us) (HV as ds x y)
 | [],ds,_,aJ,us,x,y,E,M=>by
  obtain rfl:=E.1;exact M
 | [t],[],_,aJ,us,x,y,E,M=>by
  obtain rfl:=M.1;have e:=aKg aJ;rw[e];exact E
 | [t],b::ds,h,aJ,us,x,y,E,M=>by
  have aT:t.hH=true:=by grind
  obtain⟨v,rfl,ab⟩:=(tS aT).1 E;exact D3.2 ⟨ab,M⟩
 | t::u::l,ds,h,aJ,us,x,y,E,M=>by
  obtain⟨v,tT,rfl,ai,bf⟩:=HT     E;have af:(u::l).all aa.hH=true:=by
   grind
  have:=Vn (u::l) ds af bf M;exact D3.2 ⟨ai,this⟩
structure ajC where
 ts:aa
 tr:aa
 sh:ts.ak->G tr.ak
structure HW where
 as:List aa
 cs:List aa
 tr:aa
 sh:(hI (as++cs.map .bV)).ak->G tr.ak
structure yM where
 cs:List aa
 aN:aa
 S:(hI (cs.map .bV)).ak->List aN.ak->Prop
structure yN(P:Program)(k:FuncId)(v:yM):Prop where
 enter:∀ args w,(callFunc k args).run P w=.ok (.enter k args) w
 ki:∀ (F:Nat->Prop) (w:World) (du:List Value) (x:(hI (v.cs.map .bV)).ak),(∀ r,F r->r<w.heap.size)->o7 P F w->gn P (hI (v.cs.map .bV)) F w du x->(∃ L,v.S x L)->
  ∀ (l:Nat) (I:List v.aN.ak->Bool->(Nat->Prop)->(Nat->Prop)->World->Prop) (Y:Nat->Prop),(∀ r,Y r->r<w.heap.size/\¬F r)->
   HR P (gn P v.aN) l (v.S x) I->I [] false F Y w->Calls P k (#[Value.func (.yield l) #[] #[]]++du.toArray) w (Vk (v.S x) I F Y w)
structure ew where
 vn:Nat->Option ajC
 vo:Nat->Option HW
 yO:Nat->Option yM:=λ_=>none
structure sL(P:Program)(ba:ew):Prop where
 vn:∀ k v,ba.vn k=some v->je P k v.ts v.tr v.sh
 vo:∀ k v,ba.vo k=some v->v.as.all aa.hH=true/\je P k (hI (v.as++v.cs.map .bV)) v.tr v.sh
 yO:∀ k v,ba.yO k=some v->yN P k v:=by intro k v h;cases h
theorem ajD{P:Program}{k:FuncId}{ts tr:aa}{sh:ts.ak->G tr.ak}(h:je P k ts tr sh)(F:Nat->Prop)(w:World):cr P (.fn ts tr) F w [.func (.func k) #[] #[]] sh:=by
 refine⟨_,rfl,⟨rfl,rfl⟩,λF' w' _ _ az aA args x E M ai=>⟨k,#[],rfl,h.enter,?_⟩⟩;have:=h.ki F' w' args x az aA ⟨E,M⟩ ai;exact this.mono λe vl ⟨v,y,ax,aU,⟨aJ,cD,eZ,fR⟩,hf⟩=>⟨v,y,aJ,ax,aU,cD,eZ,fR,hf⟩
end Go.Fer
namespace Go.Fer
open Go.RowKit
inductive aO where
 | undef
 | val (t:aa) (x:t.ak)
 | jU (b:Bool) (a:aO)
 | aK (b g off:Nat)
 | own (b g:Nat)
 | pV (b g i off:Nat)
 | eI (t:aa) (x:t.ak)
 | gE (b g:Nat)
 | jV (k:FuncId) (n:Nat) (du:Nat->aO)
 | tU (k:FuncId) (n:Nat) (first:Nat->aO)
 | rF (n:Nat) (f:Nat->aO)
 | agg (n:Nat) (f:Nat->aO)
 | bZ
 | kP (v:Value)
 | la (b g:Nat)
 | tr (l:Nat) (aN:aa) (S:List aN.ak->Prop) (pre:List aN.ak) (ae:Bool)
 | ia (l:Nat)
 | sub (b g bn D:Nat)
 | yP (e:aa) (xs:List e.ak)
 | kj (b g i:Nat)
inductive cf where
 | gp
 | cells (t:aa) (f:Nat->aO)
 | bu (e:aa) (xs:List e.ak)
 | iL (e:aa) (xs:List e.ak)
 | mp (k v:aa) (es:List (k.ak×v.ak))
 | hR (t:aa) (x:t.ak)
 | ky (k v:aa) (es:List (k.ak×v.ak))
 | cO (k v:aa) (cur:Option (k.ak×v.ak)) (cK:List (k.ak×v.ak))
 | hJ (e:aa) (xs:List e.ak) (i:Nat) (v:aO)
structure b' where
 gen:Nat
 body:cf
structure bP where
 W:Nat
 off:Nat
 cap:Nat
 fK:Bool
structure aE where
 aD:Nat->aO
 W:Nat->b'
def cf.gT:cf->Bool | .cells _ _=>true | .hR _ _=>true | _=>false
def cf.gU:cf->Bool | .bu _ _=>true | .iL _ _=>true | .hJ _ _ _ _=>true | _=>false
def cf.ib:cf->Bool | .mp _ _ _=>true | .ky _ _ _=>true | _=>false
def cf.pW:cf->Bool | .cO _ _ _ _=>true | _=>false
def cf.len:cf->Nat | .bu _ xs=>xs.length | .iL _ xs=>xs.length | .hJ _ xs _ _=>xs.length | _=>0
def cf.ga:cf->Nat | .bu e _=>e.size | .iL e _=>e.size | .hJ e _ _ _=>e.size | _=>0
def cf.cq(k:bP):cf->Bool | .cells _ _=>true | .bu _ _=>!k.fK | .mp _ _ _=>true | .cO _ _ _ _=>true | .hJ _ _ _ _=>!k.fK | _=>false
def bP.slice(k:bP)(n:Nat):Value:=if k.fK then .slice none 0 0 else .slice (some ⟨k.W,k.off,none⟩) n k.cap
def HX(k:bP)(ga bn D:Nat)(v:Value):Prop:=
 (k.fK=true/\v=.slice none 0 0)\/(k.fK=false/\∃ o,v=.slice (some ⟨k.W,o,none⟩) (D - bn) (k.cap - bn)/\o<=k.off+bn*ga/\(bn<k.cap->o=k.off+bn*ga))
def bQ(P:Program)(H:Nat->b')(kap:Nat->bP)(F:Nat->Prop)(w:World):aO->Value->Prop
 | .undef,_=>True
 | .val t x,v=>e4 P t F w v x
 | .jU b a,v=>(b=true->bQ P H kap F w a v)/\(b=false->v=Go.undef)
 | .aK b g off,v=>(g<=(H b).gen/\v.oneCell'=true)/\(g=(H b).gen->(H b).body.gT=true->v=.pointer (some ⟨(kap b).W,off,none⟩))
 | .own b g,v=>(g<=(H b).gen/\v.oneCell'=true)/\(g=(H b).gen->(H b).body.gU=true->v=(kap b).slice (H b).body.len)
 | .pV b g i off,v=>(g<=(H b).gen/\v.oneCell'=true)/\(g=(H b).gen->(H b).body.gU=true->i<(H b).body.len/\(kap b).fK=false/\v=.pointer (some ⟨(kap b).W,(kap b).off+i*(H b).body.ga+off,none⟩))
 | .kj b g i,v=>(g<=(H b).gen/\v.oneCell'=true)/\(g=(H b).gen->(H b).body.gU=true->i<(H b).body.len/\(kap b).fK=false/\v=.pointer (some ⟨(kap b).W,(kap b).off+i*(H b).body.ga,none⟩))
 | .eI t x,v=>∃ p bI,v=.pointer (some p)/\Holds F w p bI/\cr P t F w bI x
 | .gE b g,v=>(g<=(H b).gen/\v.oneCell'=true)/\(g=(H b).gen->(H b).body.ib=true->v=.map (some (kap b).W))
 | .jV k n du,v=>∃ aJ:List Value,v=.func (.func k) #[] aJ.toArray/\aJ.length=n/\∀ i,i<n->bQ P H kap F w (du i) (aJ.getD i Go.undef)
 | .tU k n f,v=>∃ aJ:List Value,v=.func (.func k) aJ.toArray #[]/\aJ.length=n/\∀ i,i<n->bQ P H kap F w (f i) (aJ.getD i Go.undef)
 | .rF n f,v=>∃ aJ:List Value,v=.tuple aJ.toArray/\aJ.length=n/\∀ i,i<n->bQ P H kap F w (f i) (aJ.getD i Go.undef)
 | .agg n f,v=>∃ aJ:List Value,v=.agg aJ.toArray/\aJ.length=n/\∀ i,i<n->bQ P H kap F w (f i) (aJ.getD i Go.undef)/\(aJ.getD i Go.undef).oneCell'=true
 | .bZ,v=>v=.slice none 0 0
 | .kP u,v=>v=u
 | .la b g,v=>(g<=(H b).gen/\v.oneCell'=true)/\(g=(H b).gen->(H b).body.pW=true->v=.pointer (some ⟨(kap b).W,0,none⟩))
 | .tr _ _ _ _ _,_=>True
 | .ia l,v=>v=.func (.yield l) #[] #[]
 | .yP e xs,v=>e4 P (.slice e) F w v xs/\∃ q,v=.slice q xs.length xs.length
 | .sub b g bn D,v=>(g<=(H b).gen/\v.oneCell'=true)/\(g=(H b).gen->(H b).body.gU=true->(bn<=D/\D<=(H b).body.len)/\HX (kap b) (H b).body.ga bn D v)
def gb(H:Nat->b')(kap:Nat->bP)(H':Nat->b')(bX:Nat->bP):Prop:=
 ∀ b,(H b).gen<=(H' b).gen/\((H b).gen=(H' b).gen->
  ((H' b).body.gT=true->(H b).body.gT=true/\(bX b).W=(kap b).W)/\
  ((H' b).body.gU=true->(H b).body.gU=true/\bX b=kap b/\(H' b).body.len=(H b).body.len/\(H' b).body.ga=(H b).body.ga)/\
  ((H' b).body.ib=true->(H b).body.ib=true/\(bX b).W=(kap b).W)/\
  ((H' b).body.pW=true->(H b).body.pW=true/\(bX b).W=(kap b).W))
theorem gb.refl(H:Nat->b')(kap:Nat->bP):gb H kap H kap:=λ_=>⟨ajn _,λ_=>⟨λh=>⟨h,rfl⟩,λh=>⟨h,rfl,rfl,rfl⟩,λh=>⟨h,rfl⟩,λh=>⟨h,rfl⟩⟩⟩
def rG(x y:b')(k k':bP):Prop:=
 x.gen<=y.gen/\(x.gen=y.gen->
  (y.body.gT=true->x.body.gT=true/\k'.W=k.W)/\
  (y.body.gU=true->x.body.gU=true/\k'=k/\y.body.len=x.body.len/\y.body.ga=x.body.ga)/\
  (y.body.ib=true->x.body.ib=true/\k'.W=k.W)/\
  (y.body.pW=true->x.body.pW=true/\k'.W=k.W))
theorem rG.refl(x:b')(k:bP):rG x x k k:=⟨ajn _,λ_=>⟨λh=>⟨h,rfl⟩,λh=>⟨h,rfl,rfl,rfl⟩,λh=>⟨h,rfl⟩,λh=>⟨h,rfl⟩⟩⟩
theorem M5{H:Nat->b'}{kap:Nat->bP}{H':Nat->b'}{bX:Nat->bP}:gb H kap H' bX<->∀ b,rG (H b) (H' b) (kap b) (bX b):=Iff.rfl
theorem bQ.later{P:Program}{H H':Nat->b'}{kap bX:Nat->bP}{F F':Nat->Prop}{w w':World}(af:gb H kap H' bX)(bF:∀ r,F r->F' r)(he:dy F w w') :
  ∀ {a:aO} {v:Value},bQ P H kap F w a v->bQ P H' bX F' w' a v:=by
 intro a;induction a with
 | undef=>intro v h;trivial
 | val t x=>intro v h;exact e4.mono h bF he
 | jU b a aP=>intro v h;exact⟨λV=>aP (h.1 V),h.2⟩
 | aK b g off=>
  intro v h;obtain⟨E,M⟩:=h;obtain⟨aY,a_⟩:=af b;refine⟨⟨aKa E.1 aY,E.2⟩,λaA hc=>?_⟩;grind
 | own b g=>
  intro v h;obtain⟨E,M⟩:=h;obtain⟨aY,a_⟩:=af b;refine⟨⟨aKa E.1 aY,E.2⟩,λaA hc=>?_⟩;grind
 | pV b g i off=>
  intro v h;obtain⟨E,M⟩:=h;obtain⟨aY,a_⟩:=af b;refine⟨⟨aKa E.1 aY,E.2⟩,λaA hc=>?_⟩;grind
 | kj b g i=>
  intro v h;obtain⟨E,M⟩:=h;obtain⟨aY,a_⟩:=af b;refine⟨⟨aKa E.1 aY,E.2⟩,λaA hc=>?_⟩;grind
 | eI t x=>
  intro v h;obtain⟨p,bI,E,M,ai⟩:=h;exact⟨p,bI,E,M.mono bF he,fQ t bF he ai⟩
 | gE b g=>
  intro v h;obtain⟨E,M⟩:=h;obtain⟨aY,a_⟩:=af b;refine⟨⟨aKa E.1 aY,E.2⟩,λaA hc=>?_⟩;grind
 | la b g=>
  intro v h;obtain⟨E,M⟩:=h;obtain⟨aY,a_⟩:=af b;refine⟨⟨aKa E.1 aY,E.2⟩,λaA hc=>?_⟩;grind
 | sub b g bn D=>
  intro v h;obtain⟨E,M⟩:=h;obtain⟨aY,a_⟩:=af b;refine⟨⟨aKa E.1 aY,E.2⟩,λaA hc=>?_⟩;grind
 | tr l aN L n ae=>intro v _;trivial
 | ia l=>intro v h;exact h
 | yP e xs=>intro v h;exact⟨e4.mono h.1 bF he,h.2⟩
 | jV k n du aP=>
  intro v h;obtain⟨aJ,E,M,ai⟩:=h;exact⟨aJ,E,M,λi D=>aP i (ai i D)⟩
 | tU k n f aP=>
  intro v h;obtain⟨aJ,E,M,ai⟩:=h;exact⟨aJ,E,M,λi D=>aP i (ai i D)⟩
 | rF n f aP=>
  intro v h;obtain⟨aJ,E,M,ai⟩:=h;exact⟨aJ,E,M,λi D=>aP i (ai i D)⟩
 | agg n f aP=>
  intro v h;obtain⟨aJ,E,M,ai⟩:=h;exact⟨aJ,E,M,λi D=>⟨aP i (ai i D).1,(ai i D).2⟩⟩
 | bZ=>intro v h;exact h
 | kP u=>intro v h;exact h
def w2(P:Program)(k v:aa)(F:Nat->Prop)(w:World)(es:Array MapEntry)(clk:Nat)(xs:List (k.ak×v.ak)):Prop:=
 es.size=xs.length/\(xs.map (·.1)).Nodup/\
 (∀ i (h:i<xs.length) (eA:i<es.size),l' k es[i].key/\cr P k F w es[i].key.cells.toList xs[i].1/\l' v es[i].val/\cr P v F w es[i].val.cells.toList xs[i].2/\es[i].born<clk)/\
 (∀ i j (h:i<es.size) (eA:j<es.size),es[i].born=es[j].born->i=j)
theorem w2.mono{P:Program}{k v:aa}{F F':Nat->Prop}{w w':World}{es:Array MapEntry}{clk:Nat}{xs:List (k.ak×v.ak)}(h:w2 P k v F w es clk xs)(bF:∀ r,F r->F' r)(he:dy F w w') :
  w2 P k v F' w' es clk xs:=
 ⟨h.1,h.2.1,λi D eE=>let ⟨a,b,c,d,e⟩:=h.2.2.1 i D eE;⟨a,fQ k bF he b,c,fQ v bF he d,e⟩,h.2.2.2⟩
def nk(P:Program)(e:aa)(F:Nat->Prop)(w:World)(cs:Array Value)(off:Nat)(xs:List e.ak):Prop:=
 ∀ i (h:i<xs.length),∃ bI,(∀ j (h:j<bI.length),cs[off+i*e.size+j]?=some bI[j])/\cr P e F w bI xs[i]
theorem nk.mono{P:Program}{e:aa}{F F':Nat->Prop}{w w':World}{cs:Array Value}{off:Nat}{xs:List e.ak}(h:nk P e F w cs off xs)(bF:∀ r,F r->F' r)(he:dy F w w') :
  nk P e F' w' cs off xs:=λi D=>let ⟨bI,a,b⟩:=h i D;⟨bI,a,fQ e bF he b⟩
def Bh(P:Program)(k v:aa)(F:Nat->Prop)(w:World)(e:MapEntry)(x:k.ak×v.ak):Prop:=
 l' k e.key/\cr P k F w e.key.cells.toList x.1/\l' v e.val/\cr P v F w e.val.cells.toList x.2
theorem Bh.mono{P:Program}{k v:aa}{F F':Nat->Prop}{w w':World}{e:MapEntry}{x:k.ak×v.ak}(h:Bh P k v F w e x)(bF:∀ r,F r->F' r)(he:dy F w w'):Bh P k v F' w' e x:=
 ⟨h.1,fQ k bF he h.2.1,h.2.2.1,fQ v bF he h.2.2.2⟩
def yQ(P:Program)(k v:aa)(F:Nat->Prop)(w:World)(qM:Nat)(cur:Option (k.ak×v.ak))(cK:List (k.ak×v.ak)):Prop:=
 (w.heap[qM]?=some (.mapIter none 0 #[] 0)/\cK=[]/\cur=none)\/
 ∃ nN es clk gF,F nN/\w.heap[nN]?=some (.map es clk)/\w.heap[qM]?=some (.mapIter (some nN) clk gF clk)/\
  (∀ i (h:i<es.size),es[i].born<clk)/\(∀ i j (h:i<es.size) (eA:j<es.size),es[i].born=es[j].born->i=j)/\
  (∃ ids:List Nat,ids.length=cK.length/\ids.Nodup/\(∀ i,i∈ids<->∃ h:i<es.size,gF.contains es[i].born=false)/\
   (∀ j (h:j<ids.length) (eA:j<cK.length),∃ D:ids[j]<es.size,Bh P k v F w es[ids[j]] cK[j]))/\
  (∀ c,cur=some c->∃ i,∃ h:i<es.size,gF.back?=some es[i].born/\Bh P k v F w es[i] c)
theorem yQ.mono{P:Program}{k v:aa}{F F':Nat->Prop}{w w':World}{qM:Nat}{cur:Option (k.ak×v.ak)}{cK:List (k.ak×v.ak)}(h:yQ P k v F w qM cur cK)(bF:∀ r,F r->F' r)(he:dy F w w')
  (D:w'.heap[qM]?=w.heap[qM]?):yQ P k v F' w' qM cur cK:=by
 rcases h with⟨E,M⟩ | ⟨nN,es,clk,gF,E,M,ai,bf,b2,⟨ids,i1,i2,i3,i4⟩,hn⟩
 ·exact .inl ⟨D.trans E,M⟩
 ·exact .inr ⟨nN,es,clk,gF,bF _ E,(he.2 _ E).trans M,D.trans ai,bf,b2,⟨ids,i1,i2,i3,λj aI h2=>let ⟨a,b⟩:=i4 j aI h2;⟨a,b.mono bF he⟩⟩,λc hc=>let ⟨i,a,b,d⟩:=hn c hc;⟨i,a,b,d.mono bF he⟩⟩
def ma(P:Program)(H:Nat->b')(kap:Nat->bP)(F:Nat->Prop)(w:World)(k:bP):cf->Prop
 | .gp=>True
 | .cells t f=>∃ cs T,w.heap[k.W]?=some (.cells cs T (0,0))/\cs.size=t.size/\∀ i,i<t.size->bQ P H kap F w (f i) (cs.getD i Go.undef)/\(cs.getD i Go.undef).oneCell'=true
 | .bu e xs=>(k.fK=true->xs=[])/\(k.fK=false->∃ cs T,w.heap[k.W]?=some (.cells cs T (0,0))/\k.off+k.cap*e.size<=cs.size/\xs.length<=k.cap/\k.cap<2 ^ 63/\nk P e F w cs k.off xs)
 | .iL e xs=>cr P (.slice e) F w [k.slice xs.length] xs
 | .mp nO qN es=>∃ ms clk,w.heap[k.W]?=some (.map ms clk)/\w2 P nO qN F w ms clk es
 | .hR t x=>∃ bI,Holds F w ⟨k.W,0,none⟩ bI/\cr P t F w bI x
 | .ky nO qN es=>cr P (.map nO qN) F w [.map (some k.W)] es
 | .cO nO qN cur cK=>yQ P nO qN F w k.W cur cK
 | .hJ e xs i v=>k.fK=false/\∃ cs T,w.heap[k.W]?=some (.cells cs T (0,0))/\k.off+k.cap*e.size<=cs.size/\xs.length<=k.cap/\k.cap<2 ^ 63/\(e.size=1/\i<xs.length)/\
   (∀ j (h:j<xs.length),j≠i->∃ bI,(∀ q (h:q<bI.length),cs[k.off+j*e.size+q]?=some bI[q])/\cr P e F w bI xs[j])/\bQ P H kap F w v (cs.getD (k.off+i) Go.undef)/\(cs.getD (k.off+i) Go.undef).oneCell'=true
def cX(P:Program)(H:Nat->b')(kap:Nat->bP)(F:Nat->Prop)(w:World)(b:Nat):Prop:=ma P H kap F w (kap b) (H b).body
theorem cX.mG{P:Program}{H H':Nat->b'}{kap bX:Nat->bP}{F F':Nat->Prop}{w w':World}{b:Nat}(h:cX P H kap F w b)(af:gb H kap H' bX)(bF:∀ r,F r->F' r)(he:dy F w w')
  (V:(H' b).body=(H b).body) (ah:bX b=kap b) (hw:(H b).body.cq (kap b)=true->w'.heap[(kap b).W]?=w.heap[(kap b).W]?):cX P H' bX F' w' b:=by
 unfold cX at *
 rw[V,ah];cases ca:(H b).body with
 | gp=>trivial
 | cells n f=>
  rw[ca]at h hw;obtain⟨cs,T,E,M,ai⟩:=h;exact⟨cs,T,(hw rfl).trans E,M,λi D=>⟨bQ.later af bF he (ai i D).1,(ai i D).2⟩⟩
 | bu e xs=>
  rw[ca]at h hw;refine⟨h.1,λaC=>?_⟩;obtain⟨cs,T,E,M,ai,bf,b2⟩:=h.2 aC;exact⟨cs,T,(hw (by simp[cf.cq,aC])).trans E,M,ai,bf,b2.mono bF he⟩
 | iL e xs=>
  rw[ca]at h;exact fQ _ bF he h
 | mp nO qN es=>
  rw[ca]at h hw;obtain⟨ms,clk,E,M⟩:=h;exact⟨ms,clk,(hw rfl).trans E,M.mono bF he⟩
 | hR t x=>
  rw[ca]at h;obtain⟨bI,E,M⟩:=h;exact⟨bI,E.mono bF he,fQ t bF he M⟩
 | ky nO qN es=>
  rw[ca]at h;exact fQ (.map nO qN) bF he h
 | cO nO qN cur cK=>
  rw[ca]at h hw;exact yQ.mono h bF he (hw rfl)
 | hJ e xs i v=>
  rw[ca]at h hw;obtain⟨aZ,cs,T,E,M,ai,bf,b2,d_,hn,jL⟩:=h;refine⟨aZ,cs,T,(hw (by simp[cf.cq,aZ])).trans E,M,ai,bf,b2,λj aI vp=>?_,bQ.later af bF he hn,jL⟩;obtain⟨bI,d1,d2⟩:=d_ j aI vp;exact⟨bI,d1,fQ e bF he d2⟩
structure dP(w w':World):Prop where
 os:w'.os=w.os
 tape:w'.tape=w.tape
 output:w'.output=w.output
theorem dP.refl(w:World):dP w w:=⟨rfl,rfl,rfl⟩
theorem dP.trans{a b c:World}(h:dP a b)(k:dP b c):dP a c:=⟨k.os.trans h.os,k.tape.trans h.tape,k.output.trans h.output⟩
structure nl where
 l:Nat
 aN:aa
 S:List aN.ak->Prop
 I:List aN.ak->Bool->(Nat->Prop)->(Nat->Prop)->World->Prop
structure nl.jv(P:Program)(p:nl):Prop where
 D1:∀ {pre ae} {F F' Y:Nat->Prop} {w w':World},p.I pre ae F Y w->(∀ r,F r->F' r)->(∀ r,F r\/Y r->w'.heap[r]?=w.heap[r]?)->w.heap.size<=w'.heap.size->dP w w'->(∀ r,F' r->r<w'.heap.size)->(∀ r,F' r->¬Y r)->p.I pre ae F' Y w'
 yield:∀ {pre} {F Y:Nat->Prop} {w:World} {args:List Value} {x:p.aN.ak},p.I pre false F Y w->(∀ r,F r->r<w.heap.size)->(∀ r,Y r->r<w.heap.size/\¬F r)->(∃ T,p.S (pre++x::T))->gn P p.aN F w args x->
  YieldAt Fence.wide 0 P p.l args.toArray w λe w'=>∃ (b:Bool) (F' iv:Nat->Prop),e=.returned (.bool b)/\(∀ r,F r->F' r)/\(∀ r,F' r->F r\/Y r\/w.heap.size<=r)/\(∀ r,F' r->r<w'.heap.size)/\
   (∀ r,r<w.heap.size->¬Y r->w'.heap[r]?=w.heap[r]?)/\(∀ r,iv r->(Y r\/w.heap.size<=r)/\r<w'.heap.size/\¬F' r)/\w.heap.size<=w'.heap.size/\dP w w'/\p.I (pre++[x]) (!b) F' iv w'
def nl.at(p:nl)(aN:aa)(pre:List aN.ak)(ae:Bool)(F Y:Nat->Prop)(w:World):Prop:=∃ h:aN=p.aN,p.I (h ▸ pre) ae F Y w
theorem nl.Bi{l:Nat}{aN:aa}{S:List aN.ak->Prop}{I}{pre:List aN.ak}{ae:Bool}{F Y:Nat->Prop}{w:World}:(nl.mk l aN S I).at aN pre ae F Y w<->I pre ae F Y w:=⟨λ⟨_,h⟩=>h,λh=>⟨rfl,h⟩⟩
theorem nl.jv.M6{P:Program}{p:nl}(h:p.jv P){aN:aa}{pre:List aN.ak}{ae}{F F' Y:Nat->Prop}{w w':World}:p.at aN pre ae F Y w->(∀ r,F r->F' r)->(∀ r,F r\/Y r->w'.heap[r]?=w.heap[r]?)->w.heap.size<=w'.heap.size->dP w w'->(∀ r,F' r->r<w'.heap.size)->(∀ r,F' r->¬Y r)->p.at aN pre ae F' Y w':=
 λ⟨e,E⟩ M ai bf b2 d_ hn=>⟨e,h.D1 E M ai bf b2 d_ hn⟩
def cw:Nat:=1000000
def fF:Nat:=100000
def yR:Nat:=200000
structure cB where
 P:Program
 ei:World
 jf:Nat->Prop
 K0:Nat->Prop
 b5:Nat
 r:Option Nat
 dq:List Deferred
 jy:Nat->Option Nat
 cP:nl
 a8:ew
 M7:Nat->Option (bP×Nat):=λ_=>none
def ajE(C:cB)(s:aE)(w:World)(kap:Nat->bP)(F:Nat->Prop):Prop:=
 ∀ l aN L n ae,s.aD cw=.tr l aN L n ae->(∃ I,C.cP=⟨l,aN,L,I⟩)/\C.cP.jv C.P/\
  ∃ Y:Nat->Prop,(∀ r,Y r->r<w.heap.size/\¬F r/\¬C.K0 r)/\(∀ b,(s.W b).body.cq (kap b)=true->¬Y (kap b).W)/\C.cP.at aN n ae F Y w
structure bH(C:cB)(s:aE)(a:Act)(w:World)(kap:Nat->bP)(F:Nat->Prop):Prop where
 ek:a.tmps.size=C.b5
 dq:a.defers=C.dq
 cc:∀ i,bQ C.P s.W kap F w (s.aD i) (a.tmps.getD i Go.undef)
 bR:∀ b,cX C.P s.W kap F w b
 own:∀ b,(s.W b).body.cq (kap b)=true->(kap b).W<w.heap.size/\¬F (kap b).W/\¬C.K0 (kap b).W
 inj:∀ b bl,(s.W b).body.cq (kap b)=true->(s.W bl).body.cq (kap bl)=true->(kap b).W=(kap bl).W->b=bl
 dH:∀ r,F r->r<w.heap.size
 ie:∀ r,F r->C.jf r\/¬C.K0 r
 jg:∀ r,C.jf r->F r
 iM:∀ r,C.K0 r->r<C.ei.heap.size
 fi:∀ r,C.K0 r->w.heap[r]?=C.ei.heap[r]?
 size:C.ei.heap.size<=w.heap.size
 e5:dP C.ei w
 hq:C.b5<=fF
 lC:∀ b r,C.jy b=some r->fF<=b
 kQ:∀ b r,C.jy b=some r->(s.W b).body.gT=true\/(s.W b).body.ib=true->(kap b).W=r
 lD:∀ b k,C.M7 b=some k->yR<=b
 lE:∀ b k,C.M7 b=some k->(s.W b).gen=0->(s.W b).body.gU=true->kap b=k.1/\(s.W b).body.len=k.2
 fo:ajE C s w kap F
 kR:sL C.P C.a8
 jW:o7 C.P F w
def c7(C:cB)(s:aE)(a:Act)(w:World):Prop:=∃ kap F,bH C s a w kap F
def aE.set(s:aE)(d:Option Nat)(v:aO):aE:=
 match d with
 | none=>s
 | some d=>{ s with aD:=λi=>if i=d then v else s.aD i }
def aE.c'(s:aE)(b:Nat)(x:b'):aE:={ s with W:=λi=>if i=b then x else s.W i }
theorem ajF{a:Act}{d:Nat}{v:Value}(an:d<a.tmps.size)(i:Nat):(a.put (some d) v).tmps.getD i Go.undef=if i=d then v else a.tmps.getD i Go.undef:=by
 simp  [Act.put,Array.getElem?_setIfInBounds];grind
theorem bH.set{C:cB}{s:aE}{a:Act}{w:World}{kap:Nat->bP}{F:Nat->Prop}(h:bH C s a w kap F){d:Option Nat}(an:∀ i,d=some i->i<C.b5){av:aO}{v:Value}
  (ab:bQ C.P s.W kap F w av v):bH C (s.set d av) (a.put d v) w kap F:=by
 cases d with
 | none=>exact h
 | some d=>
  have yS:=an d rfl;have aC:=h.hq;refine { h with ek:=by simpa [Act.put]using h.ek,dq:=h.dq,cc:=λi=>?_,fo:=λl aN L n ae e=>?_ }
  ·rw[ajF (by rw[h.ek];omega)];simp only[aE.set];by_cases D:i=d
   ·grind
   ·rw[if_neg D,if_neg D];exact h.cc i
  ·simp  [aE.set]at e;rw[if_neg (by unfold cw fF at *;omega)]at e;exact h.fo l aN L n ae e
theorem bH.move{C:cB}{s:aE}{a:Act}{w:World}{kap:Nat->bP}{F:Nat->Prop}(h:bH C s a w kap F){H':Nat->b'}{bX:Nat->bP}{F':Nat->Prop}{w':World}
  (af:gb s.W kap H' bX) (bF:∀ r,F r->F' r) (w1:∀ r,F' r->F r\/(∃ b,(s.W b).body.cq (kap b)=true/\(kap b).W=r)\/w.heap.size<=r)
  (cY:w.heap.size<=w'.heap.size) (hw:∀ r,r<w.heap.size->(∀ b,(s.W b).body.cq (kap b)=true->(kap b).W≠r)->w'.heap[r]?=w.heap[r]?) (hc:dP w w')
  (V:dy F w w'->∀ b,cX C.P H' bX F' w' b)
  (au:∀ b,(H' b).body.cq (bX b)=true->(bX b).W<w'.heap.size/\¬F' (bX b).W/\((∃ b0,(s.W b0).body.cq (kap b0)=true/\(kap b0).W=(bX b).W)\/w.heap.size<=(bX b).W))
  (D:∀ b bl,(H' b).body.cq (bX b)=true->(H' bl).body.cq (bX bl)=true->(bX b).W=(bX bl).W->b=bl)
  (az:∀ r,F' r->r<w'.heap.size)
  (ajG:∀ b,fF<=b->(H' b).body.gT=true\/(H' b).body.ib=true->bX b=kap b/\((s.W b).body.gT=true\/(s.W b).body.ib=true)):bH C ⟨s.aD,H'⟩ a w' bX F':=by
 have ajH:∀ r,C.K0 r->(∀ b,(s.W b).body.cq (kap b)=true->(kap b).W≠r):=λr U b V e=>(h.own b V).2.2 (e ▸ U);have ah:=λr U=>hw r (aJ' (h.iM r U) h.size) (ajH r U);have he:dy F w w':=⟨cY,λr U=>hw r (h.dH r U) λb V e=>(h.own b V).2.1 (e ▸ U)⟩
 refine { ek:=h.ek,dq:=h.dq,cc:=λi=>bQ.later af bF he (h.cc i),bR:=V he,own:=λb V=>?_,inj:=D,dH:=az,ie:=λr U=>?_,jg:=λr U=>bF r (h.jg r U),iM:=h.iM,fi:=λr U=>(ah r U).trans (h.fi r U),size:=aKa h.size cY,e5:=h.e5.trans hc,hq:=h.hq,lC:=h.lC,kQ:=λb r U hc=>?_,lD:=h.lD,lE:=λb k ah aZ br=>?_,fo:=λl aN L n ae e=>?_,kR:=h.kR,jW:=h.jW.mono bF he }
 ·grind
 ·rcases w1 r U with E | ⟨b,E,rfl⟩ | E
  ·exact h.ie r E
  ·grind
  grind
 ·obtain⟨aY,a_⟩:=ajG b (h.lC b r U) hc;rw[aY];exact h.kQ b r U a_
 ·obtain⟨g1,eB⟩:=af b;have aZ:(H' b).gen=0:=aZ;obtain⟨cd,a2,a3,_⟩:=(eB (by omega)).2.1 br;obtain⟨aY,a_⟩:=h.lE b k ah (by omega) cd;grind
 ·obtain⟨E,M,Y,ai,bf,b2⟩:=h.fo l aN L n ae e;have D4:∀ r,Y r->¬F' r:=λr U aw=>by
   grind
  refine⟨E,M,Y,λr U=>⟨aJ' (ai r U).1 cY,D4 r U,(ai r U).2.2⟩,λb V bh=>?_,M.M6 b2 bF (λr U=>?_) cY hc az λr aw bh=>D4 r bh aw⟩
  ·grind
  ·rcases U with U | U
   ·exact he.2 r U
   grind
theorem qO(w:World)(o:Obj){r:Nat}(h:r<w.heap.size):(w.alloc o).heap[r]?=w.heap[r]?:=Below.heap_alloc w o r h
theorem sM(w:World)(o:Obj):(w.alloc o).heap[w.heap.size]?=some o:=by
 show (w.heap.push o)[w.heap.size]?=_;simp
theorem dy.alloc{F:Nat->Prop}{w:World}(az:∀ r,F r->r<w.heap.size)(o:Obj):dy F w (w.alloc o):=
 ⟨by simp,λr U=>qO w o (az r U)⟩
theorem Bj{H:Nat->b'}{kap bX:Nat->bP}{b:Nat}{x:b'}(aA:(H b).gen<x.gen)(D5:∀ bl,bl≠b->bX bl=kap bl) :
  gb H kap (λi=>if i=b then x else H i) bX:=by
 rw[M5];intro i;by_cases D:i=b
 ·subst D;simp;exact⟨by omega,λh=>by omega⟩
 ·simp  [if_neg D];rw[D5 i D];exact rG.refl _ _
theorem Bk{H:Nat->b'}{kap bX:Nat->bP}{b:Nat}{x:b'}(V:b<fF\/(x.body.gT=false/\x.body.ib=false))(D5:∀ bl,bl≠b->bX bl=kap bl) :
  ∀ i,fF<=i->(if i=b then x else H i).body.gT=true\/(if i=b then x else H i).body.ib=true->bX i=kap i/\((H i).body.gT=true\/(H i).body.ib=true):=by
 grind
theorem bH.alloc{C:cB}{s:aE}{a:Act}{w:World}{kap:Nat->bP}{F:Nat->Prop}(h:bH C s a w kap F){b:Nat}{x:b'}(Bl:b<fF)(aA:(s.W b).gen<x.gen)
  {o:Obj} {k:bP} (ah:k.W=w.heap.size)
  (al:∀ (H:Nat->b') (bX:Nat->bP),H=(λi=>if i=b then x else s.W i)->bX=(λi=>if i=b then k else kap i)->gb s.W kap H bX->ma C.P H bX F (w.alloc o) k x.body) :
  bH C (s.c' b x) a (w.alloc o) (λi=>if i=b then k else kap i) F:=by
 have af:gb s.W kap (λi=>if i=b then x else s.W i) (λi=>if i=b then k else kap i):=Bj aA λbl da=>by grind
 refine h.move   af (λ_ U=>U) (λ_ U=>.inl U) (by simp) (λr U _=>qO w o U) ⟨rfl,rfl,rfl⟩ (λhe=>?_) ?_ ?_ ?_ (Bk (.inl Bl) λbl da=>by grind)
 ·intro i;by_cases D:i=b
  ·simp  [cX];grind
  ·refine cX.mG (h.bR i) af (λ_ U=>U) he (by grind) (by grind) λau=>?_;exact qO w o (h.own i au).1
 ·intro i D;by_cases bN:i=b
  ·subst bN;simp  at D ⊢;refine⟨by simp_all,λaw=>?_,.inr (by omega)⟩;have:=h.dH _ aw;omega
  ·simp only[if_neg bN]at D ⊢;have:=h.own i D;exact⟨by simp;omega,this.2.1,.inl ⟨i,D,rfl⟩⟩
 ·intro i j D aI e;by_cases bN:i=b<;>by_cases od:j=b
  ·omega
  ·simp  [if_pos bN,if_neg od]at D aI e;have:=(h.own j aI).1;omega
  ·simp  [if_neg bN,if_pos od]at D aI e;have:=(h.own i D).1;omega
  ·simp  [if_neg bN,if_neg od]at D aI e;exact h.inj i j D aI e
 ·intro r U;have:=h.dH r U;simp;omega
theorem sN{H:Nat->b'}{kap:Nat->bP}{b:Nat}{x:b'}(aA:x.gen=(H b).gen)(E:x.body.gT=true->(H b).body.gT=true)
  (M:x.body.gU=true->(H b).body.gU=true/\x.body.len=(H b).body.len/\x.body.ga=(H b).body.ga) (ai:x.body.ib=true->(H b).body.ib=true)
  (bf:x.body.pW=true->(H b).body.pW=true) :
  gb H kap (λi=>if i=b then x else H i) kap:=by
 rw[M5];intro i;by_cases D:i=b
 ·subst D;simp;exact⟨by omega,λ_=>⟨λh=>⟨E h,rfl⟩,λh=>⟨(M h).1,rfl,(M h).2⟩,λh=>⟨ai h,rfl⟩,λh=>⟨bf h,rfl⟩⟩⟩
 ·simp  [if_neg D];exact rG.refl _ _
theorem ajI{H:Nat->b'}{kap:Nat->bP}{b:Nat}{x:b'}(E:x.body.gT=true->(H b).body.gT=true)(ai:x.body.ib=true->(H b).body.ib=true) :
  ∀ i,fF<=i->(if i=b then x else H i).body.gT=true\/(if i=b then x else H i).body.ib=true->kap i=kap i/\((H i).body.gT=true\/(H i).body.ib=true):=by
 grind
theorem bH.qP{C:cB}{s:aE}{a:Act}{w w':World}{kap:Nat->bP}{F:Nat->Prop}(h:bH C s a w kap F){b:Nat}{x:b'}
  (hr:(s.W b).body.cq (kap b)=true) (Bm:x.body.cq (kap b)=true) (af:gb s.W kap (λi=>if i=b then x else s.W i) kap)
  (E:x.body.gT=true->(s.W b).body.gT=true) (ai:x.body.ib=true->(s.W b).body.ib=true)
  (hw:∀ r,r≠(kap b).W->w'.heap[r]?=w.heap[r]?) (cY:w'.heap.size=w.heap.size) (hc:dP w w')
  (al:∀ (H:Nat->b'),H=(λi=>if i=b then x else s.W i)->gb s.W kap H kap->dy F w w'->ma C.P H kap F w' (kap b) x.body) :
  bH C (s.c' b x) a w' kap F:=by
 have au:=h.own b hr;refine h.move   af (λ_ U=>U) (λ_ U=>.inl U) (by omega) (λr _ U=>hw r λe=>U b hr e.symm) hc (λhe=>?_) ?_ ?_ (λr U=>by rw[cY];exact h.dH r U) (ajI E ai)
 ·intro i;by_cases D:i=b
  ·simp  [cX];grind
  ·refine cX.mG (h.bR i) af (λ_ U=>U) he (by grind) rfl λajJ=>hw _ λe=>D (h.inj i b ajJ hr e)
 ·intro i D;by_cases bN:i=b
  ·grind
  ·simp  [if_neg bN]at D;have:=h.own i D;grind
 ·intro i j D aI e;have eE:(s.W i).body.cq (kap i)=true:=by
   grind
  have h2:(s.W j).body.cq (kap j)=true:=by
   grind
  exact h.inj i j eE h2 e
theorem bH.drew{C:cB}{s:aE}{a:Act}{w:World}{kap:Nat->bP}{F:Nat->Prop}(h:bH C s a w kap F):bH C s a w.drew kap F:=
 h.move (H':=s.W) (gb.refl _ _) (λ_ U=>U) (λ_ U=>.inl U) (ajn _) (λ_ _ _=>rfl) ⟨rfl,rfl,rfl⟩
  (λ_ b=>cX.mG (h.bR b) (gb.refl _ _) (λ_ U=>U) ⟨ajn _,λ_ _=>rfl⟩ rfl rfl λ_=>rfl) (λb V=>⟨(h.own b V).1,(h.own b V).2.1,.inl ⟨b,V,rfl⟩⟩) h.inj h.dH (λ_ _ h=>⟨rfl,h⟩)
def aE.le(s' s:aE):Prop:=(∀ i,s'.aD i=s.aD i\/s'.aD i=.undef)/\∀ b,s'.W b=s.W b\/s'.W b=⟨(s.W b).gen,.gp⟩
theorem bH.Bn{C:cB}{s s':aE}{a:Act}{w:World}{kap:Nat->bP}{F:Nat->Prop}(h:bH C s a w kap F)(az:s'.le s):bH C s' a w kap F:=by
 have hr:∀ b,(s'.W b).body.cq (kap b)=true->(s.W b).body.cq (kap b)=true:=λb V=>by
  rcases az.2 b with e | e
  ·grind
  ·rw[e]at V;cases V
 have af:gb s.W kap s'.W kap:=λb=>by
  rcases az.2 b with e | e
  ·grind
  ·rw[e];exact⟨ajn _,λ_=>⟨λh=>(by cases h),λh=>(by cases h),λh=>(by cases h),λh=>(by cases h)⟩⟩
 have M:=h.move af (λ_ U=>U) (λ_ U=>.inl U) (ajn _) (λ_ _ _=>rfl) (dP.refl _)
  (λ_ b=>by
   rcases az.2 b with e | e
   ·exact cX.mG (h.bR b) af (λ_ U=>U) (dy.refl _ _) (by rw[e]) rfl λ_=>rfl
   ·unfold cX;rw[e];trivial)
  (λb V=>⟨(h.own b (hr b V)).1,(h.own b (hr b V)).2.1,.inl ⟨b,hr b V,rfl⟩⟩) (λb bl V da=>h.inj b bl (hr b V) (hr bl da)) h.dH (λb _ V=>⟨rfl,by
   rcases az.2 b with e | e
   ·grind
   ·rw[e]at V;simp[cf.gT,cf.ib]at V⟩)
 refine { M with cc:=λi=>?_,ek:=M.ek,dq:=M.dq,fo:=λl aN L n ae e=>?_ }
 ·rcases az.1 i with e | e
  ·rw[e];exact M.cc i
  ·rw[e];trivial
 ·rcases az.1 cw with k | k
  ·exact M.fo l aN L n ae (k ▸ e)
  grind
end Go.Fer
namespace Go.Fer
inductive aM(ag:Type) where
 | ret (a:ag)
 | fj (b:Nat) (k:b'->aM ag)
def aM.run{ag:Type}(H:Nat->b'):aM ag->ag
 | .ret a=>a
 | .fj b k=>(k (H b)).run H
def aM.looks{ag:Type}(H:Nat->b'):aM ag->List Nat
 | .ret _=>[]
 | .fj b k=>b::(k (H b)).looks H
def aM.bind{ag bet:Type}:aM ag->(ag->aM bet)->aM bet
 | .ret a,f=>f a
 | .fj b k,f=>.fj b λx=>(k x).bind f
def aM.map{ag bet:Type}(f:ag->bet)(m:aM ag):aM bet:=m.bind λa=>.ret (f a)
def aM.none{ag:Type}:aM (Option ag):=.ret Option.none
def aM.ev{ag bet:Type}(m:aM (Option ag))(f:ag->aM (Option bet)):aM (Option bet):=m.bind fun | some a=>f a | Option.none=>.none
@[simp] theorem aM.dC {ag:Type} (H:Nat->b') (a:ag):(aM.ret a).run H=a:=rfl
@[simp] theorem aM.gV {ag:Type} (H:Nat->b') (b:Nat) (k:b'->aM ag):(aM.fj b k).run H=(k (H b)).run H:=rfl
theorem aM.run_bind{ag bet:Type}(H:Nat->b')(m:aM ag)(f:ag->aM bet):(m.bind f).run H=(f (m.run H)).run H:=by
 induction m with
 | ret a=>rfl
 | fj b k aP=>simp[aM.bind,aP]
theorem aM.fG{ag bet:Type}(H:Nat->b')(m:aM (Option ag))(f:ag->aM (Option bet)):(m.ev f).run H=(m.run H).bind λa=>(f a).run H:=by
 unfold aM.ev;rw[aM.run_bind];cases m.run H<;>rfl
theorem aM.Vo{ag:Type}{H H':Nat->b'}:∀ (m:aM ag),(∀ b∈m.looks H,H' b=H b)->m.run H'=m.run H/\m.looks H'=m.looks H
 | .ret a,_=>⟨rfl,rfl⟩
 | .fj b k,h=>by
  have V:=h b (by simp[aM.looks]);have:=aM.Vo (k (H b)) λc hc=>h c (by simp[aM.looks,hc]);simp only[aM.run,aM.looks,V,this];simp
def fz(t dL:aa)(x:t.ak):Option dL.ak:=if h:t=dL then some (h ▸ x) else none
theorem mb{t dL:aa}{x:t.ak}{y:dL.ak}(h:fz t dL x=some y):∃ e:t=dL,y=e ▸ x:=by
 unfold fz at h;grind
def D6:(t:aa)->Value->Option t.ak
 | .bV _,.pointer Option.none=>some Option.none
 | .map _ _,.map Option.none=>some []
 | .e3,.nilFunc=>some Option.none
 | _,_=>Option.none
def aa.isAgg:aa->Bool
 | .ae _ | .array _ _=>true
 | _=>false
def eJ(t:aa):aO->aM (Option (t.ak×List Nat))
 | .val dL x=>.ret ((fz dL t x).map (·,[]))
 | .bZ=>match t with
  | .slice _=>.ret (some ([],[]))
  | _=>.none
 | .own b g=>match t with
  | .slice e=>.fj b λx=>.ret (if x.gen=g then (match x.body with
    | .bu bt xs=>(fz (.slice bt) (.slice e) xs).map (·,[b])
    | .iL bt xs=>(fz (.slice bt) (.slice e) xs).map (·,[])
    | _=>Option.none) else Option.none)
  | _=>.none
 | .sub b g bn D=>match t with
  | .slice e=>.fj b λx=>.ret (if x.gen=g then (match x.body with
    | .bu bt xs=>(fz (.slice bt) (.slice e) ((xs.take D).drop bn)).map (·,[b])
    | .iL bt xs=>(fz (.slice bt) (.slice e) ((xs.take D).drop bn)).map (·,[])
    | _=>Option.none) else Option.none)
  | _=>.none
 | .gE b g=>match t with
  | .map k v=>.fj b λx=>.ret (if x.gen=g then (match x.body with
    | .mp k' kk es=>(fz (.map k' kk) (.map k v) es).map (·,[b])
    | .ky k' kk es=>(fz (.map k' kk) (.map k v) es).map (·,[])
    | _=>Option.none) else Option.none)
  | _=>.none
 | .eI dL x=>match t with
  | .bV e=>.ret ((fz (.bV dL) (.bV e) (some x)).map (·,[]))
  | _=>.none
 | .kP v=>.ret ((D6 t v).map (·,[]))
 | .jV k n _=>match t with
  | .e3=>if n=0 then .ret (some (some k,[])) else .none
  | _=>.none
 | _=>.none
def vq(e:aa)(cC:List aO->aM (Option (e.ak×List Nat×List aO)))(av:aO):aM (Option (Option e.ak×List Nat)):=
 match av with
 | .aK b g off=>.fj b λx=>if x.gen=g/\off=0 then (match x.body with
   | .hR dL y=>.ret ((fz dL e y).map λz=>(some z,[]))
   | .cells dL f=>if dL=e then (cC ((List.range e.size).map f)).ev λ(y,l,r)=>.ret (if r.isEmpty then some (some y,b::l) else Option.none) else .none
   | _=>.none) else .none
 | av=>eJ (.bV e) av
def kz:(t:aa)->List aO->aM (Option (t.ak×List Nat×List aO))
 | .dp,cs=>.ret (some ((),[],cs))
 | .ae t,cs=>kz t cs
 | .ar a b,cs=>(kz a cs).ev λ(x,l,r)=>(kz b r).ev λ(y,m,q)=>.ret (some ((x,y),l++m,q))
 | .array n e,cs=>n.rec (motive:=λ_=>List aO->aM (Option (List e.ak×List Nat×List aO))) (λcs=>.ret (some ([],[],cs)))
   (λ_ aP cs=>(kz e cs).ev λ(x,l,r)=>(aP r).ev λ(xs,m,q)=>.ret (some (x::xs,l++m,q))) cs
 | .bool,cs=>match cs with | c::r=>(eJ .bool c).map λo=>o.map λ(x,l)=>(x,l,r) | []=>.none
 | .int k,cs=>match cs with | c::r=>(eJ (.int k) c).map λo=>o.map λ(x,l)=>(x,l,r) | []=>.none
 | .str,cs=>match cs with | c::r=>(eJ .str c).map λo=>o.map λ(x,l)=>(x,l,r) | []=>.none
 | .slice e,cs=>match cs with | c::r=>(eJ (.slice e) c).map λo=>o.map λ(x,l)=>(x,l,r) | []=>.none
 | .bV e,cs=>match cs with | c::r=>(vq e (kz e) c).map λo=>o.map λ(x,l)=>(x,l,r) | []=>.none
 | .map k v,cs=>match cs with | c::r=>(eJ (.map k v) c).map λo=>o.map λ(x,l)=>(x,l,r) | []=>.none
 | .fn a b,cs=>match cs with | c::r=>(eJ (.fn a b) c).map λo=>o.map λ(x,l)=>(x,l,r) | []=>.none
 | .cO a,cs=>match cs with | c::r=>(eJ (.cO a) c).map λo=>o.map λ(x,l)=>(x,l,r) | []=>.none
 | .e3,cs=>match cs with | c::r=>(eJ .e3 c).map λo=>o.map λ(x,l)=>(x,l,r) | []=>.none
def lF(t:aa)(av:aO):aM (Option (t.ak×List Nat)):=
 match t with
 | .bV e=>vq e (kz e) av
 | t=>if t.fE then eJ t av else .none
def eg(t:aa)(av:aO):aM (Option (t.ak×List Nat)):=
 match av with
 | .val dL x=>.ret ((fz dL t x).map (·,[]))
 | .agg n f=>if t.fE then .none else (kz t ((List.range n).map f)).ev λ(x,l,r)=>.ret (if r.isEmpty&&t.isAgg then some (x,l) else Option.none)
 | _=>lF t av
def o8:(t:aa)->t.ak->List aO
 | .dp,_=>[]
 | .ae t,x=>o8 t x
 | .ar a b,x=>o8 a x.1++o8 b x.2
 | .array n e,xs=>(List.range n).flatMap λi=>o8 e (List.getD xs i e.dK)
 | .bool,x=>[.val .bool x]
 | .int k,x=>[.val (.int k) x]
 | .str,x=>[.val .str x]
 | .slice e,x=>[.val (.slice e) x]
 | .bV e,x=>[.val (.bV e) x]
 | .map k v,x=>[.val (.map k v) x]
 | .fn a b,x=>[.val (.fn a b) x]
 | .cO a,x=>[.val (.cO a) x]
 | .e3,x=>[.val .e3 x]
def tV:aa->List aO
 | .dp=>[]
 | .ae t=>tV t
 | .ar a b=>tV a++tV b
 | .array n e=>(List.range n).flatMap λ_=>tV e
 | .bool=>[.val .bool false]
 | .int k=>[.val (.int k) (0:Int)]
 | .str=>[.val .str []]
 | .slice _=>[.bZ]
 | .bV e=>[.val (.bV e) Option.none]
 | .map k v=>[.val (.map k v) []]
 | .fn _ _=>[.kP .nilFunc]
 | .cO _=>[.kP .nilFunc]
 | .e3=>[.val .e3 Option.none]
def ig(l:List aO)(i:Nat):aO:=l.getD i .undef
def o9:aa->Nat->Option (aa×Nat)
 | .ar a _,0=>some (a,0)
 | .ar a b,f+1=>(o9 b f).map λ(t,o)=>(t,a.size+o)
 | .dp,_=>Option.none
 | t,0=>some (t,0)
 | _,_+1=>Option.none
def w3:(t:aa)->t.ak->Nat->Option ((s:aa)×s.ak)
 | .ar a _,x,0=>some ⟨a,x.1⟩
 | .ar _ b,x,f+1=>w3 b x.2 f
 | .dp,_,_=>Option.none
 | t,x,0=>some ⟨t,x⟩
 | _,_,_+1=>Option.none
def tW:(t:aa)->t.ak->Nat->(s:aa)->Option s.ak
 | .ae t,x,off,s=>if off=0/\aa.ae t=s then fz (.ae t) s x else tW t x off s
 | .ar a b,x,off,s=>if off<a.size then tW a x.1 off s else tW b x.2 (off - a.size) s
 | .dp,_,_,_=>Option.none
 | .array _ _,_,_,_=>Option.none
 | .bool,x,off,s=>if off=0 then fz .bool s x else Option.none
 | .int k,x,off,s=>if off=0 then fz (.int k) s x else Option.none
 | .str,x,off,s=>if off=0 then fz .str s x else Option.none
 | .slice e,x,off,s=>if off=0 then fz (.slice e) s x else Option.none
 | .bV e,x,off,s=>if off=0 then fz (.bV e) s x else Option.none
 | .map k v,x,off,s=>if off=0 then fz (.map k v) s x else Option.none
 | .fn a b,x,off,s=>if off=0 then fz (.fn a b) s x else Option.none
 | .cO a,x,off,s=>if off=0 then fz (.cO a) s x else Option.none
 | .e3,x,off,s=>if off=0 then fz .e3 s x else Option.none
def yT:(t:aa)->t.ak->Nat->(s:aa)->s.ak->Option t.ak
 | .ae t,x,off,s,y=>if off=0/\s=aa.ae t then fz s (.ae t) y else yT t x off s y
 | .ar a b,x,off,s,y=>if off<a.size then (yT a x.1 off s y).map (·,x.2) else (yT b x.2 (off - a.size) s y).map (x.1,·)
 | .dp,_,_,_,_=>Option.none
 | .array _ _,_,_,_,_=>Option.none
 | .bool,_,off,s,y=>if off=0 then fz s .bool y else Option.none
 | .int k,_,off,s,y=>if off=0 then fz s (.int k) y else Option.none
 | .str,_,off,s,y=>if off=0 then fz s .str y else Option.none
 | .slice e,_,off,s,y=>if off=0 then fz s (.slice e) y else Option.none
 | .bV e,_,off,s,y=>if off=0 then fz s (.bV e) y else Option.none
 | .map k v,_,off,s,y=>if off=0 then fz s (.map k v) y else Option.none
 | .fn a b,_,off,s,y=>if off=0 then fz s (.fn a b) y else Option.none
 | .cO a,_,off,s,y=>if off=0 then fz s (.cO a) y else Option.none
 | .e3,_,off,s,y=>if off=0 then fz s .e3 y else Option.none
def nm(k:IntKind)(a b:Int):Int:=k.wrap (BitVec.ofInt k.bits a&&& BitVec.ofInt k.bits b).toNat
def Vp(k:IntKind)(a b:Int):Int:=k.wrap (BitVec.ofInt k.bits a||| BitVec.ofInt k.bits b).toNat
def Vq(k:IntKind)(a b:Int):Int:=k.wrap (BitVec.ofInt k.bits a ^^^ BitVec.ofInt k.bits b).toNat
def Vr(k:IntKind)(a b:Int):Int:=k.wrap (BitVec.ofInt k.bits a&&& ~~~BitVec.ofInt k.bits b).toNat
def ajK(k:IntKind)(a b:Int):Int:=k.wrap (a*2 ^ (min b.toNat k.bits))
def kA(k:IntKind)(a b:Int):Int:=a.fdiv (2 ^ (min b.toNat k.bits))
def mc(t:aa)(xs:List t.ak)(i:Int):t.ak:=xs.getD i.toNat t.dK
def bW(n:Nat):Prop:=n<=4294967296
def h3:(t:aa)->t.ak->t.ak->Bool
 | .bool,x,y=>x == y
 | .int _,x,y=>decide ((x:Int)=y)
 | .str,x,y=>decide ((x:List UInt8)=y)
 | .ae t,x,y=>h3 t x y
 | .ar a b,x,y=>h3 a x.1 y.1&&h3 b x.2 y.2
 | _,_,_=>false
def aa.nP:aa->Bool
 | .bool | .int _ | .str=>true
 | .ae t=>t.nP
 | .ar a b=>a.nP&&b.nP
 | _=>false
end Go.Fer
namespace Go.Fer
open Go.RowKit
section
variable {P:Program} {H:Nat->b'} {kap:Nat->bP} {F F':Nat->Prop} {w:World}
def e8(P:Program)(H:Nat->b')(kap:Nat->bP)(F:Nat->Prop)(w:World):List aO->List Value->Prop
 | [],[]=>True
 | a::as,v::aJ=>(bQ P H kap F w a v/\v.oneCell'=true)/\e8 P H kap F w as aJ
 | _,_=>False
theorem e8.append:∀ {as ds:List aO} {us aJ:List Value},e8 P H kap F w as us->e8 P H kap F w ds aJ->e8 P H kap F w (as++ds) (us++aJ)
 | [],_,[],_,_,k=>k
 | _::_,_,_::_,_,h,k=>⟨h.1,e8.append h.2 k⟩
 | [],_,_::_,_,h,_=>h.elim
 | _::_,_,[],_,h,_=>h.elim
theorem e8.len:∀ {as:List aO} {us:List Value},e8 P H kap F w as us->as.length=us.length
 | [],[],_=>rfl
 | _::_,_::_,h=>by simp[e8.len h.2]
 | [],_::_,h=>h.elim
 | _::_,[],h=>h.elim
theorem e8.mc:∀ {as:List aO} {us:List Value},e8 P H kap F w as us->∀ i,i<as.length->bQ P H kap F w (ig as i) (us.getD i Go.undef)/\(us.getD i Go.undef).oneCell'=true
 | a::as,v::aJ,h,0,_=>h.1
 | a::as,v::aJ,h,i+1,D=>by
  have:=e8.mc h.2 i (by grind);simpa [ig]using this
 | [],[],_,i,D=>by grind
 | [],_::_,h,_,_=>h.elim
 | _::_,[],h,_,_=>h.elim
theorem e8.Vs:∀ {as:List aO} {us:List Value},as.length=us.length->(∀ i,i<as.length->bQ P H kap F w (ig as i) (us.getD i Go.undef)/\(us.getD i Go.undef).oneCell'=true)->e8 P H kap F w as us
 | [],[],_,_=>trivial
 | a::as,v::aJ,af,h=>⟨h 0 (by simp),e8.Vs (by grind) λi D=>by have:=h (i+1) (by grind);simpa [ig]using this⟩
 | [],_::_,af,_=>by grind
 | _::_,[],af,_=>by grind
theorem Bo:∀ (t:aa) {cs:List Value} {x:t.ak},cr P t F w cs x->e8 P H kap F w (o8 t x) cs:=by
 have fp:∀ (t:aa),t.fE=true->∀ {cs:List Value} {x:t.ak},cr P t F w cs x->e8 P H kap F w [.val t x] cs:=by
  intro t aT cs x h;obtain⟨u,rfl,hu⟩:=HU aT h;exact⟨⟨(eH aT).2 ⟨hu,h⟩,M4 aT h⟩,trivial⟩
 intro t;induction t with
 | bool=>intro cs x h;exact fp _ rfl h
 | int k=>intro cs x h;exact fp (.int k) rfl h
 | str=>intro cs x h;exact fp _ rfl h
 | dp=>intro cs x h;subst h;trivial
 | ae t aP=>intro cs x h;exact aP h
 | ar a b gD fy=>
  intro cs x h;obtain⟨c,d,rfl,br,V⟩:=h;exact (gD br).append (fy V)
 | slice e aP=>intro cs x h;exact fp (.slice e) rfl h
 | array n e aP=>
  intro cs xs h;simp  [cr]at h;simp only[o8];have key:∀ (k:Nat) (l:List (List Value)),(∀ i (D:i<l.length),e8 P H kap F w (o8 e (List.getD xs (k+i) e.dK)) l[i])->e8 P H kap F w ((List.range' k l.length).flatMap λi=>o8 e (List.getD xs i e.dK)) l.flatten:=by
   intro k l;induction l generalizing k with
   | nil=>intro _;trivial
   | cons c l ajL=>
    intro dt;refine e8.append ?_ (ajL (k+1) λi D=>?_)
    ·have:=dt 0 (by simp);grind
    ·have:=dt (i+1) (by grind);grind
  rw[aLa];grind
 | bV e aP=>intro cs x h;exact fp (.bV e) rfl h
 | map k v yK yL=>intro cs x h;exact fp (.map k v) rfl h
 | fn a b gD fy=>intro cs x h;exact fp (.fn a b) rfl h
 | cO a aP=>intro cs x h;exact fp (.cO a) rfl h
 | e3=>intro cs x h;exact fp .e3 rfl h
theorem M8{e:aa}{xs:List e.ak}{k:bP}(bd:ma P H kap F w k (.bu e xs))(bF:∀ r,F r->F' r)(ah:k.fK=false->F' k.W):cr P (.slice e) F' w [k.slice xs.length] xs:=by
 obtain⟨E,M⟩:=bd;simp  [bP.slice];cases aC:k.fK with
 | true=>rw[E aC];exact⟨none,0,rfl,ajn _,by decide,λ_=>rfl,λp aq=>by simp⟩
 | false=>
  obtain⟨cs,T,bx,c2,c3,c4,c5⟩:=M aC;refine⟨some ⟨k.W,k.off,none⟩,k.cap,by simp,c3,c4,(by simp),λp aq _=>?_⟩;cases aq;refine⟨ah aC,rfl,λi D=>?_⟩;obtain⟨bI,d1,d2⟩:=c5 i D;refine⟨bI,⟨ah aC,rfl,λj aI=>?_⟩,fQ e bF (dy.refl F w) d2⟩;simp  [World.cell?];grind
theorem HY{t dL:aa}{x:t.ak}{y:dL.ak}{v:Value}(hc:fz t dL x=some y)(h:e4 P t F w v x):e4 P dL F w v y:=by
 obtain⟨e,rfl⟩:=mb hc;grind
theorem vr{t dL:aa}{x:t.ak}{y:dL.ak}{cs:List Value}(hc:fz t dL x=some y)(h:cr P t F w cs x):cr P dL F w cs y:=by
 obtain⟨e,rfl⟩:=mb hc;grind
def kl(H:Nat->b')(kap:Nat->bP)(F':Nat->Prop)(l:List Nat):Prop:=∀ b∈l,(H b).body.cq (kap b)=true->F' (kap b).W
theorem kl.left{l m:List Nat}(h:kl H kap F' (l++m)):kl H kap F' l:=λb V=>h b (List.mem_append_left _ V)
theorem kl.right{l m:List Nat}(h:kl H kap F' (l++m)):kl H kap F' m:=λb V=>h b (aKy _ V)
theorem Vt{nO qN:aa}{es:List (nO.ak×qN.ak)}{k:bP}(bd:ma P H kap F w k (.mp nO qN es))(bF:∀ r,F r->F' r)(ah:F' k.W):cr P (.map nO qN) F' w [.map (some k.W)] es:=by
 obtain⟨ms,clk,E,M⟩:=bd;obtain⟨M,ai,bf,b2⟩:=M.mono bF (dy.refl F w);exact .inr ⟨_,ms,clk,rfl,ah,E,M,ai,bf,b2⟩
theorem HZ{e:aa}{xs:List e.ak}{k:bP}{bn D:Nat}{v:Value}(h:cr P (.slice e) F' w [k.slice xs.length] xs)(E:bn<=D)(M:D<=xs.length)(az:HX k e.size bn D v) :
  cr P (.slice e) F' w [v] ((xs.take D).drop bn):=by
 have hlen:((xs.take D).drop bn).length=D - bn:=by grind
 obtain⟨a,cap,ax,bx,c2,c3,c4⟩:=h;rcases az with⟨aC,rfl⟩ | ⟨aC,o,rfl,hK,gf⟩
 ·have:xs=[]:=by
   simp  [bP.slice,aLg]at ax;grind
  subst this;have bO:(([]:List e.ak).take D).drop bn=[]:=by simp
  rw[bO];exact⟨none,0,rfl,ajn _,by decide,λ_=>rfl,λp aq=>by simp⟩
 ·simp  [bP.slice,aC,aLg]at ax;obtain⟨rfl,_,rfl⟩:=ax;refine⟨some ⟨k.W,o,none⟩,k.cap - bn,by grind,by omega,by omega,(by simp),λp aq Bp=>?_⟩;cases aq;obtain⟨d1,d2,d3⟩:=c4 _ rfl (by omega);refine⟨d1,rfl,λi eE=>?_⟩;obtain⟨bI,m1,m2⟩:=d3 (bn+i) (by omega);grind
theorem M9(bd:∀ b,cX P H kap F w b)(bF:∀ r,F r->F' r){t:aa}(aT:t.fE=true){av:aO}{v:Value}{x:t.ak}{l:List Nat}(h:(eJ t av).run H=some (x,l))
  (af:kl H kap F' l) (ab:bQ P H kap F w av v):e4 P t F' w v x:=by
 cases av with
 | undef=>cases h
 | jU b a=>cases h
 | aK b g off=>cases h
 | pV b g i off=>cases h
 | kj b g i=>cases h
 | jV k n c=>
  cases t<;>simp  [eJ,aM.none,reduceCtorEq]at h;split at h
  ·rename_i aC;subst aC;cases h;obtain⟨aJ,rfl,af,_⟩:=ab;obtain rfl:=aKC af;exact (eH rfl).2 ⟨rfl,rfl⟩
  simp_all
 | tU k n c=>cases h
 | rF n f=>cases h
 | agg n f=>cases h
 | la b g=>cases h
 | tr l aN L n ae=>cases h
 | ia l=>cases h
 | yP e xs=>cases h
 | sub b g bn D=>
  cases t<;>simp only[eJ,aM.none,aM.dC,aM.gV,reduceCtorEq]at h;split at h
  ·rename_i aA;obtain⟨sO,jX⟩:=ab;have kS:=bd b;unfold cX at kS;cases ca:(H b).body with
   | bu bt xs=>
    rw[ca]at h kS jX;simp  at h;obtain⟨z,bD,rfl,rfl⟩:=h;obtain⟨⟨aY,a_⟩,b7⟩:=jX aA.symm rfl;exact (eH rfl).2 ⟨HS sO.2,vr bD (HZ (M8 kS bF λaC=>af b (by simp) (by rw[ca];simp[cf.cq,aC])) aY a_ b7)⟩
   | iL bt xs=>
    rw[ca]at h kS jX;simp  at h;obtain⟨z,bD,rfl,rfl⟩:=h;obtain⟨⟨aY,a_⟩,b7⟩:=jX aA.symm rfl;exact (eH rfl).2 ⟨HS sO.2,vr bD (HZ (fQ (.slice bt) bF (dy.refl F w) kS) aY a_ b7)⟩
   | _=>rw[ca]at h;cases h
  grind
 | gE b g=>
  cases t<;>simp only[eJ,aM.none,aM.dC,aM.gV,reduceCtorEq]at h;split at h
  ·rename_i aA;obtain⟨sO,jX⟩:=ab;have kS:=bd b;unfold cX at kS;cases ca:(H b).body with
   | mp k' kk es=>
    rw[ca]at h kS jX;simp  at h;obtain⟨z,bD,rfl,rfl⟩:=h;have:=jX aA.symm rfl;subst this;exact (eH rfl).2 ⟨rfl,vr bD (Vt kS bF (af b (by simp) (by rw[ca];rfl)))⟩
   | ky k' kk es=>
    rw[ca]at h kS jX;simp  at h;obtain⟨z,bD,rfl,rfl⟩:=h;have:=jX aA.symm rfl;subst this;exact (eH rfl).2 ⟨rfl,vr bD (fQ (.map k' kk) bF (dy.refl F w) kS)⟩
   | _=>rw[ca]at h;cases h
  grind
 | val dL y=>
  simp  [eJ,aJ8]at h;obtain⟨z,bD,rfl,rfl⟩:=h;exact (HY bD ab).mono bF (dy.refl F w)
 | bZ=>
  cases t<;>simp  [eJ,aM.none,aJ8]at h;obtain⟨rfl,rfl⟩:=h;subst ab;exact (eH rfl).2 ⟨rfl,none,0,rfl,ajn _,by decide,λ_=>rfl,λp aq=>by simp⟩
 | own b g=>
  cases t<;>simp only[eJ,aM.none,aM.dC,aM.gV,reduceCtorEq]at h;split at h
  ·rename_i aA;obtain⟨sO,jX⟩:=ab;have kS:=bd b;unfold cX at kS;cases ca:(H b).body with
   | bu bt xs=>
    rw[ca]at h kS jX;simp  at h;obtain⟨z,bD,rfl,rfl⟩:=h;have:=jX aA.symm rfl;subst this;refine (eH rfl).2 ⟨by unfold bP.slice;split<;>rfl,vr bD (M8 kS bF λaC=>af b (by simp) (by rw[ca];simp[cf.cq,aC]))⟩
   | iL bt xs=>
    rw[ca]at h kS jX;simp  at h;obtain⟨z,bD,rfl,rfl⟩:=h;have:=jX aA.symm rfl;subst this;exact (eH rfl).2 ⟨by unfold bP.slice;split<;>rfl,vr bD (fQ _ bF (dy.refl F w) kS)⟩
   | _=>rw[ca]at h;cases h
  grind
 | eI dL y=>
  cases t<;>simp  [eJ,aM.none,aJ8]at h;obtain⟨z,bD,rfl,rfl⟩:=h;obtain⟨p,bI,rfl,M,ai⟩:=ab;refine (eH rfl).2 ⟨rfl,vr bD ?_⟩;exact .inr ⟨p,y,bI,rfl,rfl,M.mono bF (dy.refl F w),fQ dL bF (dy.refl F w) ai⟩
 | kP u=>
  subst ab;simp  [eJ,aJ8]at h;obtain⟨z,bD,rfl,rfl⟩:=h;unfold D6 at bD;split at bD
  ·cases bD;exact (eH rfl).2 ⟨rfl,.inl ⟨rfl,rfl⟩⟩
  ·cases bD;exact (eH rfl).2 ⟨rfl,.inl ⟨rfl,rfl⟩⟩
  ·cases bD;exact (eH rfl).2 ⟨rfl,rfl⟩
  grind
theorem D7{n:Nat}{f:Nat->aO}{aJ:List Value}(af:aJ.length=n)(h:∀ i,i<n->bQ P H kap F w (f i) (aJ.getD i Go.undef)/\(aJ.getD i Go.undef).oneCell'=true) :
  e8 P H kap F w ((List.range n).map f) aJ:=by
 refine e8.Vs (by grind) λi D=>?_;have eE:i<n:=by grind
 have:ig ((List.range n).map f) i=f i:=by simp[ig,eE]
 grind
theorem Vu(bd:∀ b,cX P H kap F w b)(bF:∀ r,F r->F' r){e:aa}{cC:List aO->aM (Option (e.ak×List Nat×List aO))}
  (hs:∀ {cs:List aO} {aJ:List Value} {x:e.ak} {l:List Nat} {r:List aO},(cC cs).run H=some (x,l,r)->kl H kap F' l->e8 P H kap F w cs aJ->∃ c d,aJ=c++d/\cr P e F' w c x/\e8 P H kap F w r d)
  {av:aO} {v:Value} {x:Option e.ak} {l:List Nat} (h:(vq e cC av).run H=some (x,l)) (af:kl H kap F' l) (ab:bQ P H kap F w av v):e4 P (.bV e) F' w v x:=by
 have cK:(eJ (.bV e) av).run H=some (x,l)->e4 P (.bV e) F' w v x:=λh=>M9 bd bF rfl h af ab;cases av with
 | aK b g off=>
  simp only[vq,aM.gV]at h;split at h
  ·rename_i aA;obtain⟨aA,rfl⟩:=aA;obtain⟨sO,jX⟩:=ab;have kS:=bd b;unfold cX at kS;cases ca:(H b).body with
   | hR t y=>
    rw[ca]at h kS jX;simp  at h;obtain⟨z,bD,rfl,rfl⟩:=h;obtain⟨eq,rfl⟩:=mb bD;subst eq;obtain rfl:=jX aA.symm rfl;obtain⟨bI,E,M⟩:=kS;exact (eH rfl).2 ⟨rfl,.inr ⟨_,_,bI,rfl,rfl,E.mono bF (dy.refl F w),fQ t bF (dy.refl F w) M⟩⟩
   | cells t f=>
    rw[ca]at h kS jX;simp only at h;split at h
    ·rename_i aT;subst aT;simp only[aM.fG,aji,aM.dC]at h;obtain⟨⟨y,m,q⟩,E,M⟩:=h;split at M
     ·rename_i bM;obtain⟨rfl,rfl⟩:=M;obtain rfl:=jX aA.symm rfl;obtain⟨cs,T,aY,a_,b7⟩:=kS;have jY:e8 P H kap F w ((List.range t.size).map f) cs.toList:=D7 (by omega) λi D=>by
       simp_all
      obtain⟨c,d,ajM,bx,c2⟩:=hs E (λbl da=>af bl (ajp _ da)) jY;have bM:=List.isEmpty_iff.1 bM;subst bM;cases d with
      | cons _ _=>exact c2.elim
      | nil=>
       refine (eH rfl).2 ⟨rfl,.inr ⟨_,y,c,rfl,rfl,⟨af b (by simp) (by rw[ca];rfl),rfl,λj aI=>?_⟩,bx⟩⟩;have h2:j<cs.size:=by grind
       simp  [World.cell?,Array.getElem?_eq_getElem h2];grind
     grind
    ·cases h
   | _=>rw[ca]at h;cases h
  ·cases h
 | _=>exact cK h
theorem M_(bd:∀ b,cX P H kap F w b)(bF:∀ r,F r->F' r):∀ (t:aa) {cs:List aO} {aJ:List Value} {x:t.ak} {l:List Nat} {r:List aO},(kz t cs).run H=some (x,l,r)->
  kl H kap F' l->e8 P H kap F w cs aJ->∃ c d,aJ=c++d/\cr P t F' w c x/\e8 P H kap F w r d:=by
 have rH:∀ (t:aa) (g:aO->aM (Option (t.ak×List Nat))),t.fE=true->(∀ {av:aO} {v:Value} {x:t.ak} {l:List Nat},(g av).run H=some (x,l)->kl H kap F' l->bQ P H kap F w av v->e4 P t F' w v x)->
   ∀ {cs:List aO} {aJ:List Value} {x:t.ak} {l:List Nat} {r:List aO},(match cs with | c::r=>(g c).map λo=>o.map λ(x,l)=>(x,l,r) | []=>.none:aM (Option (t.ak×List Nat×List aO))).run H=some (x,l,r)->
   kl H kap F' l->e8 P H kap F w cs aJ->∃ c d,aJ=c++d/\cr P t F' w c x/\e8 P H kap F w r d:=by
  intro t g aT aA cs aJ x l r h af br;cases cs with
  | nil=>cases h
  | cons c cs=>
   cases aJ with
   | nil=>exact br.elim
   | cons v aJ=>
    simp only[aM.map,aM.run_bind,aM.dC,aKt]at h;obtain⟨⟨y,m⟩,bD,rfl,rfl,rfl⟩:=h;refine⟨[v],aJ,rfl,?_,br.2⟩;exact ((eH aT).1 (aA bD af br.1.1)).2
 have fp:∀ (t:aa),t.fE=true->∀ {cs:List aO} {aJ:List Value} {x:t.ak} {l:List Nat} {r:List aO},(match cs with | c::r=>(eJ t c).map λo=>o.map λ(x,l)=>(x,l,r) | []=>.none:aM (Option (t.ak×List Nat×List aO))).run H=some (x,l,r)->
   kl H kap F' l->e8 P H kap F w cs aJ->∃ c d,aJ=c++d/\cr P t F' w c x/\e8 P H kap F w r d:=
  λt aT=>rH t (eJ t) aT λh af ab=>M9 bd bF aT h af ab
 intro t;induction t with
 | bool=>intro cs aJ x l r h af br;exact fp _ rfl h af br
 | int k=>intro cs aJ x l r h af br;exact fp (.int k) rfl h af br
 | str=>intro cs aJ x l r h af br;exact fp _ rfl h af br
 | dp=>
  intro cs aJ x l r h af br;obtain⟨_,rfl,rfl⟩:=h;exact⟨[],aJ,rfl,rfl,br⟩
 | ae t aP=>intro cs aJ x l r h af br;exact aP h af br
 | ar a b gD fy=>
  intro cs aJ x l r h af br;simp only[kz,aM.fG,aji,aJ8]at h;obtain⟨⟨y,m,q⟩,E,⟨z,eh,q'⟩,M,rfl,rfl,rfl⟩:=h;obtain⟨c,d,rfl,bx,c2⟩:=gD E af.left br;obtain⟨me,tX,rfl,d1,d2⟩:=fy M af.right c2;exact⟨c++me,tX,by simp,⟨c,me,rfl,bx,d1⟩,d2⟩
 | slice e aP=>intro cs aJ x l r h af br;exact fp (.slice e) rfl h af br
 | array n e aP=>
  intro cs aJ xs l r h af br;have key:∀ (n:Nat) {cs:List aO} {aJ:List Value} {xs:List e.ak} {l:List Nat} {r:List aO},(n.rec (motive:=λ_=>List aO->aM (Option (List e.ak×List Nat×List aO))) (λcs=>.ret (some ([],[],cs)))
     (λ_ aP cs=>(kz e cs).ev λ(x,l,r)=>(aP r).ev λ(xs,m,q)=>.ret (some (x::xs,l++m,q))) cs).run H=some (xs,l,r)->
    kl H kap F' l->e8 P H kap F w cs aJ->
    ∃ gm d,aJ=List.flatten gm++d/\gm.length=n/\xs.length=n/\(∀ i (h:i<xs.length) (eA:i<gm.length),cr P e F' w gm[i] xs[i])/\e8 P H kap F w r d:=by
   intro n;induction n with
   | zero=>
    intro cs aJ xs l r h af br;cases h;exact⟨[],aJ,rfl,rfl,rfl,λi D=>(by simp),br⟩
   | succ n D8=>
    intro cs aJ xs l r h af br;simp only[aM.fG,aji,aJ8]at h;obtain⟨⟨y,m,q⟩,E,⟨z,eh,q'⟩,M,rfl,rfl,rfl⟩:=h;obtain⟨c,d,rfl,bx,c2⟩:=aP E af.left br;obtain⟨gm,tX,rfl,d1,d2,d3,d4⟩:=D8 M af.right c2;refine⟨c::gm,tX,by simp,by grind,by grind,λi D eE=>?_,d4⟩;grind
  obtain⟨gm,d,ax,aU,cD,eZ,fR⟩:=key n h af br;exact⟨gm.flatten,d,ax,⟨gm,rfl,aU,cD,eZ⟩,fR⟩
 | bV e aP=>intro cs aJ x l r h af br;exact rH (.bV e) (vq e (kz e)) rfl (λh af ab=>Vu bd bF aP h af ab) h af br
 | map k v yK yL=>intro cs aJ x l r h af br;exact fp (.map k v) rfl h af br
 | fn a b gD fy=>intro cs aJ x l r h af br;exact fp (.fn a b) rfl h af br
 | cO a aP=>intro cs aJ x l r h af br;exact fp (.cO a) rfl h af br
 | e3=>intro cs aJ x l r h af br;exact fp .e3 rfl h af br
theorem nQ(bd:∀ b,cX P H kap F w b)(bF:∀ r,F r->F' r){t:aa}{av:aO}{v:Value}{x:t.ak}{l:List Nat}(h:(eg t av).run H=some (x,l))
  (af:kl H kap F' l) (ab:bQ P H kap F w av v):e4 P t F' w v x:=by
 have cK:(lF t av).run H=some (x,l)->e4 P t F' w v x:=by
  intro h;unfold lF at h;split at h
  ·exact Vu bd bF (λh af br=>M_ bd bF _ h af br) h af ab
  ·split at h
   ·rename_i aT;exact M9 bd bF aT h af ab
   ·cases h
 cases av with
 | val dL y=>
  simp  [eg,aJ8]at h;obtain⟨z,bD,rfl,rfl⟩:=h;exact (HY bD ab).mono bF (dy.refl F w)
 | agg n f=>
  simp  [eg]at h;split at h
  ·cases h
  ·simp only[aM.fG,aji,aM.dC]at h;obtain⟨⟨y,m,q⟩,E,M⟩:=h;split at M
   ·rename_i hc;simp  at hc;obtain⟨rfl,rfl⟩:=M;obtain⟨aJ,rfl,bf,b2⟩:=ab;obtain⟨c,d,rfl,bx,c2⟩:=M_ bd bF t E af (D7 bf b2);rw[hc.1]at c2;cases d with
    | cons _ _=>exact c2.elim
    | nil=>
     rw[aKg]at *
     have hlen:=jx t bx;have az:=hc.2;cases t<;>simp  [aa.isAgg]at az
     ·exact⟨⟨c.toArray,rfl,by simpa [aa.size]using hlen⟩,by simpa [Value.cells]using bx⟩
     ·exact⟨⟨c.toArray,rfl,by simpa [aa.size]using hlen⟩,by simpa [Value.cells]using bx⟩
   grind
 | undef=>exact cK h
 | jU b a=>exact cK h
 | aK b g off=>exact cK h
 | own b g=>exact cK h
 | pV b g i off=>exact cK h
 | kj b g i=>exact cK h
 | eI dL y=>exact cK h
 | gE b g=>exact cK h
 | jV k n c=>exact cK h
 | tU k n c=>exact cK h
 | rF n f=>exact cK h
 | bZ=>exact cK h
 | kP u=>exact cK h
 | la b g=>exact cK h
 | tr l aN L n ae=>exact cK h
 | ia l=>exact cK h
 | yP e xs=>exact cK h
 | sub b g bn D=>exact cK h
end
def aa.pure:aa->Bool
 | .bool | .int _ | .str | .dp=>true
 | .ae t=>t.pure
 | .ar a b=>a.pure&&b.pure
 | .array _ e=>e.pure
 | _=>false
theorem ajN{P:Program}{F F':Nat->Prop}{w w':World}:∀ (t:aa) {cs:List Value} {x:t.ak},t.pure=true->cr P t F w cs x->cr P t F' w' cs x:=by
 intro t;induction t with
 | bool=>intro cs x _ h;exact h
 | int k=>intro cs x _ h;exact h
 | str=>intro cs x _ h;exact h
 | dp=>intro cs x _ h;exact h
 | ae t aP=>intro cs x aT h;exact aP aT h
 | ar a b gD fy=>
  intro cs x aT h;simp  [aa.pure]at aT;obtain⟨c,d,rfl,br,V⟩:=h;exact⟨c,d,rfl,gD aT.1 br,fy aT.2 V⟩
 | slice e aP=>intro cs x aT;cases aT
 | array n e aP=>
  intro cs x aT h;obtain⟨gm,rfl,E,M,ai⟩:=h;exact⟨gm,rfl,E,M,λi D eE=>aP aT (ai i D eE)⟩
 | bV e aP=>intro cs x aT;cases aT
 | map k v yK yL=>intro cs x aT;cases aT
 | fn a b gD fy=>intro cs x aT;cases aT
 | cO a aP=>intro cs x aT;cases aT
 | e3=>intro cs x aT;cases aT
end Go.Fer
namespace Go.Fer
open Go.RowKit
section
variable {P:Program} {F:Nat->Prop} {w:World}
theorem ajO{t:aa}{x y:t.ak}(h:fz t t x=some y):y=x:=by
 obtain⟨e,rfl⟩:=mb h;rfl
theorem Vv:∀ (t:aa) {f:Nat} {cs:List Value} {x:t.ak} {s:aa} {y:s.ak},cr P t F w cs x->w3 t x f=some ⟨s,y⟩->
  ∃ bx c2 c3,cs=bx++(c2++c3)/\cr P s F w c2 y/\o9 t f=some (s,bx.length):=by
 have fp:∀ (t:aa),(∀ a b,t≠.ar a b)->t≠.dp->∀ {f:Nat} {cs:List Value} {x:t.ak} {s:aa} {y:s.ak},cr P t F w cs x->w3 t x f=some ⟨s,y⟩->
   ∃ bx c2 c3,cs=bx++(c2++c3)/\cr P s F w c2 y/\o9 t f=some (s,bx.length):=by
  intro t E M f cs x s y h aw;cases f with
  | zero=>
   have e:w3 t x 0=some ⟨t,x⟩:=by cases t<;>first | rfl | grind | grind
   have bt:o9 t 0=some (t,0):=by cases t<;>first | rfl | grind | grind
   rw[e]at aw;cases aw;exact⟨[],cs,[],by simp,h,bt⟩
  | succ f=>
   have e:w3 t x (f+1)=none:=by cases t<;>first | rfl | grind
   grind
 intro t;induction t with
 | ar a b gD fy=>
  intro f cs x s y h aw;obtain⟨c,d,rfl,br,V⟩:=h;cases f with
  | zero=>
   simp  [w3,Sigma.mk.injEq]at aw;obtain⟨rfl,aw⟩:=aw;cases aw;exact⟨[],c,d,by simp,br,rfl⟩
  | succ f=>
   obtain⟨bx,c2,c3,rfl,aY,a_⟩:=fy V aw;refine⟨c++bx,c2,c3,by simp,aY,?_⟩;simp[o9,a_,jx a br]
 | dp=>intro f cs x s y _ aw;cases f<;>cases aw
 | bool=>grind
 | int k=>grind
 | str=>grind
 | ae t _=>grind
 | slice e _=>grind
 | array n e _=>grind
 | bV e _=>grind
 | map k v _ _=>grind
 | fn a b _ _=>grind
 | cO a _=>grind
 | e3=>grind
theorem Vw:∀ (t:aa) {off:Nat} {cs:List Value} {x:t.ak} {s:aa} {y:s.ak},cr P t F w cs x->tW t x off s=some y->
  ∃ bx c2 c3,cs=bx++(c2++c3)/\bx.length=off/\cr P s F w c2 y:=by
 have fp:∀ (t:aa) {off:Nat} {cs:List Value} {x:t.ak} {s:aa} {y:s.ak},cr P t F w cs x->(if off=0 then fz t s x else none)=some y->
   ∃ bx c2 c3,cs=bx++(c2++c3)/\bx.length=off/\cr P s F w c2 y:=by
  intro t off cs x s y h aw;split at aw
  ·rename_i au;exact⟨[],cs,[],by simp,au.symm,vr aw h⟩
  grind
 intro t;induction t with
 | ar a b gD fy=>
  intro off cs x s y h aw;obtain⟨c,d,rfl,br,V⟩:=h;simp  [tW]at aw;split at aw
  ·grind
  ·have:=jx a br;grind
 | ae t aP=>
  intro off cs x s y h aw;simp  [tW]at aw;split at aw
  ·rename_i au;exact⟨[],cs,[],by simp,au.1.symm,vr aw h⟩
  ·simp  [cr]at h;grind
 | dp=>intro off cs x s y _ aw;cases aw
 | array n e _=>intro off cs x s y _ aw;cases aw
 | bool=>intro off cs x s y h aw;exact fp _ h aw
 | int k=>intro off cs x s y h aw;exact fp (.int k) h aw
 | str=>intro off cs x s y h aw;exact fp _ h aw
 | slice e _=>intro off cs x s y h aw;exact fp (.slice e) h aw
 | bV e _=>intro off cs x s y h aw;exact fp (.bV e) h aw
 | map k v _ _=>intro off cs x s y h aw;exact fp (.map k v) h aw
 | fn a b _ _=>intro off cs x s y h aw;exact fp (.fn a b) h aw
 | cO a _=>intro off cs x s y h aw;exact fp (.cO a) h aw
 | e3=>intro off cs x s y h aw;exact fp .e3 h aw
theorem ajP:∀ (t:aa) {off:Nat} {cs bI:List Value} {x eF:t.ak} {s:aa} {y:s.ak},cr P t F w cs x->yT t x off s y=some eF->cr P s F w bI y->
  ∃ bx c2 c3,cs=bx++(c2++c3)/\bx.length=off/\c2.length=s.size/\cr P t F w (bx++(bI++c3)) eF:=by
 have fp:∀ (t:aa) {off:Nat} {cs bI:List Value} {x eF:t.ak} {s:aa} {y:s.ak},cr P t F w cs x->(if off=0 then fz s t y else none)=some eF->cr P s F w bI y->
   ∃ bx c2 c3,cs=bx++(c2++c3)/\bx.length=off/\c2.length=s.size/\cr P t F w (bx++(bI++c3)) eF:=by
  intro t off cs bI x eF s y h aw an;split at aw
  ·rename_i au;obtain⟨e,rfl⟩:=mb aw;subst e;exact⟨[],cs,[],by simp,au.symm,jx s h,by grind⟩
  grind
 intro t;induction t with
 | ar a b gD fy=>
  intro off cs bI x eF s y h aw an;obtain⟨c,d,rfl,br,V⟩:=h;simp  [yT]at aw;split at aw
  ·simp  at aw;obtain⟨z,bD,rfl⟩:=aw;obtain⟨bx,c2,c3,rfl,aY,a_,b7⟩:=gD br bD an;exact⟨bx,c2,c3++d,by simp,aY,a_,⟨_,d,by simp,b7,V⟩⟩
  ·simp  at aw;obtain⟨z,bD,rfl⟩:=aw;obtain⟨bx,c2,c3,rfl,aY,a_,b7⟩:=fy V bD an;have:=jx a br;exact⟨c++bx,c2,c3,by simp,by grind,a_,⟨c,_,by simp,br,b7⟩⟩
 | ae t aP=>
  intro off cs bI x eF s y h aw an;simp  [yT]at aw;split at aw
  ·rename_i au;obtain⟨au,e⟩:=au;subst e;have:=ajO aw;exact⟨[],cs,[],by simp,au.symm,jx _ h,by grind⟩
  ·simp  [cr]at h ⊢;grind
 | dp=>intro off cs bI x eF s y _ aw;cases aw
 | array n e _=>intro off cs bI x eF s y _ aw;cases aw
 | bool=>intro off cs bI x eF s y h aw an;exact fp _ h aw an
 | int k=>intro off cs bI x eF s y h aw an;exact fp (.int k) h aw an
 | str=>intro off cs bI x eF s y h aw an;exact fp _ h aw an
 | slice e _=>intro off cs bI x eF s y h aw an;exact fp (.slice e) h aw an
 | bV e _=>intro off cs bI x eF s y h aw an;exact fp (.bV e) h aw an
 | map k v _ _=>intro off cs bI x eF s y h aw an;exact fp (.map k v) h aw an
 | fn a b _ _=>intro off cs bI x eF s y h aw an;exact fp (.fn a b) h aw an
 | cO a _=>intro off cs bI x eF s y h aw an;exact fp (.cO a) h aw an
 | e3=>intro off cs bI x eF s y h aw an;exact fp .e3 h aw an
end
def lG:aa->List Value->Option (List Value)
 | .dp,cs=>some cs
 | .ae t,cs=>lG t cs
 | .ar a b,cs=>(lG a cs).bind (lG b)
 | .array n e,cs=>n.rec (motive:=λ_=>List Value->Option (List Value)) some (λ_ aP cs=>(lG e cs).bind aP) cs
 | .bool,cs=>match cs with | .bool false::r=>some r | _=>none
 | .int k,cs=>match cs with | .int k' n::r=>if k'=k/\n=0 then some r else none | _=>none
 | .str,cs=>match cs with | .string s::r=>if s.size=0 then some r else none | _=>none
 | .slice _,cs=>match cs with | .slice none 0 0::r=>some r | _=>none
 | .bV _,cs=>match cs with | .pointer none::r=>some r | _=>none
 | .map _ _,cs=>match cs with | .map none::r=>some r | _=>none
 | .fn _ _,cs=>match cs with | .nilFunc::r=>some r | _=>none
 | .cO _,cs=>match cs with | .nilFunc::r=>some r | _=>none
 | .e3,cs=>match cs with | .nilFunc::r=>some r | _=>none
theorem Vx(k:IntKind):gS k 0:=by cases k<;>decide
theorem w4{P:Program}{H:Nat->b'}{kap:Nat->bP}{F:Nat->Prop}{w:World}:∀ (t:aa) {cs r:List Value},lG t cs=some r->
  ∃ c,cs=c++r/\cr P t F w c t.dK/\e8 P H kap F w (tV t) c:=by
 intro t;induction t with
 | dp=>intro cs r h;cases h;exact⟨[],by simp,rfl,trivial⟩
 | ae t aP=>intro cs r h;exact aP h
 | ar a b gD fy=>
  intro cs r h;simp  [lG,aji]at h;obtain⟨q,E,M⟩:=h;obtain⟨c,rfl,bx,c2⟩:=gD E;obtain⟨d,rfl,d1,d2⟩:=fy M;exact⟨c++d,by simp,⟨c,d,rfl,bx,d1⟩,c2.append d2⟩
 | array n e aP=>
  intro cs r h;have key:∀ (n k:Nat) {cs r:List Value},n.rec   some (λ_ aP cs=>(lG e cs).bind aP) cs=some r->
    ∃ gm:List (List Value),cs=gm.flatten++r/\gm.length=n/\(∀ c∈gm,cr P e F w c e.dK)/\e8 P H kap F w ((List.range' k n).flatMap λ_=>tV e) gm.flatten:=by
   intro n;induction n with
   | zero=>intro k cs r h;cases h;exact⟨[],by simp,rfl,by simp,trivial⟩
   | succ n D8=>
    intro k cs r h;simp  [aji]at h;obtain⟨q,E,M⟩:=h;obtain⟨c,rfl,bx,c2⟩:=aP E;obtain⟨gm,rfl,d1,d2,d3⟩:=D8 (k+1) M;refine⟨c::gm,by simp,by grind,?_,?_⟩
    ·grind
    ·exact c2.append d3
  obtain⟨gm,rfl,E,M,ai⟩:=key n 0 h;refine⟨gm.flatten,rfl,⟨gm,rfl,E,by simp[aa.dK],λi D eE=>?_⟩,?_⟩
  ·have:(aa.array n e).dK[i]=e.dK:=by simp[aa.dK]
   grind
  ·simp  [tV,aLa];omega
 | bool=>
  intro cs r h;simp  [lG]at h;split at h
  ·cases h;exact⟨[.bool false],rfl,rfl,⟨f'.2 rfl,rfl⟩,trivial⟩
  grind
 | int k=>
  intro cs r h;simp  [lG]at h;split at h
  ·split at h
   ·rename_i ah;obtain⟨rfl,rfl⟩:=ah;cases h;exact⟨[.int _ 0],rfl,⟨rfl,Vx _⟩,⟨h'.2 ⟨rfl,Vx _⟩,rfl⟩,trivial⟩
   grind
  grind
 | str=>
  intro cs r h;simp only[lG]at h;split at h
  ·rename_i s wZ;split at h
   ·rename_i az;cases h;have:s=⟨([]).toArray⟩:=by
     cases s with | mk d=>simp  [ByteArray.size]at az;grind
    subst this;exact⟨[.string ⟨([]).toArray⟩],rfl,⟨rfl,by decide⟩,⟨oc.2 ⟨rfl,by decide⟩,rfl⟩,trivial⟩
   grind
  grind
 | slice e _=>
  intro cs r h;simp  [lG]at h;split at h
  ·cases h;exact⟨[.slice none 0 0],rfl,⟨none,0,rfl,ajn _,by decide,λ_=>rfl,λp aq=>by simp⟩,⟨rfl,rfl⟩,trivial⟩
  grind
 | bV e _=>
  intro cs r h;simp  [lG]at h;split at h
  ·cases h;exact⟨[.pointer none],rfl,.inl ⟨rfl,rfl⟩,⟨(eH rfl).2 ⟨rfl,.inl ⟨rfl,rfl⟩⟩,rfl⟩,trivial⟩
  grind
 | map k v _ _=>
  intro cs r h;simp  [lG]at h;split at h
  ·cases h;exact⟨[.map none],rfl,.inl ⟨rfl,rfl⟩,⟨(eH rfl).2 ⟨rfl,.inl ⟨rfl,rfl⟩⟩,rfl⟩,trivial⟩
  grind
 | fn a b _ _=>
  intro cs r h;simp  [lG]at h;split at h
  ·cases h;exact⟨[.nilFunc],rfl,⟨.nilFunc,rfl,⟨rfl,rfl⟩,λF' w' _ _ _ _ args x _ _ az=>(az).elim⟩,⟨rfl,rfl⟩,trivial⟩
  grind
 | cO a _=>
  intro cs r h;simp  [lG]at h;split at h
  ·cases h;exact⟨[.nilFunc],rfl,⟨.nilFunc,rfl,⟨rfl,rfl⟩,λF' w' _ _ _ _ az=>(az).elim λ_ h=>h.elim⟩,⟨rfl,rfl⟩,trivial⟩
  grind
 | e3=>
  intro cs r h;simp  [lG]at h;split at h
  ·cases h;exact⟨[.nilFunc],rfl,rfl,⟨(eH rfl).2 ⟨rfl,rfl⟩,rfl⟩,trivial⟩
  grind
def pX(P:Program)(t:aa)(id:TypeId):Bool:=
 match P.info? id with
 | some i=>i.size == t.size&&decide (i.bytes<=1024)&&(match i.zero with
  | some z=>(match lG t z.cells.toList with | some []=>true | _=>false)&&(match t,z with
   | .ae _,.agg _=>true
   | .array _ _,.agg _=>true
   | .ae _,_=>false
   | .array _ _,_=>false
   | _,.agg _=>false
   | _,_=>true)
  | none=>false)
 | none=>false
def cZ(P:Program):aa->Sum TypeId (List Field×Nat)->Bool
 | .ar a b, .inr (f :: g :: [], off) => f.offset == off && cZ P a (.inl f.type) && a.size != 0 && f.name != "_" && (g.offset == off + a.size && cZ P b (.inl g.type) && b.size != 0 && g.name != "_")
 | .ar a b, .inr (f :: g :: h :: fA, off) => f.offset == off && cZ P a (.inl f.type) && a.size != 0 && f.name != "_" && cZ P b (.inr (g :: h :: fA, off + a.size))
 | .ae t,.inl id=>pX P (.ae t) id&&!P.stoodInHeld id&&!P.eqGuardType P.depth id&&match P.underlying id with
  | some (.struct fA)=>(match fA.toList with
   | []=>decide (t=.dp)
   | [f] => f.offset == 0 && cZ P t (.inl f.type) && t.size != 0 && f.name != "_"
   | l=>cZ P t (.inr (l,0)))
  | _=>false
 | .bool,.inl id=>pX P .bool id&&(match P.underlying id with | some .bool=>true | _=>false)
 | .int k,.inl id=>pX P (.int k) id&&(match P.underlying id with | some (.int k')=>decide (k'=k) | _=>false)
 | .str,.inl id=>pX P .str id&&(match P.underlying id with | some .string=>true | _=>false)
 | .slice e,.inl id=>pX P (.slice e) id&&(match P.underlying id with | some (.slice i)=>cZ P e (.inl i)&&e.size != 0 | _=>false)
 | .array n e,.inl id=>pX P (.array n e) id&&(match P.underlying id with | some (.array m i)=>decide (m=n)&&cZ P e (.inl i)&&e.size != 0 | _=>false)
 | .bV e,.inl id=>pX P (.bV e) id&&(match P.underlying id with | some (.pointer i)=>cZ P e (.inl i)&&e.size != 0 | _=>false)
 | .map k v,.inl id=>pX P (.map k v) id&&(match P.underlying id with | some (.map i j)=>cZ P k (.inl i)&&cZ P v (.inl j) | _=>false)
 | .fn a b,.inl id=>pX P (.fn a b) id&&(match P.underlying id with | some (.func _ _ _)=>true | _=>false)
 | .cO a,.inl id=>pX P (.cO a) id&&(match P.underlying id with | some (.func _ _ _)=>true | _=>false)
 | .e3,.inl id=>pX P .e3 id&&(match P.underlying id with | some (.func _ _ _)=>true | _=>false)
 | _,_=>false
def cx(P:Program)(t:aa)(id:TypeId):Prop:=cZ P t (.inl id)=true
theorem cx.nn{P:Program}{t:aa}{id:TypeId}(h:cx P t id):pX P t id=true:=by
 unfold cx at h;cases t<;>simp  [cZ,ajh]at h<;>first | exact h.1.1.1 | exact h.1
theorem np{P:Program}{t:aa}{id:TypeId}(h:pX P t id=true):∃ i z,P.info? id=some i/\i.size=t.size/\i.bytes<=1024/\i.zero=some z/\
  lG t z.cells.toList=some []/\((∃ cs,z=.agg cs)<->t.isAgg=true):=by
 unfold pX at h;split at h
 ·rename_i i D;simp  at h;obtain⟨⟨E,M⟩,ai⟩:=h;split at ai
  ·rename_i z bD;refine⟨i,z,D,E,M,bD,?_,?_⟩
   ·grind
   ·cases t<;>cases z<;>simp_all[aa.isAgg]
  grind
 grind
end Go.Fer
namespace Go.Fer
open Go.RowKit
structure fb where
 cG:Prop
 c:Prop
 gG:aO
 iN:List (Nat×b')
def use:aO->Prop×aO
 | .jU b a=>(b=true,a)
 | a=>(True,a)
def yU:Value->aO
 | .bool b=>.val .bool b
 | .int k n=>if gS k n then .val (.int k) n else .kP (.int k n)
 | .string s=>if s.size<1048576 then .val .str s.data.toList else .kP (.string s)
 | .slice none 0 0=>.bZ
 | v=>.kP v
def bs(ba:ew)(s:Nat->aO):Operand->aO
 | .tmp t=>s t
 | .const v=>yU v
 | .func f=>match ba.vn f with
  | some v=>.val (.fn v.ts v.tr) v.sh
  | none=>.jV f 0 λ_=>.undef
 | .global _=>.undef
structure aF where
 ts:aa
 tr:aa
 pre:ts.ak->Prop
 g:ts.ak->tr.ak
def lH:(t:aa)->t.ak->Nat->aO
 | .ar a _,x,0=>.val a x.1
 | .ar _ b,x,i+1=>lH b x.2 i
 | t,x,0=>.val t x
 | _,_,_+1=>.undef
def lb:aa->Nat
 | .ar _ b=>lb b+1
 | .dp=>0
 | _=>1
def sP(t:aa)(x:t.ak):aO:=
 match t with
 | .ar a b=>.rF (lb (.ar a b)) (lH (.ar a b) x)
 | .dp=>.kP (.tuple #[])
 | t=>.val t x
def km:(t:aa)->List aO->aM (Option (t.ak×List Nat))
 | .ar a b,v::aJ=>(eg a v).ev λ(x,l)=>(km b aJ).ev λ(y,m)=>.ret (some ((x,y),l++m))
 | .ar _ _,[]=>.none
 | .dp,[]=>.ret (some ((),[]))
 | .dp,_::_=>.none
 | t,[v]=>eg t v
 | _,_=>.none
def kT:List Nat->aM (List (Nat×b'))
 | []=>.ret []
 | b::l=>.fj b λx=>(kT l).bind λr=>match x.body with
  | .bu e xs=>.ret ((b,⟨x.gen,.iL e xs⟩)::r)
  | .mp k v es=>.ret ((b,⟨x.gen,.ky k v es⟩)::r)
  | .cells t f=>(kz t ((List.range t.size).map f)).bind λo=>.ret (match o with
   | some (y,_,[])=>(b,⟨x.gen,.hR t y⟩)::r
   | _=>r)
  | _=>.ret r
def cellsOf(t:aa)(av:aO):Option (List aO):=
 match t,av with
 | .ae t,.val (.ae dL) x=>if dL=t then some (o8 dL x) else none
 | .ae t,.agg n f=>if n=t.size then some ((List.range n).map f) else none
 | .array n e,.val (.array kn bt) x=>if kn=n/\bt=e then some (o8 (.array kn bt) x) else none
 | .array n e,.agg m f=>if m=n*e.size then some ((List.range m).map f) else none
 | t,av=>if t.fE then (match av with
  | .val dL _=>if dL.fE then some [av] else none
  | .aK _ _ _ | .own _ _ | .pV _ _ _ _ | .eI _ _ | .gE _ _ | .jV _ _ _ | .bZ | .sub _ _ _ _=>some [av]
  | .kP (.agg _) | .kP (.tuple _)=>none
  | .kP _=>some [av]
  | _=>none) else none
def aO.nR:aO->Option (IntKind×Int)
 | .val (.int k) x=>some (k,x)
 | _=>none
def aO.vs:aO->Option (List UInt8)
 | .val .str x=>some x
 | _=>none
def Bq(op:BinOp)(k:IntKind)(a b:Int):Option (Prop×aO):=
 match op with
 | .add=>some (True,.val (.int k) (k.wrap (a+b)))
 | .sub=>some (True,.val (.int k) (k.wrap (a - b)))
 | .mul=>some (True,.val (.int k) (k.wrap (a*b)))
 | .quo=>some (b≠0,.val (.int k) (k.wrap (a.tdiv b)))
 | .rem=>some (b≠0,.val (.int k) (a.tmod b))
 | .and=>some (True,.val (.int k) (nm k a b))
 | .or=>some (True,.val (.int k) (Vp k a b))
 | .xor=>some (True,.val (.int k) (Vq k a b))
 | .andNot=>some (True,.val (.int k) (Vr k a b))
 | .eql=>some (True,.val .bool (decide (a=b)))
 | .neq=>some (True,.val .bool (decide (a≠b)))
 | .lss=>some (True,.val .bool (decide (a<b)))
 | .leq=>some (True,.val .bool (decide (a<=b)))
 | .gtr=>some (True,.val .bool (decide (a > b)))
 | .geq=>some (True,.val .bool (decide (a>=b)))
 | _=>none
def M'(op:BinOp)(k:IntKind)(a b:Int):Option (Prop×aO):=
 match op with
 | .shl=>some (0<=b,.val (.int k) (ajK k a b))
 | .shr=>some (0<=b,.val (.int k) (kA k a b))
 | _=>none
def D9(op:BinOp)(a b:List UInt8):Option (Prop×aO):=
 match op with
 | .add=>some (bW (a.length+b.length),.val .str (a++b))
 | .eql=>some (True,.val .bool (decide (a=b)))
 | .neq=>some (True,.val .bool (decide (a≠b)))
 | .lss=>some (True,.val .bool (Op.bytesLess a b))
 | .geq=>some (True,.val .bool (!Op.bytesLess a b))
 | _=>none
def aa.mH:aa->Nat
 | .ae t=>t.mH+1
 | .ar a b=>max a.mH b.mH
 | _=>1
def D_(op:BinOp)(t:aa)(x y:aO):aM (Option (Prop×aO)):=
 (match t,x,y with
 | .bV _,.val (.bV _) p,.kP (.pointer none)=>.ret (some p.isNone)
 | .bV _,.eI _ _,.kP (.pointer none)=>.ret (some false)
 | .bV _,.aK b g _,.kP (.pointer none)=>.fj b λz=>.ret (if z.gen=g&&z.body.gT then some false else none)
 | t,x,y=>if t.nP&&decide (t.mH<=100) then (eg t x).ev λ(a,_)=>(eg t y).ev λ(b,_)=>.ret (some (h3 t a b)) else .none:aM (Option Bool)).ev λe=>
 .ret (match op with
  | .eql=>some (True,.val .bool e)
  | .neq=>some (True,.val .bool (!e))
  | _=>none)
def cQ(cG c:Prop)(v:aO):aM (Option fb):=.ret (some ⟨cG,c,v,[]⟩)
def H0(t:aa)(av:aO):aM (Option (Prop×Int)):=
 match t with
 | .slice _=>match av with
  | .val (.slice _) xs=>.ret (some (True,xs.length))
  | .bZ=>.ret (some (True,0))
  | .own b g=>.fj b λx=>.ret (if x.gen=g&&x.body.gU then some (True,x.body.len) else none)
  | .sub b g bn D=>.fj b λx=>.ret (if x.gen=g&&x.body.gU then some (True,((D - bn:Nat):Int)) else none)
  | _=>.none
 | .str=>match av with
  | .val .str xs=>.ret (some (True,xs.length))
  | _=>.none
 | .map _ _=>match av with
  | .val (.map _ _) xs=>.ret (some (bW xs.length,xs.length))
  | .gE b g=>.fj b λx=>.ret (if x.gen=g then (match x.body with | .mp _ _ es=>some (bW es.length,(es.length:Int)) | .ky _ _ es=>some (bW es.length,(es.length:Int)) | _=>none) else none)
  | _=>.none
 | _=>.none
def Br(t:aa):aO->aM (Option aO)
 | .eI dL x=>.ret (if dL=t/\(t.fE||t.isAgg)=true then some (.val dL x) else none)
 | .aK b g off=>.fj b λx=>.ret (if x.gen=g then (match x.body with
   | .cells t0 f=>if t.fE then (if off<t0.size then some (f off) else none) else if t.isAgg then (if off+t.size<=t0.size then some (.agg t.size λi=>f (off+i)) else none) else none
   | .hR t0 y=>if t.fE||t.isAgg then (tW t0 y off t).map (.val t) else none
   | _=>none) else none)
 | .pV b g i off=>.fj b λx=>.ret (if x.gen=g then (match x.body with
   | .bu e xs=>if t.fE||t.isAgg then (tW e (xs.getD i e.dK) off t).map (.val t) else none
   | .iL e xs=>if t.fE||t.isAgg then (tW e (xs.getD i e.dK) off t).map (.val t) else none
   | _=>none) else none)
 | _=>.none
def putCells(f:Nat->aO)(off:Nat)(l:List aO):Nat->aO:=λi=>if off<=i/\i<off+l.length then l.getD (i - off) .undef else f i
def Vy(t:aa)(p v:aO):aM (Option (List (Nat×b'))):=
 match p with
 | .aK b g off=>.fj b λx=>.ret (if x.gen=g then (match x.body with
   | .cells t0 f=>(cellsOf t v).bind λl=>if off+l.length<=t0.size/\l.length=t.size then some [(b,⟨x.gen,.cells t0 (putCells f off l)⟩)] else none
   | _=>none) else none)
 | .pV b g i off=>(eg t v).ev λ(y,l)=>(kT l).bind λwl=>.fj b λx=>.ret (if x.gen=g/\!l.contains b then (match x.body with
   | .bu e xs=>(yT e (xs.getD i e.dK) off t y).map λz=>wl++[(b,⟨x.gen,.bu e (xs.set i z)⟩)]
   | _=>none) else none)
 | _=>.none
def Vz(bO:aa)(x:aO)(i:Int):aM (Option (Prop×aO)):=
 match x with
 | .val (.slice e) xs=>.ret (if e=bO then some (0<=i/\i<(xs.length:Int),.eI e (mc e xs i)) else none)
 | .own b g=>.fj b λz=>.ret (if z.gen=g then (match z.body with
   | .bu e xs=>if e=bO then some (0<=i/\i<(xs.length:Int),.pV b g i.toNat 0) else none
   | .iL e xs=>if e=bO then some (0<=i/\i<(xs.length:Int),.eI e (mc e xs i)) else none
   | _=>none) else none)
 | .sub b g bn D=>.fj b λz=>.ret (if z.gen=g then (match z.body with
   | .bu e _=>if e=bO then some (0<=i/\i<((D - bn:Nat):Int),.pV b g (bn+i.toNat) 0) else none
   | .iL e xs=>if e=bO then some (0<=i/\i<((D - bn:Nat):Int),.eI e (mc e xs ((bn:Int)+i))) else none
   | _=>none) else none)
 | .bZ=>.ret (some (False,.eI bO bO.dK))
 | _=>.none
def en:Option Int->Int | some l=>l | none=>0
def ht(n:Nat):Option Int->Int | some h=>h | none=>n
def D'(bn D:Option Int)(n m:Nat):Nat:=match bn,D with | some _,some _=>m | _,_=>n
def VA(bO:aa)(x:aO)(bn D:Option Int):aM (Option (Prop×aO)):=
 match x with
 | .val (.slice e) xs=>.ret (if e=bO then some (0<=en bn/\en bn<=ht xs.length D/\ht xs.length D<=(xs.length:Int),.val (.slice e) ((xs.take (ht xs.length D).toNat).drop (en bn).toNat)) else none)
 | .bZ=>.ret (some (0<=en bn/\en bn<=ht 0 D/\ht 0 D<=0,.bZ))
 | .own b g=>.fj b λz=>.ret (if z.gen=g&&z.body.gU&&z.body.ga == bO.size then some (0<=en bn/\en bn<=ht z.body.len D/\ht z.body.len D<=(z.body.len:Int),.sub b g (en bn).toNat (ht z.body.len D).toNat) else none)
 | .sub b g fS aZ=>.fj b λz=>.ret (if z.gen=g&&z.body.gU&&z.body.ga == bO.size then some (0<=en bn/\en bn<=ht (aZ - fS) D/\ht (aZ - fS) D<=((D' bn D (aZ - fS) (z.body.len - fS):Nat):Int),.sub b g (fS+(en bn).toNat) (fS+(ht (aZ - fS) D).toNat)) else none)
 | _=>.none
def VB(x:aO)(bn D:Option Int):Option (Prop×aO):=
 match x with
 | .val .str xs=>some (0<=en bn/\en bn<=ht xs.length D/\ht xs.length D<=(xs.length:Int),.val .str ((xs.take (ht xs.length D).toNat).drop (en bn).toNat))
 | _=>none
def nq(d:Option Nat)(k:Nat->Nat->Option fb):aM (Option fb):=
 match d with
 | none=>.none
 | some d=>.fj d λx=>.ret (k d (x.gen+1))
def Na(d:Option Nat)(e:aa)(x y:aO)(cG:Prop):aM (Option fb):=
 match x with
 | .own b g=>.fj b λz=>match (if z.gen=g then z.body else .gp) with
  | .bu bt xs=>if h:bt=e then (eg (.slice e) y).ev λ(bA,_)=>.ret (some ⟨cG,bW (xs.length+bA.length),.own b (g+1),[(b,⟨g+1,.bu e ((h ▸ xs)++bA)⟩)]⟩) else .none
  | _=>.none
 | .sub b g bn D=>.fj b λz=>match (if z.gen=g then z.body else .gp) with
  | .bu bt xs=>if h:bt=e then (eg (.slice e) y).ev λ(bA,_)=>.ret (some ⟨cG,bW (((xs.take D).drop bn).length+bA.length),.own b (g+2),[(b,⟨g+2,.bu e ((h ▸ (xs.take D).drop bn)++bA)⟩)]⟩) else .none
  | _=>.none
 | .bZ=>(eg (.slice e) y).ev λ(bA,_)=>nq d λb g=>some ⟨cG,bW bA.length,.own b g,[(b,⟨g,.bu e bA⟩)]⟩
 | .yP bt xs=>if h:bt=e then (eg (.slice e) y).ev λ(bA,_)=>nq d λb g=>some ⟨cG,0<bA.length/\bW (xs.length+bA.length),.own b g,[(b,⟨g,.bu e ((h ▸ xs)++bA)⟩)]⟩ else .none
 | _=>.none
def H2(t:aa):List aO->List (Nat×aO)->Option (List aO)
 | cs,[]=>some cs
 | cs,(i,av)::r=>
  match o9 t i with
  | none=>none
  | some (s,off)=>match cellsOf s av with
   | none=>none
   | some l=>if l.length=s.size/\off+s.size<=cs.length then H2 t (cs.take off++(l++cs.drop (off+s.size))) r else none
def vt(e:aa)(bw:List (Nat×aO)):Nat->Nat->aM (Option (List e.ak×List Nat))
 | _,0=>.ret (some ([],[]))
 | i,n+1=>(match bw.find? (λp=>p.1 == i) with
   | some p=>eg e p.2
   | none=>.ret (some (e.dK,[])):aM (Option (e.ak×List Nat))).ev λ(x,l)=>(vt e bw (i+1) n).ev λ(xs,m)=>.ret (some (x::xs,l++m))
def w5(bw:List (Nat×aO)):Prop:=bw.foldr (λp q=>match p.2 with | .jU b _=>b=true/\q | _=>q) True
def kU(bw:List (Nat×aO)):List (Nat×aO):=bw.map λp=>(p.1,(use p.2).2)
def ld(bw:List aO):Prop:=bw.foldr (λp q=>match p with | .jU b _=>b=true/\q | _=>q) True
def nr(rho:Operand->aO):Option Operand->Option (Prop×Option Int)
 | none=>some (True,none)
 | some x=>match use (rho x) with
  | (o,.val (.int _) n)=>some (o,some n)
  | _=>none
def H3(T:Nat->aa)(rho:Operand->aO)(ty:TypeId)(x:Operand)(bn D:Option Operand):aM (Option fb):=
 let (c1,e6):=use (rho x)
 match nr rho bn,nr rho D with
 | some (ol,l),some (vu,h)=>match T ty with
  | .slice e=>(VA e e6 l h).ev λ(c,v)=>cQ (c1/\(ol/\vu)) c v
  | .str=>match VB e6 l h with
   | some (c,v)=>cQ (c1/\(ol/\vu)) c v
   | none=>.none
  | _=>.none
 | _,_=>.none
def VC(bO:aa)(x:aO)(bn D:Option Int)(m:Int):aM (Option (Prop×aO)):=
 match x with
 | .val (.slice e) xs=>.ret (if e=bO then some (0<=en bn/\en bn<=ht xs.length D/\ht xs.length D=m/\m<=(xs.length:Int),.yP e ((xs.take m.toNat).drop (en bn).toNat)) else none)
 | .bZ=>.ret (some (en bn=0/\ht 0 D=0/\m=0,.yP bO []))
 | .own b g=>.fj b λz=>.ret (if z.gen=g&&z.body.gU then some (0<=en bn/\en bn<=ht z.body.len D/\ht z.body.len D<=m/\m<=(z.body.len:Int),.undef) else none)
 | _=>.none
def H4(T:Nat->aa)(rho:Operand->aO)(ty:TypeId)(x:Operand)(bn D pY:Option Operand):aM (Option fb):=
 let (c1,e6):=use (rho x)
 match nr rho bn,nr rho D,nr rho pY with
 | some (ol,l),some (vu,some h),some (yV,some m)=>match T ty with
  | .slice e=>(VC e e6 l (some h) m).ev λ(c,v)=>cQ (c1/\(ol/\(vu/\yV))) c v
  | _=>.none
 | _,_,_=>.none
def Ea(T:Nat->aa)(rho:Operand->aO)(args:List Operand)(dS:List TypeId):aM (Option fb):=
 match args,dS with
 | [x],[t]=>let (c1,e6):=use (rho x);(H0 (T t) e6).ev λ(c,n)=>cQ c1 c (.val (.int .i64) n)
 | _,_=>.none
def Eb(T:Nat->aa)(rho:Operand->aO)(d:Option Nat)(args:List Operand)(dS:List TypeId):aM (Option fb):=
 match args,dS with
 | [x,y],[t,u]=>match T t,T u with
  | .slice e,.slice _=>let (c1,e6):=use (rho x);let (o_,lI):=use (rho y);Na d e e6 lI (c1/\o_)
  | _,_=>.none
 | _,_=>.none
def o'(rho:Operand->aO)(k:IntKind):List Operand->Option (Prop×z1')
 | []=>none
 | [x]=>match (use (rho x)).2.nR with
  | some (k',n)=>if k'=k then some ((use (rho x)).1,[n]) else none
  | none=>none
 | x::l=>match (use (rho x)).2.nR,o' rho k l with
  | some (k',n),some (cG,iO)=>if k'=k then some ((use (rho x)).1/\cG,n::iO) else none
  | _,_=>none
def yW(rho:Operand->aO)(f:Int->Int->Int)(args:List Operand):aM (Option fb):=
 match args with
 | x::y::l=>match (use (rho x)).2.nR with
  | some (k,a)=>match o' rho k (y::l) with
   | some (cG,iO)=>cQ ((use (rho x)).1/\cG) True (.val (.int k) (iO.foldl f a))
   | none=>.none
  | none=>.none
 | _=>.none
def Ec(T:Nat->aa)(rho:Operand->aO)(args:List Operand)(dS:List TypeId):aM (Option fb):=
 match args,dS with
 | [x],[t]=>match T t,use (rho x) with
  | .slice _,(c1,.bZ)=>cQ c1 True (.val (.int .i64) 0)
  | _,_=>.none
 | _,_=>.none
def pa(t:aa):Bool:=match t with | .ar (.slice _) .dp=>true | _=>false
def Ed(t:aa)(y:t.ak):Option ((e:aa)×List e.ak):=match t,y with | .ar (.slice e) .dp,y=>some ⟨e,y.1⟩ | _,_=>none
def H5(bK:Nat->Option aF)(rho:Operand->aO)(d:Option Nat)(k:Nat)(args:List Operand):aM (Option fb):=
 let l:=args.map rho
 match bK k with
 | some c=>(km c.ts (l.map λv=>(use v).2)).ev λ(x,ck)=>match Ed c.tr (c.g x) with
  | some y=>(kT ck).bind λwl=>nq d λb g=>if ck.contains b then none else some ⟨ld l,c.pre x,.own b g,wl++[(b,⟨g,.bu y.1 y.2⟩)]⟩
  | none=>(if c.tr.pure then .ret [] else kT ck:aM (List (Nat×b'))).bind λwl=>.ret (some ⟨ld l,c.pre x,sP c.tr (c.g x),wl⟩)
 | none=>.none
def Bs{k v:aa}(es:List (k.ak×v.ak))(x:k.ak):Option v.ak:=(es.find? λp=>h3 k x p.1).map (·.2)
def nS{k v:aa}:List (k.ak×v.ak)->k.ak->v.ak->List (k.ak×v.ak)
 | [],x,y=>[(x,y)]
 | p::es,x,y=>if h3 k x p.1=true then (p.1,y)::es else p::nS es x y
def w6(k:aa):Bool:=k.nP&&decide (k.mH<=100)
def H6(k v:aa)(m:aO):aM (Option (List (k.ak×v.ak))):=
 match m with
 | .val t es=>.ret (fz t (.map k v) es)
 | .kP (.map none)=>.ret (some [])
 | .gE b g=>.fj b λx=>.ret (if x.gen=g then (match x.body with
   | .mp k' kk es=>fz (.map k' kk) (.map k v) es
   | .ky k' kk es=>fz (.map k' kk) (.map k v) es
   | _=>none) else none)
 | _=>.none
def VD(v:aa)(r:Option v.ak)(ok:Bool):aO:=
 match ok with
 | true=>.rF 2 (ig [.val v (r.getD v.dK),.val .bool r.isSome])
 | false=>.val v (r.getD v.dK)
def Bt(T:Nat->aa)(rho:Operand->aO)(ty:TypeId)(m x:Operand)(ok:Bool):aM (Option fb):=
 match T ty with
 | .map k v=>let (yV,Nb):=use (rho m);let (c1,e6):=use (rho x);if w6 k&&(v.fE||v.isAgg) then
   (H6 k v Nb).ev λes=>(eg k e6).ev λ(y,_)=>
    cQ (yV/\c1) True (VD v (Bs es y) ok)
  else .none
 | _=>.none
def tY(T:Nat->aa)(rho:Operand->aO)(ty:TypeId)(m x y:Operand):aM (Option fb):=
 match T ty with
 | .map k v=>let (yV,Nb):=use (rho m);let (c1,e6):=use (rho x);let (o_,lI):=use (rho y);if w6 k then
   match Nb with
   | .gE b g=>(eg k e6).ev λ(x,rI)=>(eg v lI).ev λ(y,rJ)=>(kT (rI++rJ)).bind λwl=>.fj b λz=>.ret (if z.gen=g/\!(rI++rJ).contains b then (match z.body with
     | .mp k' kk es=>(fz (.map k' kk) (.map k v) es).map λes=>⟨yV/\c1/\o_,True,.undef,wl++[(b,⟨z.gen,.mp k v (nS es x y)⟩)]⟩
     | _=>none) else none)
   | _=>.none
  else .none
 | _=>.none
def H7(T:Nat->aa)(rho:Operand->aO)(d:Option Nat)(ty:TypeId)(l c:Operand):aM (Option fb):=
 match T ty with
 | .slice e=>let (ol,ajQ):=use (rho l);let (sQ,ajR):=use (rho c);match ajQ.nR,ajR.nR with
  | some (.i64,n),some (.i64,m)=>nq d λb g=>some ⟨ol/\sQ,0<=n/\n=m/\bW n.toNat,.own b g,[(b,⟨g,.bu e (List.replicate n.toNat e.dK)⟩)]⟩
  | _,_=>.none
 | _=>.none
def ho{ag:Type}(xs:List ag)(bn:Nat)(bA:List ag):List ag:=xs.take bn++bA++xs.drop (bn+bA.length)
def H8(T:Nat->aa)(rho:Operand->aO)(args:List Operand)(dS:List TypeId):aM (Option fb):=
 match args,dS with
 | [x,y],[t,u]=>match T t,T u with
  | .slice e,.slice _=>let (c1,e6):=use (rho x);let (o_,lI):=use (rho y);match (match e6 with | .own b g=>some (b,g,0,none) | .sub b g bn D=>some (b,g,bn,some D) | _=>none:Option (Nat×Nat×Nat×Option Nat)) with
   | some (b,g,bn,D)=>(eg (.slice e) lI).ev λ(bA,_)=>.fj b λz=>.ret (if z.gen=g then (match z.body with
     | .bu bt xs=>if h:bt=e then some ⟨c1/\o_,True,.val (.int .i64) ((min (D.getD xs.length - bn) bA.length:Nat):Int),[(b,⟨z.gen,.bu e (ho (h ▸ xs) bn (bA.take (D.getD xs.length - bn)))⟩)]⟩ else none
     | _=>none) else none)
   | none=>.none
  | _,_=>.none
 | _,_=>.none
def yX(rho:Operand->aO)(args:List Operand):Option (Nat×Nat×Nat×Nat):=
 match args with
 | [x,y]=>match (use (rho x)).2,(use (rho y)).2 with
  | .sub b g bn D,.sub bl g' _ _=>if bl=b/\g'=g then some (b,g,bn,D) else none
  | _,_=>none
 | _=>none
def Ee(T:Nat->aa)(rho:Operand->aO)(args:List Operand)(dS:List TypeId)(b g bn D:Nat):aM (Option fb):=
 match args,dS with
 | [x,y],[t,u]=>match T t,T u with
  | .slice e,.slice _=>let (c1,_):=use (rho x);let (o_,lI):=use (rho y);(eg (.slice e) lI).ev λ(bA,_)=>.fj b λz=>.ret (if z.gen=g then (match z.body with
    | .bu bt xs=>if h:bt=e then some ⟨c1/\o_,D+bA.length<=xs.length,.sub b g bn (D+bA.length),[(b,⟨z.gen,.bu e (ho (h ▸ xs) D bA)⟩)]⟩ else none
    | _=>none) else none)
  | _,_=>.none
 | _,_=>.none
def Ef(T:Nat->aa)(rho:Operand->aO)(args:List Operand)(dS:List TypeId):aM (Option fb):=
 match args,dS with
 | [x],[t]=>match T t with
  | .slice e=>let (c1,e6):=use (rho x);match e6 with
   | .sub b g bn D=>.fj b λz=>.ret (if z.gen=g then (match z.body with
     | .bu bt xs=>if h:bt=e then some ⟨c1,True,.undef,[(b,⟨z.gen,.bu e (ho (h ▸ xs) bn (List.replicate (D - bn) e.dK))⟩)]⟩ else none
     | _=>none) else none)
   | _=>.none
  | _=>.none
 | _,_=>.none
def oe(T:Nat->aa)(bK:Nat->Option aF)(rho:Operand->aO)(d:Option Nat)(c:Call):aM (Option fb):=
 match c.callee with
 | .builtin b=>match b with
  | .len=>Ea T rho c.args.toList c.argTypes.toList
  | .append=>match yX rho c.args.toList with
   | some (b,g,bn,D)=>Ee T rho c.args.toList c.argTypes.toList b g bn D
   | none=>Eb T rho d c.args.toList c.argTypes.toList
  | .clear=>Ef T rho c.args.toList c.argTypes.toList
  | .copy=>H8 T rho c.args.toList c.argTypes.toList
  | .min=>yW rho (λa b=>if b<a then b else a) c.args.toList
  | .max=>yW rho (λa b=>if b > a then b else a) c.args.toList
  | .cap=>Ec T rho c.args.toList c.argTypes.toList
  | _=>.none
 | .value f=>match f with
  | .func k=>H5 bK rho d k c.args.toList
  | _=>.none
 | _=>.none
def yY(bA:z1'):List UInt8:=bA.map λn=>UInt8.ofNat n.toNat
def VE(t:aa)(cG:Prop)(b g i:Nat):aM (Option fb):=
 .fj b λz=>.ret (match z.body with
  | .hJ _ _ ns v=>if z.gen=g/\t.fE=true then some ⟨cG,i=ns,v,[]⟩ else none
  | _=>none)
def Nc(t:aa)(cG:Prop)(b g i:Nat)(v:aO):aM (Option fb):=
 match v with
 | .own bl g'=>.fj b λz=>.ret (match z.body with
  | .hJ e xs ns _=>if z.gen=g/\t.fE=true then some ⟨cG,i=ns,.undef,[(b,⟨z.gen,.hJ e xs ns (.own bl g')⟩)]⟩ else none
  | _=>none)
 | _=>.none
def cn(ba:ew)(T:Nat->aa)(bK:Nat->Option aF)(rho:Operand->aO)(o:Oper):aM (Option fb):=
 match o.op with
 | .move x=>cQ True True (rho x)
 | .assign x=>match rho x,T o.type with
  | .bZ,.slice e=>nq o.dst λb g=>some ⟨True,True,.own b g,[(b,⟨g,.bu e []⟩)]⟩
  | v,_=>cQ True True v
 | .pick c a b=>match use (rho c) with
  | (sQ,.val .bool kB)=>match a,b with
   | _,.const (.bool false)=>match use (rho a) with
    | (VF,.val .bool av)=>cQ (sQ/\(kB=true->VF)) True (.val .bool (kB&&av))
    | _=>.none
   | .const (.bool true),_=>match use (rho b) with
    | (cG,.val .bool bv)=>cQ (sQ/\(kB=false->cG)) True (.val .bool (kB||bv))
    | _=>.none
   | _,_=>.none
  | _=>.none
 | .binOp op ty x y _=>
  let (c1,e6):=use (rho x)
  let (o_,lI):=use (rho y)
  match e6.nR,lI.nR with
  | some (k,a),some (k',b)=>(match op with
   | .shl | .shr=>match M' op k a b with
    | some (c,v)=>cQ (c1/\o_) c v
    | none=>.none
   | _=>if k=k' then (match Bq op k a b with
    | some (c,v)=>cQ (c1/\o_) c v
    | none=>.none) else .none)
  | _,_=>match e6.vs,lI.vs with
   | some a,some b=>match D9 op a b with
    | some (c,v)=>cQ (c1/\o_) c v
    | none=>.none
   | _,_=>(D_ op (T ty) e6 lI).ev λ(c,v)=>cQ (c1/\o_) c v
 | .unOp op _ x=>match op,use (rho x) with
  | .not,(c1,.val .bool b)=>cQ c1 True (.val .bool (!b))
  | .neg,(c1,.val (.int k) n)=>cQ c1 True (.val (.int k) (k.wrap (0 - n)))
  | _,_=>.none
 | .extract x i=>match use (rho x) with
  | (c1,.rF n f)=>if i<n then cQ c1 True (f i) else .none
  | _=>.none
 | .nilCheck x=>match use (rho x) with
  | (c1,.kj b g i)=>.fj b λz=>.ret (if z.gen=g&&z.body.gU then some ⟨c1,True,.kj b g i,[]⟩ else none)
  | (c1,.eI t d)=>cQ c1 True (.eI t d)
  | (c1,.val (.bV e) p)=>cQ c1 (p.isSome=true) (.eI e (p.getD e.dK))
  | (c1,.aK b g off)=>.fj b λz=>.ret (if z.gen=g&&z.body.gT then some ⟨c1,True,.aK b g off,[]⟩ else none)
  | _=>.none
 | .fieldAddr ty x f=>match T ty with
  | .ae t=>match o9 t f with
   | some (_,pZ)=>match use (rho x) with
    | (c1,.aK b g off)=>.fj b λz=>.ret (if z.gen=g&&z.body.gT then some ⟨c1,True,.aK b g (off+pZ),[]⟩ else none)
    | (c1,.pV b g i off)=>.fj b λz=>.ret (if z.gen=g&&z.body.gU then some ⟨c1,True,.pV b g i (off+pZ),[]⟩ else none)
    | (c1,.kj b g i)=>.fj b λz=>.ret (if z.gen=g&&z.body.gU&&pZ == 0 then some ⟨c1,True,.kj b g i,[]⟩ else none)
    | (c1,.eI (.ae dL) d)=>if dL=t then (match w3 dL d f with
     | some ⟨s',y⟩=>cQ c1 True (.eI s' y)
     | none=>.none) else .none
    | _=>.none
   | none=>.none
  | _=>.none
 | .field ty x f=>match T ty with
  | .ae t=>match use (rho x) with
   | (c1,.val (.ae dL) d)=>if dL=t then (match w3 dL d f with
     | some ⟨s',y⟩=>cQ c1 True (.val s' y)
     | none=>.none) else .none
   | _=>.none
  | _=>.none
 | .load ty x=>match use (rho x) with
  | (c1,.kj b g i)=>VE (T ty) c1 b g i
  | (c1,e6)=>(Br (T ty) e6).ev λv=>cQ c1 True v
 | .store ty x y=>let (o_,lI):=use (rho y);match use (rho x) with
  | (c1,.kj b g i)=>Nc (T ty) (c1/\o_) b g i lI
  | (c1,e6)=>(Vy (T ty) e6 lI).ev λwl=>.ret (some ⟨c1/\o_,True,.undef,wl⟩)
 | .alloc ty=>nq o.dst λb g=>if T ty=.dp then none else some ⟨True,True,.aK b g 0,[(b,⟨g,.cells (T ty) (ig (tV (T ty)))⟩)]⟩
 | .box ty x=>let (c1,e6):=use (rho x);match cellsOf (T ty) e6 with
  | some l=>nq o.dst λb g=>if l.length=(T ty).size then some ⟨c1,True,.aK b g 0,[(b,⟨g,.cells (T ty) (ig l)⟩)]⟩ else none
  | none=>.none
 | .build ty bw=>let l:=bw.toList.map λp=>(p.1,rho p.2);match T ty with
  | .ae t=>match H2 t (tV t) (kU l) with
   | some cs=>cQ (w5 l) True (.agg cs.length (ig cs))
   | none=>.none
  | .array m e=>(vt e (kU l) 0 m).ev λ(xs,ck)=>if (ck.isEmpty&&decide ((kU l).map (·.1)).Nodup&&(kU l).all (λp=>decide (p.1<m)))=true then cQ (w5 l) True (.val (.array m e) xs) else .none
  | _=>.none
 | .buildSlice ty n bw=>let l:=bw.toList.map λp=>(p.1,rho p.2);match T ty with
  | .slice e=>(vt e (kU l) 0 n).ev λ(xs,ck)=>(kT ck).bind λwl=>nq o.dst λb g=>if n*e.size<=65536/\(!ck.contains b&&decide ((kU l).map (·.1)).Nodup&&(kU l).all (λp=>decide (p.1<n)))=true then some ⟨w5 l,True,.own b g,wl++[(b,⟨g,.bu e xs⟩)]⟩ else none
  | _=>.none
 | .indexAddr ty x i=>let (c1,e6):=use (rho x);let (yZ,Nd):=use (rho i);match T ty,Nd.nR with
  | .slice e,some (_,n)=>(Vz e e6 n).ev λ(c,v)=>cQ (c1/\yZ) c v
  | .array m e,some (_,n)=>match e6 with
   | .eI (.array eh bt) xs=>if eh=m/\bt=e then cQ (c1/\yZ) (0<=n/\n<(m:Int)) (.eI bt (mc bt xs n)) else .none
   | .aK b g off=>.fj b λz=>.ret (if z.gen=g&&z.body.gT then some ⟨c1/\yZ,0<=n/\n<(m:Int),.aK b g (off+n.toNat*e.size),[]⟩ else none)
   | _=>.none
  | _,_=>.none
 | .index ty x i=>let (c1,e6):=use (rho x);let (yZ,Nd):=use (rho i);match T ty,e6.vs,Nd.nR with
  | .str,some s,some (_,n)=>cQ (c1/\yZ) (0<=n/\n<(s.length:Int)) (.val (.int .u8) ((s.getD n.toNat 0).toNat:Int))
  | .array m e,_,some (_,n)=>match e6 with
   | .val (.array eh bt) xs=>if eh=m/\bt=e then cQ (c1/\yZ) (0<=n/\n<(m:Int)) (.val bt (mc bt xs n)) else .none
   | .agg k f=>if k=m*e.size then cQ (c1/\yZ) (0<=n/\n<(m:Int)) (if e.isAgg=true then .agg e.size (λq=>f (n.toNat*e.size+q)) else f (n.toNat*e.size)) else .none
   | _=>.none
  | _,_,_=>.none
 | .convert a b x=>let (c1,e6):=use (rho x);match T a,T b,e6.nR with
  | .int _,.int k,some (_,n)=>cQ c1 True (.val (.int k) (k.wrap n))
  | .slice (.int .u8),.str,_=>(eg (.slice (.int .u8)) e6).ev λ(bA,_)=>cQ c1 True (.val .str (yY bA))
  | _,_,_=>.none
 | .makeFunc fn first du=>match fn with
  | .func k=>let l:=du.toList.map rho;if first.isEmpty then (match ba.vo k with
   | some v=>(km (hI (v.cs.map .bV)) (l.map λv=>(use v).2)).ev λ(y,ck)=>(kT ck).bind λwl=>.ret (some ⟨ld l,True,.val (.fn (hI v.as) v.tr) (λx=>v.sh (HV v.as (v.cs.map .bV) x y)),wl⟩)
   | none=>match ba.yO k with
    | some v=>(km (hI (v.cs.map .bV)) (l.map λv=>(use v).2)).ev λ(y,ck)=>(kT ck).bind λwl=>.ret (some ⟨ld l,True,.val (.cO v.aN) (v.S y),wl⟩)
    | none=>cQ (ld l) True (.jV k l.length (ig (l.map λv=>(use v).2)))) else (if du.isEmpty then cQ (ld (first.toList.map rho)) True (.tU k first.size (ig ((first.toList.map rho).map λv=>(use v).2))) else .none)
  | _=>.none
 | .makeMap ty r=>if r.isSome then .none else match T ty with
  | .map k v=>nq o.dst λb g=>some ⟨True,True,.gE b g,[(b,⟨g,.mp k v []⟩)]⟩
  | _=>.none
 | .lookup ty m x ok=>Bt T rho ty m x ok
 | .mapUpdate ty m x y=>tY T rho ty m x y
 | .insert ty m x y=>tY T rho ty m x y
 | .makeSlice ty l c=>H7 T rho o.dst ty l c
 | .makeInterface _ _=>cQ True False .undef
 | .panic _=>cQ True False .undef
 | .slice ty x bn D pY=>if pY.isSome then H4 T rho ty x bn D pY else H3 T rho ty x bn D
 | .call c=>oe T bK rho o.dst c
 | _=>.none
def e0(r:Option Nat):Fence:={ Fence.wide with round:=r }
section
variable {P:Program} {w:World}
theorem ej{t:TypeId}{d:TypeDesc}(h:P.underlying t=some d):(underlying t).run P w=.ok d w:=by simp[underlying,h]
theorem H9{t:TypeId}{i:TypeInfo}(h:P.info? t=some i):(typeInfo t).run P w=.ok i w:=by simp[typeInfo,h]
theorem tZ{t:TypeId}{i:TypeInfo}(h:P.info? t=some i):(sizeOf t).run P w=.ok i.size w:=by simp[sizeOf,H9 h]
theorem sR{t:TypeId}{i:TypeInfo}{z:Value}(h:P.info? t=some i)(bD:i.zero=some z):(zeroValue t).run P w=.ok z w:=by simp[zeroValue,H9 h,bD]
theorem cx.size{t:aa}{id:TypeId}(h:cx P t id):(sizeOf id).run P w=.ok t.size w:=by
 obtain⟨i,z,E,M,_⟩:=np h.nn;rw[tZ E,M]
theorem cx.ae{t:aa}{id:TypeId}(h:cx P (.ae t) id):∃ fA,P.underlying id=some (.struct fA):=by
 unfold cx at h;simp  [cZ]at h;grind
theorem cx.sl{e:aa}{id:TypeId}(h:cx P (.slice e) id):∃ i,P.underlying id=some (.slice i)/\cx P e i/\e.size≠0:=by
 unfold cx at h;simp  [cZ]at h;obtain⟨_,h⟩:=h;split at h
 ·rename_i i D;simp  at h;exact⟨i,D,h.1,h.2⟩
 grind
theorem ajS:∀ (t:aa) {l:List Field} {H_ f off:Nat} {s:aa},cZ P t (.inr (l,H_))=true->o9 t f=some (s,off)->
  ∃ pb,l[f]?=some pb/\pb.offset=H_+off/\cx P s pb.type/\s.size≠0:=by
 intro t;induction t with
 | ar a b gD fy=>
  intro l H_ f off s h aw;match l,h with
  | [],h=>simp  [cZ]at h
  | [x],h=>simp  [cZ]at h
  | [x,y],h=>
   simp  [cZ,ne_eq]at h;obtain⟨⟨⟨⟨E,M⟩,ai⟩,_⟩,⟨⟨bf,b2⟩,d_⟩,_⟩:=h;cases f with
   | zero=>obtain⟨rfl,rfl⟩:=aw;exact⟨x,rfl,E,M,ai⟩
   | succ f=>
    simp only[o9,aKt]at aw;obtain⟨⟨s',mf⟩,aw,rfl,rfl⟩:=aw;have V:∃ u,o9 b f=some u/\f=0/\u=(b,0):=by
     cases b<;>cases f<;>simp only[o9,reduceCtorEq]at aw<;>first
      | exact⟨_,aw,rfl,by cases aw;rfl⟩
      | (simp  [cZ]at b2)
    obtain⟨u,hu,rfl,rfl⟩:=V;rw[hu]at aw;cases aw;exact⟨y,rfl,by omega,b2,d_⟩
  | x::y::z::l,h=>
   simp  [cZ,ne_eq]at h;obtain⟨⟨⟨⟨E,M⟩,ai⟩,_⟩,bf⟩:=h;cases f with
   | zero=>obtain⟨rfl,rfl⟩:=aw;exact⟨x,rfl,E,M,ai⟩
   | succ f=>
    simp  [o9,aJ8]at aw;grind
 | _=>intro l H_ f off s h _;simp only[cZ,ajh]at h
theorem cx.field{t s:aa}{id f off:Nat}(h:cx P (.ae t) id)(aw:o9 t f=some (s,off)) :
  ∃ fA pb,P.underlying id=some (.struct fA)/\fA[f]?=some pb/\pb.offset=off/\cx P s pb.type/\s.size≠0:=by
 unfold cx at h;simp  [cZ]at h;obtain⟨_,h⟩:=h;split at h
 ·rename_i fA kC;refine⟨fA,?_⟩;have fT:∀ {pb},fA.toList[f]?=some pb->fA[f]?=some pb:=λh=>by grind
  split at h
  ·rw[aKv h]at aw;cases f<;>cases aw
  ·rename_i x af;simp  at h;have V:f=0/\(s,off)=(t,0):=by
    cases t<;>cases f<;>simp only[o9,reduceCtorEq]at aw<;>first
     | exact⟨rfl,by cases aw;rfl⟩
     | (have:=h.1.1.2;simp  [cZ]at this)
   obtain⟨rfl,V⟩:=V;cases V;exact⟨x,kC,fT (by grind),h.1.1.1,h.1.1.2,h.1.2⟩
  ·obtain⟨pb,aY,a_,b7⟩:=ajS t h aw;grind
 grind
def lJ(w:World)(p:Addr)(cs:List Value):Prop:=(0<cs.length->p.spot=none)/\∀ j (h:j<cs.length),w.cell? ⟨p.block,p.off+j,none⟩=some cs[j]
theorem Holds.Nf{F:Nat->Prop}{p:Addr}{cs:List Value}(h:Holds F w p cs):lJ w p cs:=⟨λ_=>h.2.1,h.2.2⟩
theorem Ia{p:Addr}{cs:List Value}(h:lJ w p cs):(loadCells p cs.length).run P w=.ok cs.toArray w:=by
 obtain⟨az,hc⟩:=h;refine run_loadCells_list w p cs λj v aI=>?_;have aq:p=⟨p.block,p.off,none⟩:=by cases p;grind
 have Eg:p.add j=⟨p.block,p.off+j,none⟩:=by
  unfold Addr.add;grind
 grind
theorem Bu{t:aa}{id:TypeId}(h:cx P t id):(isAgg id).run P w=.ok t.isAgg w:=by
 unfold cx at h;unfold isAgg;cases t<;>simp  [cZ,ajh]at h<;>(obtain⟨_,h⟩:=h;split at h)<;>
  first
   | (rename_i hu;simp[ej hu,aa.isAgg];done)
   | (cases h;done)
   | (rename_i hu;simp[ej hu,aa.isAgg])
theorem Ng{F:Nat->Prop}{p:Addr}{cs:List Value}{t:aa}{id:TypeId}{x:t.ak}(h:cx P t id)(dt:lJ w p cs)(al:cr P t F w cs x) :
  ∃ v,(loadVar id p).run P w=.ok v w/\e4 P t F w v x:=by
 have hlen:=jx t al;by_cases br:t.isAgg=true
 ·refine⟨.agg cs.toArray,?_,?_,by simpa [Value.cells]using al⟩
  ·have:=Ia (P:=P) dt;rw[hlen]at this;simp[loadVar,Bu h,br,h.size,this]
  ·cases t<;>simp  [aa.isAgg]at br
   ·exact⟨cs.toArray,rfl,by simpa [aa.size]using hlen⟩
   ·exact⟨cs.toArray,rfl,by simpa [aa.size]using hlen⟩
 ·have af:t.fE=true:=by
   cases t<;>simp  [aa.isAgg]at br<;>first | rfl | (unfold cx at h;simp  [cZ]at h)
  obtain⟨u,rfl,hu⟩:=HU af al;refine⟨u,?_,(eH af).2 ⟨hu,al⟩⟩;have hc:=dt.2 0 (by simp);have aq:p=⟨p.block,p.off+0,none⟩:=by have:=dt.1 (by simp);cases p;grind
  rw[<-aq]at hc;simp[loadVar,Bu h,br,hc]
end
section
variable {r:Option Nat} {P:Program} {o:Oper} {a:Act} {w w':World} {K:Act->World->Prop} {Q:Exit->Act->World->Prop}
theorem Bv(an:∀ c,o.op≠.defer c):o.semAt (e0 r).round a.eval=execOp a.eval o:=Oper.semAt_eq _ _ _ an
theorem iw{v:Value}(an:∀ c,o.op≠.defer c)(h:(execOp a.eval o).run P w=.ok (.value v) w')(ah:K (a.put o.dst v) w'):o.wpIn (e0 r) 0 P a w K Q:=by
 refine⟨λ_ _=>trivial,?_⟩;rw[Bv an,h];exact ah
theorem Ib(an:∀ c,o.op≠.defer c)(h:(execOp a.eval o).run P w=.ok .skip w')(ah:K (a.put o.dst Go.undef) w'):o.wpIn (e0 r) 0 P a w K Q:=by
 refine⟨λ_ _=>trivial,?_⟩;rw[Bv an,h];exact ah
end
def aE.hS(s:aE):List (Nat×b')->aE
 | []=>s
 | p::l=>(s.c' p.1 p.2).hS l
def aE.jZ(s:aE)(d:Option Nat)(res:fb):aE:=(s.hS res.iN).set d res.gG
def c8(C:cB)(o:Oper)(s:aE)(res:fb):Prop:=
 ∀ a w kap F Q,bH C s a w kap F->res.cG->res.c->o.wpIn (e0 C.r) 0 C.P a w (λa' w'=>c7 C (s.jZ o.dst res) a' w') Q
theorem c8.pure{C:cB}{o:Oper}{s:aE}{cG c:Prop}{gG:aO}(an:∀ c,o.op≠.defer c)(bB:∀ i,o.dst=some i->i<C.b5)
  (h:∀ a w kap F,bH C s a w kap F->cG->c->∃ v,(execOp a.eval o).run C.P w=.ok (.value v) w/\bQ C.P s.W kap F w gG v):c8 C o s ⟨cG,c,gG,[]⟩:=by
 intro a w kap F Q U bz hc;obtain⟨v,E,M⟩:=h a w kap F U bz hc;exact iw an E ⟨kap,F,U.set bB M⟩
section
variable {P:Program} {H:Nat->b'} {kap:Nat->bP} {F:Nat->Prop} {w:World}
theorem qQ{av:aO}{v:Value}(h:bQ P H kap F w av v)(hu:(use av).1):bQ P H kap F w (use av).2 v:=by
 cases av<;>first | exact h | exact h.1 hu
theorem ajT(v:Value):bQ P H kap F w (yU v) v:=by
 unfold yU;split
 ·exact f'.2 rfl
 ·split
  ·rename_i h;exact h'.2 ⟨rfl,h⟩
  ·rfl
 ·split
  ·rename_i s h;refine oc.2 ⟨by simp,?_⟩;have:s.data.toList.length=s.size:=by rfl
   omega
  ·rfl
 ·rfl
 ·rfl
theorem lf{C:cB}{s:aE}{a:Act}{w:World}{kap:Nat->bP}{F:Nat->Prop}(h:bH C s a w kap F)(x:Operand):bQ C.P s.W kap F w (bs C.a8 s.aD x) (a.eval x):=by
 cases x with
 | tmp t=>
  exact h.cc t
 | const v=>exact ajT v
 | func f=>
  show bQ _ _ _ _ _ (match C.a8.vn f with | some v=>.val (.fn v.ts v.tr) v.sh | none=>.jV f 0 λ_=>.undef) (.func (.func f) #[] #[]);split
  ·rename_i v ab;exact (eH rfl).2 ⟨rfl,ajD (h.kR.vn f v ab) F w⟩
  ·exact⟨[],rfl,rfl,λi D=>by omega⟩
 | global g=>trivial
theorem p0{av:aO}{v:Value}{k:IntKind}{n:Int}(h:bQ P H kap F w av v)(D:av.nR=some (k,n)):v=.int k n/\gS k n:=by
 unfold aO.nR at D;split at D
 ·cases D;exact h'.1 h
 grind
theorem Nh{av:aO}{v:Value}{s:List UInt8}(h:bQ P H kap F w av v)(D:av.vs=some s):v=.string ⟨s.toArray⟩/\s.length<2 ^ 63:=by
 unfold aO.vs at D;split at D
 ·cases D;exact oc.1 h
 grind
end
theorem rK(k:IntKind)(n:Int):gS k (k.wrap n):=by
 unfold gS IntKind.wrap;have E:=Int.emod_nonneg n (b:=2 ^ k.bits) (by cases k<;>decide);have M:=Int.emod_lt_of_pos n (b:=2 ^ k.bits) (by omega);cases k<;>simp  [IntKind.min,IntKind.max,IntKind.signed,IntKind.bits,Int.reducePow]at E M ⊢<;>first
  | (constructor<;>split<;>first | (rename_i hc;have hc:=aKv hc;omega) | (rename_i hc;have hc:=mt decide_eq_true hc;omega))
  | omega
theorem ajU{k:IntKind}{a b:Int}(br:gS k a):gS k (a.tmod b):=by
 unfold gS at *
 have E:k.min<=0/\0<=k.max:=by cases k<;>decide
 have M:=Int.natAbs_tmod a b;have ai:=Nat.mod_le a.natAbs b.natAbs;rcases Int.le_total 0 a with h | h
 ·have:=Int.tmod_nonneg b h;omega
 ·have bf:=Int.neg_tmod a b;have:=Int.tmod_nonneg b (a:=-a) (by omega);omega
end Go.Fer
namespace Go.Fer
open Go.RowKit
theorem VG{P:Program}{w:World}{t:aa}{id:TypeId}(h:cx P t id)(af:t.isAgg=false){cs:Array Value}{off:Nat}{v:Value}(ab:cs[off]?=some v) :
  (part id cs off).run P w=.ok v w:=by
 simp[part,Bu h,af,ab]
theorem VH{P:Program}{w:World}{t:aa}{id:TypeId}(h:cx P t id)(af:t.isAgg=true){cs:Array Value}{off:Nat} :
  (part id cs off).run P w=.ok (.agg (cs.extract off (off+t.size))) w:=by
 simp[part,Bu h,af,h.size]
theorem sS{P:Program}{F:Nat->Prop}{w:World}{t:aa}{id:TypeId}(h:cx P t id){p c q:List Value}{cs:Array Value}{x:t.ak}(rL:cs.toList=p++(c++q))(hc:cr P t F w c x) :
  ∃ v,(part id cs p.length).run P w=.ok v w/\e4 P t F w v x:=by
 have hlen:=jx t hc;by_cases br:t.isAgg=true
 ·refine⟨_,VH h br,?_⟩;have he:(cs.extract p.length (p.length+t.size)).toList=c:=by
   simp_all
  have ab:(Value.agg (cs.extract p.length (p.length+t.size))).cells.toList=c:=he;refine⟨?_,by grind⟩;have cY:(cs.extract p.length (p.length+t.size)).size=t.size:=by grind
  cases t<;>simp  [aa.isAgg]at br
  ·exact⟨_,rfl,by simpa [aa.size]using cY⟩
  ·exact⟨_,rfl,by simpa [aa.size]using cY⟩
 ·have af:t.fE=true:=by
   cases t<;>simp  [aa.isAgg]at br<;>first | rfl | (unfold cx at h;simp  [cZ]at h)
  obtain⟨u,rfl,hu⟩:=HU af hc;refine⟨u,VG h (by grind) ?_,(eH af).2 ⟨hu,hc⟩⟩;rw[<-aKk,rL];simp
theorem cx.Eh{P:Program}{t:aa}{id:TypeId}(h:cx P (.ae t) id):P.stoodInHeld id=false/\P.eqGuardType P.depth id=false/\
  (cZ P t (.inr ((P.fieldsOf id).toList, 0)) = true \/ (∃ f, (P.fieldsOf id).toList = [f] /\ f.offset = 0 /\ cx P t f.type /\ f.name ≠ "_") \/ (t = .dp /\ (P.fieldsOf id).toList = [])) /\ P.underlying id = some (.struct (P.fieldsOf id)) := by
 unfold cx at h;simp  [cZ,aKj]at h;obtain⟨⟨⟨_,E⟩,M⟩,h⟩:=h;split at h
 ·rename_i fA kC;have aw:P.fieldsOf id=fA:=by simp[Program.fieldsOf,kC]
  rw[aw];refine⟨E,M,?_,kC⟩;split at h
  ·grind
  ·rename_i x af;simp  at h;exact .inr (.inl ⟨x,af,h.1.1.1,h.1.1.2,h.2⟩)
  grind
 grind
theorem Ni{P:Program}{F:Nat->Prop}{w:World}:∀ (t:aa) (d:Nat),t.nP=true->t.mH<=d->
  (∀ {id:TypeId} {v u:Value} {x y:t.ak},cx P t id->e4 P t F w v x->e4 P t F w u y->(Op.equalIn d id v u).run P w=.ok (h3 t x y) w)/\
  (∀ {l:List Field} {off:Nat} {xs bA:Array Value} {p c q p' me q':List Value} {x y:t.ak},cZ P t (.inr (l,off))=true->xs.toList=p++(c++q)->p.length=off->cr P t F w c x->
   bA.toList=p'++(me++q')->p'.length=off->cr P t F w me y->(Op.eqFields d xs bA l).run P w=.ok (h3 t x y) w):=by
 intro t;induction t with
 | bool=>
  intro d _ an;refine⟨λ{id v u x y} h E M=>?_,λh=>by simp[cZ]at h⟩;rw[f'.1 E,f'.1 M];obtain⟨d,rfl⟩:∃ e,d=e+1:=⟨d - 1,by simp  [aa.mH]at an;omega⟩
  unfold cx at h;simp  [cZ]at h;split at h
  ·rename_i hu;rw[run_equalIn_bool' w d id x y hu];rfl
  grind
 | int k=>
  intro d _ an;refine⟨λ{id v u x y} h E M=>?_,λh=>by simp[cZ]at h⟩;rw[(h'.1 E).1,(h'.1 M).1];obtain⟨d,rfl⟩:∃ e,d=e+1:=⟨d - 1,by simp  [aa.mH]at an;omega⟩
  unfold cx at h;simp  [cZ]at h;split at h
  ·rename_i hu;rw[run_equalIn_int w d id k _ x y hu];rfl
  grind
 | str=>
  intro d _ an;refine⟨λ{id v u x y} h E M=>?_,λh=>by simp[cZ]at h⟩;rw[(oc.1 E).1,(oc.1 M).1];obtain⟨d,rfl⟩:∃ e,d=e+1:=⟨d - 1,by simp  [aa.mH]at an;omega⟩
  unfold cx at h;simp  [cZ]at h;split at h
  ·rename_i hu;rw[run_equalIn_string w d id _ _ hu,ByteArray.toList_eq];simp  [h3];grind
  grind
 | dp=>intro d h;cases h
 | slice e _=>intro d h;cases h
 | array n e _=>intro d h;cases h
 | bV e _=>intro d h;cases h
 | map k v _ _=>intro d h;cases h
 | fn a b _ _=>intro d h;cases h
 | cO a _=>intro d h;cases h
 | e3=>intro d h;cases h
 | ar a b gD fy=>
  intro d hc an;simp  [aa.nP]at hc;simp  [aa.mH]at an;have Nj:=gD d hc.1 (by omega);have qM:=fy d hc.2 (by omega);refine⟨λh=>by unfold cx at h;simp[cZ]at h,?_⟩;intro l off xs bA p c q p' me q' x y h al aq sT bh Ei Ej;obtain⟨bx,c2,rfl,aY,a_⟩:=sT;obtain⟨d1,d2,rfl,m1,m2⟩:=Ej;have dO:=jx a aY;have jd:=jx a m1;have step : ∀ (f : Field) (cK : List Field), f.offset = off -> cx P a f.type -> f.name ≠ "_" ->
    (Op.eqFields d xs bA (f::cK)).run P w=if h3 a x.1 y.1=true then (Op.eqFields d xs bA cK).run P w else .ok false w:=by
   intro f cK au aw aC;obtain⟨v,b4,cL⟩:=sS (cs:=xs) (p:=p)   (q:=c2++q) aw (by grind) aY;obtain⟨u,s1,s2⟩:=sS (cs:=bA) (p:=p')   (q:=d2++q') aw (by grind) m1;simp  [Op.eqFields,aC,Sem.run_bind];rw[au,<-aq,b4,Result.andThen_ok,aq,<-Ei,s1,Result.andThen_ok,Nj.1 aw cL s2];cases h3 a x.1 y.1<;>simp
  match l,h with
  | [],h=>simp  [cZ]at h
  | [f],h=>simp  [cZ]at h
  | [f,g],h=>
   simp  [cZ,ne_eq]at h;obtain⟨⟨⟨⟨E,M⟩,ai⟩,bf⟩,⟨⟨⟨b2,d_⟩,hn⟩,jL⟩⟩:=h;rw[step f [g] E M bf];obtain⟨v,b4,cL⟩:=sS (cs:=xs) (p:=p++bx)   (q:=q) d_ (by grind) a_;obtain⟨u,s1,s2⟩:=sS (cs:=bA) (p:=p'++d1)   (q:=q') d_ (by grind) m2;have ax:(p++bx).length=g.offset:=by grind
   have aU:(p'++d1).length=g.offset:=by grind
   rw[ax]at b4;rw[aU]at s1;simp  [Op.eqFields,jL,b4,s1,qM.1 d_ cL s2,h3];cases h3 a x.1 y.1<;>cases h3 b x.2 y.2<;>simp
  | f::g::i::l,h=>
   simp  [cZ,ne_eq]at h;obtain⟨⟨⟨⟨E,M⟩,ai⟩,bf⟩,b2⟩:=h;rw[step f _ E M bf,qM.2 b2 (p:=p++bx)   (q:=q) (p':=p'++d1)   (q':=q') (by grind) (by grind) a_ (by grind) (by grind) m2];simp  [h3];grind
 | ae t aP=>
  intro d hc an;simp  [aa.mH]at an;obtain⟨d,rfl⟩:∃ e,d=e+1:=⟨d - 1,by omega⟩
  refine⟨λ{id v u x y} h E M=>?_,λh=>by simp[cZ]at h⟩;have i:=aP d hc (by omega);obtain⟨ax,aU,cD,eZ⟩:=h.Eh;obtain⟨⟨xs,rfl,j0⟩,sT⟩:=E;obtain⟨⟨bA,rfl,mI⟩,Ej⟩:=M;simp  [Value.cells]at sT Ej;rw[run_equalIn_struct w d id xs bA eZ ax];rcases cD with cD | ⟨f,cD,fR,hf,Ek⟩ | ⟨rfl,cD⟩
  ·exact i.2 cD (p:=[])   (q:=[]) (p':=[])   (q':=[]) (by simp) rfl sT (by simp) rfl Ej
  ·rw[cD];obtain⟨v,b4,cL⟩:=sS (cs:=xs) (p:=[])   (q:=[]) hf (by simp) sT;obtain⟨u,s1,s2⟩:=sS (cs:=bA) (p:=[])   (q:=[]) hf (by simp) Ej;simp  at b4 s1;simp  [Op.eqFields,Ek,fR,b4,s1,i.1 hf cL s2,h3];cases h3 t x y<;>simp
  ·cases hc
theorem ajV{k:IntKind}{a b:Int}(br:gS k a):gS k (kA k a b):=by
 unfold gS at *
 unfold kA;have E:k.min<=0/\0<=k.max:=by cases k<;>decide
 generalize min b.toNat k.bits=n;have aq:(0:Int)<2 ^ n:=Int.pow_pos (by decide);rw[Int.fdiv_eq_ediv_of_nonneg _ (Int.le_of_lt aq)];rcases Int.le_total 0 a with h | h
 ·have M:=Int.ediv_nonneg h (Int.le_of_lt aq);have ai:=Int.ediv_le_self (2 ^ n) h;omega
 ·have M:a / 2 ^ n<=0:=by
   have:=Int.ediv_le_ediv aq h;simp_all
  have ai:a<=a / 2 ^ n:=by
   rw[Int.le_ediv_iff_mul_le aq];have bf:(1:Int)<=2 ^ n:=by omega
   have:=Int.mul_le_mul_of_nonpos_left   h bf;omega
  omega
theorem VI{P:Program}{w:World}(op:BinOp)(t:TypeId)(x y:Operand)(k k':IntKind)(a b:Int):(eqGuard op t x y (.int k a) (.int k' b)).run P w=.ok () w:=by
 cases op<;>simp[eqGuard]
theorem ajW{P:Program}{w:World}(op:BinOp)(t:TypeId)(x y:Operand)(a b:ByteArray):(eqGuard op t x y (.string a) (.string b)).run P w=.ok () w:=by
 cases op<;>simp[eqGuard]
theorem ajX{P:Program}{w:World}(op:BinOp)(t:TypeId)(x y:Operand)(a b:Bool):(eqGuard op t x y (.bool a) (.bool b)).run P w=.ok () w:=by
 cases op<;>simp[eqGuard]
theorem ajY{P:Program}{w:World}(op:BinOp)(t:TypeId)(x y:Operand)(a b:Option Addr):(eqGuard op t x y (.pointer a) (.pointer b)).run P w=.ok () w:=by
 cases op<;>simp[eqGuard]
section
variable {P:Program} {H:Nat->b'} {kap:Nat->bP} {F:Nat->Prop} {w:World}
theorem ajZ{op:BinOp}{k:IntKind}{a b:Int}{t:TypeId}{c:Prop}{v:aO}(h:Bq op k a b=some (c,v))(hc:c)(br:gS k a) :
  ∃ u,(binOp op t (.int k a) (.int k b)).run P w=.ok u w/\bQ P H kap F w v u:=by
 cases op<;>simp only[Bq,reduceCtorEq]at h<;>obtain⟨rfl,rfl⟩:=h<;>simp only[bQ];case add=>exact⟨_,by simp[binOp,Op.intArith],h'.2 ⟨rfl,rK _ _⟩⟩
 case sub=>exact⟨_,by simp[binOp,Op.intArith],h'.2 ⟨rfl,rK _ _⟩⟩
 case mul=>exact⟨_,by simp[binOp,Op.intArith],h'.2 ⟨rfl,rK _ _⟩⟩
 case quo=>exact⟨_,by simp[binOp,Op.intDiv,hc],h'.2 ⟨rfl,rK _ _⟩⟩
 case rem=>exact⟨_,by simp[binOp,Op.intDiv,hc],h'.2 ⟨rfl,ajU br⟩⟩
 case and=>exact⟨.int k (nm k a b),by simp  [binOp,Op.intBits];rfl,h'.2 ⟨rfl,rK _ _⟩⟩
 case or=>exact⟨.int k (Vp k a b),by simp  [binOp,Op.intBits];rfl,h'.2 ⟨rfl,rK _ _⟩⟩
 case xor=>exact⟨.int k (Vq k a b),by simp  [binOp,Op.intBits];rfl,h'.2 ⟨rfl,rK _ _⟩⟩
 case andNot=>exact⟨.int k (Vr k a b),by simp only[binOp,ne_eq,Op.intBits];rfl,h'.2 ⟨rfl,rK _ _⟩⟩
 case eql=>exact⟨.bool (a == b),by simp[binOp,Op.intCmp],f'.2 (congrArg Value.bool (by rfl))⟩
 case neq=>exact⟨.bool (a != b),by simp[binOp,Op.intCmp],f'.2 (congrArg Value.bool (by grind))⟩
 case lss=>exact⟨_,by simp[binOp,Op.intCmp],f'.2 rfl⟩
 case leq=>exact⟨_,by simp[binOp,Op.intCmp],f'.2 rfl⟩
 case gtr=>exact⟨_,by simp[binOp,Op.intCmp],f'.2 rfl⟩
 case geq=>exact⟨_,by simp[binOp,Op.intCmp],f'.2 rfl⟩
theorem VJ{op:BinOp}{k k':IntKind}{a b:Int}{t:TypeId}{c:Prop}{v:aO}(h:M' op k a b=some (c,v))(hc:c)(br:gS k a) :
  ∃ u,(binOp op t (.int k a) (.int k' b)).run P w=.ok u w/\bQ P H kap F w v u:=by
 cases op<;>simp only[M',reduceCtorEq]at h<;>obtain⟨rfl,rfl⟩:=h<;>simp  [bQ];case shl=>exact⟨_,by simp[binOp,Op.shift,show ¬b<0 by omega];rfl,h'.2 ⟨rfl,rK _ _⟩⟩
 case shr=>exact⟨_,by simp[binOp,Op.shift,show ¬b<0 by omega];rfl,h'.2 ⟨rfl,ajV br⟩⟩
theorem aj0{op:BinOp}{a b:List UInt8}{t:TypeId}{c:Prop}{v:aO}(h:D9 op a b=some (c,v))(hc:c) :
  ∃ u,(binOp op t (.string ⟨a.toArray⟩) (.string ⟨b.toArray⟩)).run P w=.ok u w/\bQ P H kap F w v u:=by
 have e:∀ l,(⟨l.toArray⟩:ByteArray).toList=l:=λl=>by simp
 cases op<;>simp only[D9,reduceCtorEq]at h<;>obtain⟨rfl,rfl⟩:=h<;>simp only[bQ];case add=>
  unfold bW at hc;have az:((ByteArray.size ⟨a.toArray⟩+ByteArray.size ⟨b.toArray⟩))=(a.length+b.length):=by rfl
  refine⟨.string ⟨(a++b).toArray⟩,?_,oc.2 ⟨rfl,by grind⟩⟩;simp  [binOp,Op.stringOp];rw[if_neg]
  ·rfl
  ·have:IntKind.i64.max=9223372036854775807:=by decide
   omega
 case eql=>exact⟨_,by rfl,f'.2 (by grind)⟩
 case neq=>exact⟨_,by rfl,f'.2 (by grind)⟩
 case lss=>exact⟨_,by simp only[binOp,Op.stringOp,e];rfl,f'.2 rfl⟩
 case geq=>exact⟨_,by simp only[binOp,Op.stringOp,e];rfl,f'.2 rfl⟩
end
end Go.Fer
namespace Go.Fer
open Go.RowKit
def eO(P:Program)(T:Nat->aa):Prop:=∀ id,T id=.dp\/cx P (T id) id
theorem eO.cv{P:Program}{T:Nat->aa}(h:eO P T){id:Nat}{t:aa}(e:T id=t)(aT:t≠.dp):cx P t id:=by
 rcases h id with h | h<;>grind
theorem sU{d:Option Nat}{k:Nat->Nat->Option fb}{H:Nat->b'}{res:fb}(h:(nq d k).run H=some res) :
  ∃ b,d=some b/\k b ((H b).gen+1)=some res:=by
 unfold nq at h;cases d with
 | none=>cases h
 | some b=>
  simp_all
theorem bH.aj1{C:cB}{s:aE}{a:Act}{w:World}{kap:Nat->bP}{F:Nat->Prop}(h:bH C s a w kap F){b g:Nat}{e:aa}(aA:(s.W b).gen<g) :
  bH C (s.c' b ⟨g,.bu e []⟩) a w (λi=>if i=b then ⟨0,0,0,true⟩ else kap i) F:=by
 have af:gb s.W kap (λi=>if i=b then ⟨g,.bu e []⟩ else s.W i) (λi=>if i=b then ⟨0,0,0,true⟩ else kap i):=Bj aA λbl da=>by grind
 refine h.move   af (λ_ U=>U) (λ_ U=>.inl U) (ajn _) (λ_ _ _=>rfl) (dP.refl _) (λ_=>?_) ?_ ?_ h.dH (Bk (.inr ⟨rfl,rfl⟩) λbl da=>by grind)
 ·intro i;by_cases D:i=b
  ·subst D;simp  [cX];exact⟨λ_=>rfl,λaC=>by grind⟩
  ·exact cX.mG (h.bR i) af (λ_ U=>U) (dy.refl _ _) (by grind) (by grind) λ_=>rfl
 ·intro i D;by_cases bN:i=b
  ·subst bN;simp[cf.cq]at D
  ·simp  [if_neg bN]at D ⊢;exact⟨(h.own i D).1,(h.own i D).2.1,.inl ⟨i,D,rfl⟩⟩
 ·intro i j D aI bt;by_cases bN:i=b
  ·subst bN;simp[cf.cq]at D
  ·by_cases od:j=b
   ·subst od;simp[cf.cq]at aI
   ·simp  [if_neg bN,if_neg od]at D aI bt;exact h.inj i j D aI bt
section
variable {C:cB} {T:Nat->aa} {bK:Nat->Option aF} {o:Oper} {s:aE} {res:fb}
theorem aj2{x:Operand}(bB:∀ i,o.dst=some i->i<C.b5)(au:o.op=.move x)(h:(cn C.a8 T bK (bs C.a8 s.aD) o).run s.W=some res):c8 C o s res:=by
 simp  [cn,au,cQ,ajk]at h;subst h;exact c8.pure (by grind) bB λa w kap F U _ _=>⟨_,by simp[execOp,au],lf U x⟩
theorem aj3{x:Operand}(bB:∀ i,o.dst=some i->i<C.b5)(au:o.op=.assign x)(h:(cn C.a8 T bK (bs C.a8 s.aD) o).run s.W=some res):c8 C o s res:=by
 simp  [cn,au]at h;split at h
 ·rename_i e al aT;obtain⟨b,an,ah⟩:=sU h;simp  at ah;subst ah;intro a w kap F Q U _ _;refine iw (w':=w) (v:=a.eval x) (by grind) (by simp[execOp,au]) ?_;have M:=U.aj1 (b:=b) (e:=e) (aKM _);have ab:=lf U x;rw[al]at ab;simp  [bQ]at ab;refine⟨_,_,bH.set M bB ⟨⟨?_,by rw[ab];rfl⟩,λ_ _=>?_⟩⟩
  ·simp[aE.c']
  ·simp[ab,bP.slice]
 ·simp  [cQ,ajk]at h;subst h;exact c8.pure (by grind) bB λa w kap F U _ _=>⟨_,by simp[execOp,au],lf U x⟩
theorem df{a:Act}{w:World}{kap:Nat->bP}{F:Nat->Prop}(U:bH C s a w kap F)(x:Operand){p:Prop}{av:aO}(hu:use (bs C.a8 s.aD x)=(p,av))(aq:p):bQ C.P s.W kap F w av (a.eval x):=by
 have:=qQ (lf U x) (by grind);grind
theorem aj4{c x y:Operand}(bB:∀ i,o.dst=some i->i<C.b5)(au:o.op=.pick c x y)(h:(cn C.a8 T bK (bs C.a8 s.aD) o).run s.W=some res):c8 C o s res:=by
 simp  [cn,au]at h;split at h
 ·rename_i sQ kB hc;split at h
  ·split at h
   ·rename_i VF av br;simp  [cQ,ajk]at h;subst h;refine c8.pure (by grind) bB λa w kap F U bz _=>?_;have E:=f'.1 (df U c hc bz.1);cases kB with
    | false=>
     have bO:a.eval (.const (.bool false))=.bool false:=rfl;exact⟨.bool false,by simp[execOp,au,E,asBool,bO],f'.2 rfl⟩
    | true=>
     have M:=f'.1 (df U x br (bz.2 rfl));exact⟨.bool av,by simp[execOp,au,E,asBool,M],f'.2 rfl⟩
   ·cases h
  ·split at h
   ·rename_i cG bv V;simp  [cQ,ajk]at h;subst h;refine c8.pure (by grind) bB λa w kap F U bz _=>?_;have E:=f'.1 (df U c hc bz.1);cases kB with
    | true=>
     have bO:a.eval (.const (.bool true))=.bool true:=rfl;exact⟨.bool true,by simp[execOp,au,E,asBool,bO],f'.2 rfl⟩
    | false=>
     have M:=f'.1 (df U y V (bz.2 rfl));exact⟨.bool bv,by simp[execOp,au,E,asBool,M],f'.2 rfl⟩
   ·cases h
  ·cases h
 ·cases h
theorem aj5{op:UnOp}{ty:TypeId}{x:Operand}(bB:∀ i,o.dst=some i->i<C.b5)(au:o.op=.unOp op ty x)(h:(cn C.a8 T bK (bs C.a8 s.aD) o).run s.W=some res):c8 C o s res:=by
 simp only[cn,au]at h;split at h
 ·rename_i c1 b al;simp  [cQ,ajk]at h;subst h;refine c8.pure (by grind) bB λa w kap F U bz _=>?_;have E:=f'.1 (df U x al bz);exact⟨.bool (!b),by simp[execOp,au,E,Op.unary],f'.2 rfl⟩
 ·rename_i c1 k n al;simp only[cQ,aM.dC,ajk]at h;subst h;refine c8.pure (by grind) bB λa w kap F U bz _=>?_;have E:=h'.1 (df U x al bz);exact⟨.int k (k.wrap (0 - n)),by simp[execOp,au,E.1,Op.unary,Op.intArith],h'.2 ⟨rfl,rK _ _⟩⟩
 ·cases h
theorem aj6{i:Nat}{x:Operand}(bB:∀ i,o.dst=some i->i<C.b5)(au:o.op=.extract x i)(h:(cn C.a8 T bK (bs C.a8 s.aD) o).run s.W=some res):c8 C o s res:=by
 simp  [cn,au]at h;split at h
 ·rename_i c1 n f al;split at h
  ·simp  [cQ,ajk]at h;subst h;refine c8.pure (by grind) bB λa w kap F U bz _=>?_;obtain⟨aJ,E,M,ai⟩:=df U x al bz;have eE:i<aJ.length:=by omega
   refine⟨aJ[i],by simp[execOp,au,E,Instr.extract,eE],?_⟩;grind
  ·cases h
 ·cases h
theorem aj7{x:Operand}(bB:∀ i,o.dst=some i->i<C.b5)(au:o.op=.nilCheck x)(h:(cn C.a8 T bK (bs C.a8 s.aD) o).run s.W=some res):c8 C o s res:=by
 simp only[cn,au]at h;split at h
 ·rename_i c1 b g i al;simp only[aM.gV,aM.dC]at h;split at h
  ·rename_i bD;simp  at bD;simp  at h;subst h;refine c8.pure (by grind) bB λa w kap F U bz _=>?_;have E:=df U x al bz;have M:=E.2 bD.1.symm bD.2;exact⟨_,by simp[execOp,au,M.2.2],⟨E.1.1,rfl⟩,λ_ _=>⟨M.1,M.2.1,rfl⟩⟩
  grind
 ·rename_i c1 t d al;simp  [cQ,ajk]at h;subst h;refine c8.pure (by grind) bB λa w kap F U bz _=>?_;obtain⟨p,bI,E,M⟩:=df U x al bz;exact⟨_,by simp[execOp,au,E],p,bI,rfl,M⟩
 ·rename_i c1 e p al;simp  [cQ,ajk]at h;subst h;refine c8.pure (by grind) bB λa w kap F U bz hc=>?_;have E:=(eH rfl).1 (df U x al bz);obtain⟨_,E⟩:=E;rcases E with⟨_,rfl⟩ | ⟨q,y,bI,bM,rfl,aY,a_⟩
  ·grind
  ·simp  at bM;exact⟨_,by simp[execOp,au,bM],q,bI,rfl,aY,a_⟩
 ·rename_i c1 b g off al;simp only[aM.gV,aM.dC]at h;split at h
  ·rename_i bD;simp  at bD;simp  at h;subst h;refine c8.pure (by grind) bB λa w kap F U bz _=>?_;have E:=df U x al bz;have M:=E.2 bD.1.symm bD.2;exact⟨_,by simp[execOp,au,M],⟨E.1.1,rfl⟩,λ_ _=>rfl⟩
  grind
 ·cases h
theorem w7(b off n:Nat):(⟨b,off,none⟩:Addr).add n=⟨b,off+n,none⟩:=by
 unfold Addr.add;simp
theorem Ic{P:Program}{w:World}{t s:aa}{id f pZ b off:Nat}(h:cx P (.ae t) id)(aw:o9 t f=some (s,pZ)) :
  (Instr.fieldAt id (.pointer (some ⟨b,off,none⟩)) f).run P w=.ok (.pointer (some ⟨b,off+pZ,none⟩)) w:=by
 obtain⟨fA,pb,E,M,ai,bf,b2⟩:=h.field aw;simp  [Instr.fieldAt,ej E,M,Instr.sureAddr,fieldPlace,bf.size,b2,ai,w7]
theorem aj8(be:eO C.P T){ty f:Nat}{x:Operand}(bB:∀ i,o.dst=some i->i<C.b5)(au:o.op=.fieldAddr ty x f)(h:(cn C.a8 T bK (bs C.a8 s.aD) o).run s.W=some res):c8 C o s res:=by
 simp only[cn,au]at h;split at h
 ·rename_i t aT;have dT:=be.cv aT (by simp);split at h
  ·rename_i s' pZ aw;split at h
   ·rename_i c1 b g off al;simp only[aM.gV,aM.dC]at h;split at h
    ·rename_i bD;simp  at bD;simp  at h;subst h;refine c8.pure (by grind) bB λa w kap F U bz _=>?_;have E:=df U x al bz;have M:=E.2 bD.1.symm bD.2;exact⟨_,by simp[execOp,au,M,Ic dT aw],⟨E.1.1,rfl⟩,λ_ _=>rfl⟩
    grind
   ·rename_i c1 b g i off al;simp only[aM.gV,aM.dC]at h;split at h
    ·rename_i bD;simp  at bD;simp  at h;subst h;refine c8.pure (by grind) bB λa w kap F U bz _=>?_;have E:=df U x al bz;obtain⟨M,ai,bf⟩:=E.2 bD.1.symm bD.2;exact⟨_,by simp[execOp,au,bf,Ic dT aw];rfl,⟨E.1.1,rfl⟩,λ_ _=>⟨M,ai,by grind⟩⟩
    grind
   ·rename_i c1 b g i al;simp only[aM.gV,aM.dC]at h;split at h
    ·rename_i bD;simp  at bD;simp  at h;subst h;refine c8.pure (by grind) bB λa w kap F U bz _=>?_;have E:=df U x al bz;obtain⟨M,ai,bf⟩:=E.2 bD.1.1.symm bD.1.2;exact⟨_,by simp[execOp,au,bf,Ic dT aw];rfl,⟨E.1.1,rfl⟩,λ_ _=>⟨M,ai,by grind⟩⟩
    grind
   ·rename_i c1 dL d al;split at h
    ·rename_i Bw;subst Bw;split at h
     ·rename_i s2 y bh;simp  [cQ,ajk]at h;subst h;refine c8.pure (by grind) bB λa w kap F U bz _=>?_;obtain⟨p,bI,E,M,ai⟩:=df U x al bz;obtain⟨bx,c2,c3,rfl,aY,a_⟩:=Vv dL ai bh;rw[aw]at a_;cases a_;have aq:p=⟨p.block,p.off,none⟩:=by have:=M.2.1;cases p;grind
      rw[aq]at E;refine⟨_,by simp[execOp,au,E,Ic dT aw],⟨p.block,p.off+bx.length,none⟩,c2,rfl,⟨M.1,rfl,λj aI=>?_⟩,aY⟩;have:=M.2.2 (bx.length+j) (by grind);grind
     ·cases h
    ·cases h
   ·cases h
  ·cases h
 ·cases h
theorem aj9(be:eO C.P T){ty f:Nat}{x:Operand}(bB:∀ i,o.dst=some i->i<C.b5)(au:o.op=.field ty x f)(h:(cn C.a8 T bK (bs C.a8 s.aD) o).run s.W=some res):c8 C o s res:=by
 simp  [cn,au]at h;split at h
 ·rename_i t aT;have dT:=be.cv aT (by simp);split at h
  ·rename_i c1 dL d al;split at h
   ·rename_i Bw;subst Bw;split at h
    ·rename_i s2 y bh;simp  [cQ,ajk]at h;subst h;refine c8.pure (by grind) bB λa w kap F U bz _=>?_;obtain⟨⟨cs,E,M⟩,ai⟩:=df U x al bz;rw[E]at ai;simp  [Value.cells]at ai;obtain⟨bx,c2,c3,e,aY,a_⟩:=Vv dL ai bh;obtain⟨fA,pb,f1,f2,f3,f4,f5⟩:=dT.field a_;obtain⟨v,b4,cL⟩:=sS   f4 e aY;refine⟨v,?_,cL⟩;simp[execOp,au,E,Instr.field,ej f1,f2,asAgg,f3,b4]
    ·cases h
   ·cases h
  ·cases h
 ·cases h
end
end Go.Fer
namespace Go.Fer
open Go.RowKit
theorem cx.bV{P:Program}{e:aa}{id:TypeId}(h:cx P (.bV e) id):∃ i,P.underlying id=some (.pointer i)/\cx P e i/\e.size≠0:=by
 unfold cx at h;simp  [cZ]at h;obtain⟨_,h⟩:=h;split at h
 ·rename_i i D;simp  at h;exact⟨i,D,h.1,h.2⟩
 grind
theorem VK{k:IntKind}{av:aO}{H:Nat->b'}{x:Int}{l:List Nat}(h:(eg (.int k) av).run H=some (x,l)):av.nR.isSome=true:=by
 cases av with
 | val dL y=>
  simp  [eg,aJ8]at h;obtain⟨z,bD,_⟩:=h;obtain⟨rfl,_⟩:=mb bD;rfl
 | kP v=>simp[eg,lF,aa.fE,eJ,D6]at h
 | _=>simp[eg,lF,aa.fE,eJ,aM.none]at h
theorem VL{av:aO}{H:Nat->b'}{x:List UInt8}{l:List Nat}(h:(eg .str av).run H=some (x,l)):av.vs.isSome=true:=by
 cases av with
 | val dL y=>
  simp  [eg,aJ8]at h;obtain⟨z,bD,_⟩:=h;obtain⟨rfl,_⟩:=mb bD;rfl
 | kP v=>simp[eg,lF,aa.fE,eJ,D6]at h
 | _=>simp[eg,lF,aa.fE,eJ,aM.none]at h
theorem Ie{P:Program}{w:World}{ty i:TypeId}(D:P.underlying ty=some (.pointer i))(a:Option Addr)(d:Nat):(Op.equalIn (d+1) ty (.pointer a) (.pointer none)).run P w=.ok a.isNone w:=by
 cases a<;>simp[Op.equalIn,ej D]
inductive El:Value->Value->Prop where
 | bool (a b:Bool):El (.bool a) (.bool b)
 | agg (a b:Array Value):El (.agg a) (.agg b)
 | bV (a b:Option Addr):El (.pointer a) (.pointer b)
theorem aj_{P:Program}{w:World}{ty:TypeId}{x y:Operand}{u p1:Value}{e:Bool}(aq:El u p1)(h:(Op.equalIn 10000 ty u p1).run P w=.ok e w)
  (aA:∀ a b,u=.agg a->p1=.agg b->P.eqGuardType P.depth ty=false) :
  (do eqGuard .eql ty x y u p1;binOp .eql ty u p1:Sem Value).run P w=.ok (.bool e) w/\(do eqGuard .neq ty x y u p1;binOp .neq ty u p1:Sem Value).run P w=.ok (.bool (!e)) w:=by
 cases aq with
 | bool a b=>constructor<;>simp[ajX,binOp,Op.equal,Op.maxDepth,h]
 | agg a b=>constructor<;>simp[run_eqGuard_agg _ _ _ _ _ _ _ (aA a b rfl rfl),binOp,Op.equal,Op.maxDepth,h]
 | bV a b=>constructor<;>simp[ajY,binOp,Op.equal,Op.maxDepth,h]
section
variable {C:cB} {T:Nat->aa} {bK:Nat->Option aF} {o:Oper} {s:aE} {res:fb}
theorem Em{a:Act}{w:World}{kap:Nat->bP}{F:Nat->Prop}(U:bH C s a w kap F){t:aa}{av:aO}{v:Value}{x:t.ak}{l:List Nat}(h:(eg t av).run s.W=some (x,l))(ab:bQ C.P s.W kap F w av v) :
  e4 C.P t (λ_=>True) w v x:=nQ U.bR (λ_ _=>trivial) h (λ_ _ _=>trivial) ab
theorem aj'{op:BinOp}{ty:TypeId}{e6 lI:aO}{x y:Operand}{c:Prop}{v:aO}{a:Act}{w:World}{kap:Nat->bP}{F:Nat->Prop}(be:eO C.P T)(U:bH C s a w kap F)
  (h:(D_ op (T ty) e6 lI).run s.W=some (c,v)) {u p1:Value} (al:bQ C.P s.W kap F w e6 u) (bh:bQ C.P s.W kap F w lI p1) (aka:¬(e6.nR.isSome=true/\lI.nR.isSome=true)) (akb:¬(e6.vs.isSome=true/\lI.vs.isSome=true)) :
  ∃ r,(do eqGuard op ty x y u p1;binOp op ty u p1:Sem Value).run C.P w=.ok r w/\bQ C.P s.W kap F w v r:=by
 unfold D_ at h;rw[aM.fG]at h;simp only[aji]at h;obtain⟨e,he,ab⟩:=h;simp  at ab;have key:El u p1/\(Op.equalIn 10000 ty u p1).run C.P w=.ok e w/\(∀ a b,u=.agg a->p1=.agg b->C.P.eqGuardType C.P.depth ty=false):=by
  split at he
  ·rename_i bt p aU aT;obtain⟨i,D,_⟩:=(be.cv aT (by simp)).bV;subst bh;simp  at he;subst he;obtain⟨_,pc⟩:=(eH rfl).1 al;rcases pc with⟨pc,rfl⟩ | ⟨q,z,bI,pc,rfl,_⟩
   ·obtain rfl:=(aKh pc).1;exact⟨.bV _ _,Ie D none 9999,λ_ _ h=>by simp⟩
   ·obtain rfl:=(aKh pc).1;exact⟨.bV _ _,Ie D (some q) 9999,λ_ _ h=>by simp⟩
  ·rename_i bt t2 p2 aT;obtain⟨i,D,_⟩:=(be.cv aT (by simp)).bV;subst bh;simp  at he;subst he;obtain⟨q,bI,rfl,_⟩:=al;exact⟨.bV _ _,Ie D (some q) 9999,λ_ _ h=>by simp⟩
  ·rename_i bt b g off aT;obtain⟨i,D,_⟩:=(be.cv aT (by simp)).bV;subst bh;simp only[aM.gV,aM.dC]at he;split at he
   ·rename_i bD;simp  at bD;simp  at he;subst he;have:=al.2 bD.1.symm bD.2;subst this;exact⟨.bV _ _,Ie D (some _) 9999,λ_ _ h=>by simp⟩
   grind
  ·split at he
   ·rename_i ko;simp  at ko;simp only[aM.fG,aji,aM.dC,ajk]at he;obtain⟨⟨kD,dO⟩,E,⟨lg,jd⟩,M,rfl⟩:=he;have b4:=Em U E al;have cL:=Em U M bh;generalize rM:T ty=t at *
    cases t with
    | bool=>
     have dT:=be.cv rM (by simp);refine⟨?_,(Ni .bool 10000 rfl (by decide)).1 dT b4 cL,?_⟩
     ·rw[f'.1 b4,f'.1 cL];exact .bool _ _
     simp_all
    | int k=>exact (aka ⟨VK E,VK M⟩).elim
    | str=>exact (akb ⟨VL E,VL M⟩).elim
    | ae t=>
     have dT:=be.cv rM (by simp);refine⟨?_,(Ni (.ae t) 10000 ko.1 (by omega)).1 dT b4 cL,λ_ _ _ _=>dT.Eh.2.1⟩;obtain⟨⟨_,rfl,_⟩,_⟩:=b4;obtain⟨⟨_,rfl,_⟩,_⟩:=cL;exact .agg _ _
    | ar t1 t2=>have:=be.cv rM (by simp);unfold cx at this;simp  [cZ]at this
    | dp=>cases ko.1
    | slice _=>cases ko.1
    | array _ _=>cases ko.1
    | bV _=>cases ko.1
    | map _ _=>cases ko.1
    | fn _ _=>cases ko.1
    | cO _=>cases ko.1
    | e3=>cases ko.1
   ·cases he
 obtain⟨aY,a_,b7⟩:=key;have:=aj_ (x:=x) (y:=y) aY a_ b7;cases op<;>simp only[reduceCtorEq,aJ8]at ab;case eql=>obtain⟨rfl,rfl⟩:=ab;exact⟨_,this.1,f'.2 rfl⟩
 case neq=>obtain⟨rfl,rfl⟩:=ab;exact⟨_,this.2,f'.2 rfl⟩
theorem akc(be:eO C.P T){op:BinOp}{ty og:TypeId}{x y:Operand}(bB:∀ i,o.dst=some i->i<C.b5)(au:o.op=.binOp op ty x y og)(h:(cn C.a8 T bK (bs C.a8 s.aD) o).run s.W=some res):c8 C o s res:=by
 simp  [cn,au]at h;have Bx:∀ c,o.op≠.defer c:=by grind
 have oh:∀ (a:Act) (w:World) (r:Value),(do eqGuard op ty x y (a.eval x) (a.eval y);binOp op ty (a.eval x) (a.eval y)).run C.P w=.ok r w->(execOp a.eval o).run C.P w=.ok (.value r) w:=by
  intro a w r U;simp only[execOp,au,Sem.run_bind]at U ⊢;simp_all
 split at h
 ·rename_i k m k' n al bh;have fin:∀ (c:Prop) (v:aO),(∀ (w:World) kap F,c->gS k m->∃ r,(binOp op ty (.int k m) (.int k' n)).run C.P w=.ok r w/\bQ C.P s.W kap F w v r)->
    res=⟨(use (bs C.a8 s.aD x)).1/\(use (bs C.a8 s.aD y)).1,c,v,[]⟩->c8 C o s res:=by
   intro c v ah ih;subst ih;refine c8.pure Bx bB λa w kap F U bz hc=>?_;have E:=p0 (df U x rfl bz.1) al;have M:=p0 (df U y rfl bz.2) bh;obtain⟨r,b4,cL⟩:=ah w kap F hc E.2;exact⟨r,oh a w r (by simp[E.1,M.1,VI,b4]),cL⟩
  split at h
  ·split at h
   ·rename_i c v az;simp  [cQ,ajk]at h;exact fin c v (λw kap F hc br=>VJ az hc br) h.symm
   ·cases h
  ·split at h
   ·rename_i c v az;simp  [cQ,ajk]at h;exact fin c v (λw kap F hc br=>VJ az hc br) h.symm
   ·cases h
  ·split at h
   ·rename_i w8;subst w8;split at h
    ·rename_i c v az;simp  [cQ,ajk]at h;exact fin c v (λw kap F hc br=>ajZ az hc br) h.symm
    ·cases h
   ·cases h
 ·split at h
  ·rename_i m n al bh;split at h
   ·rename_i c v az;simp  [cQ,ajk]at h;subst h;refine c8.pure Bx bB λa w kap F U bz hc=>?_;have E:=Nh (df U x rfl bz.1) al;have M:=Nh (df U y rfl bz.2) bh;obtain⟨r,b4,cL⟩:=aj0           (t:=ty) az hc;exact⟨r,oh a w r (by simp[E.1,M.1,ajW,b4]),cL⟩
   ·cases h
  ·simp only[cQ,aM.fG,aji,aM.dC,ajk]at h;obtain⟨⟨c,v⟩,az,rfl⟩:=h;refine c8.pure Bx bB λa w kap F U bz hc=>?_;obtain⟨r,b4,cL⟩:=aj' (x:=x) (y:=y) be U az (df U x rfl bz.1) (df U y rfl bz.2)
    (λ⟨ax,aU⟩=>by
     obtain⟨⟨k,m⟩,ax⟩:=Option.isSome_iff_exists.1 ax;obtain⟨⟨k',eh⟩,aU⟩:=Option.isSome_iff_exists.1 aU;grind)
    (λ⟨ax,aU⟩=>by
     obtain⟨m,ax⟩:=Option.isSome_iff_exists.1 ax;obtain⟨eh,aU⟩:=Option.isSome_iff_exists.1 aU;grind)
   grind
theorem y0{w:World}{b:Nat}{cs:Array Value}{T:TypeId}{fU:Nat×Nat}(h:w.heap[b]?=some (.cells cs T fU))(off:Nat):w.cell? ⟨b,off,none⟩=cs[off]?:=by
 simp[World.cell?,h]
theorem VM{P:Program}{w:World}{t:aa}{id:TypeId}(h:cx P t id)(af:t.isAgg=false){p:Addr}{v:Value}(ab:w.cell? p=some v):(loadVar id p).run P w=.ok v w:=by
 simp[loadVar,Bu h,af,ab]
theorem VN(be:eO C.P T){ty:TypeId}{e6 v:aO}{u:Value}{a:Act}{w:World}{kap:Nat->bP}{F:Nat->Prop}(U:bH C s a w kap F)(h:(Br (T ty) e6).run s.W=some v)(al:bQ C.P s.W kap F w e6 u) :
  ∃ r,(Instr.loadAt ty u).run C.P w=.ok r w/\bQ C.P s.W kap F w v r:=by
 generalize rM:T ty=t at *
 cases e6 with
 | eI dL d=>
  simp only[Br,aM.dC]at h;split at h
  ·rename_i hc;obtain⟨rfl,hc⟩:=hc;simp  at h;subst h;obtain⟨p,bI,rfl,M,ai⟩:=al;have dT:=be.cv rM (by intro e;subst e;cases hc);obtain⟨r,b4,cL⟩:=Ng dT M.Nf ai;exact⟨r,by simp[Instr.loadAt,Instr.sureAddr,b4],cL⟩
  grind
 | aK b g off=>
  simp only[Br,aM.gV,aM.dC]at h;split at h
  ·rename_i aA;split at h
   ·rename_i t0 f ca;have ab:=al.2 aA.symm (by rw[ca];rfl);subst ab;have bd:=U.bR b;unfold cX at bd;rw[ca]at bd;obtain⟨cs,jh,bx,c2,c3⟩:=bd;split at h
    ·rename_i af;split at h
     ·rename_i Nk;simp  at h;subst h;have dT:=be.cv rM (by intro e;subst e;cases af);have If:t.isAgg=false:=by cases t<;>simp_all[aa.fE,aa.isAgg]
      refine⟨cs.getD off Go.undef,?_,(c3 off Nk).1⟩;refine VM dT If ?_;rw[y0 bx];simp_all
     grind
    ·split at h
     ·rename_i VO;split at h
      ·simp  at h;subst h;have dT:=be.cv rM (by intro e;subst e;cases VO);let aJ:=(List.range t.size).map λj=>cs.getD (off+j) Go.undef;refine⟨.agg aJ.toArray,?_,aJ,rfl,by grind,λi D=>?_⟩
       ·simp  [Instr.loadAt,Instr.sureAddr,loadVar,Bu dT,VO,dT.size];rw[run_loadCells w ⟨(kap b).W,off,none⟩ t.size (λj=>cs.getD (off+j) Go.undef)]
        ·rfl
        ·intro j aI;rw[w7,y0 bx];simp[c2,show off+j<t0.size by omega]
       grind
      grind
     grind
   ·rename_i t0 y ca;have ab:=al.2 aA.symm (by rw[ca];rfl);subst ab;have bd:=U.bR b;unfold cX at bd;rw[ca]at bd;obtain⟨bI,d1,d2⟩:=bd;split at h
    ·rename_i hc;simp  at h;obtain⟨z,bD,rfl⟩:=h;obtain⟨bx,c2,c3,rfl,dh,ee⟩:=Vw t0 d2 bD;have dT:=be.cv rM (by intro e;subst e;cases hc);have dt:lJ w ⟨(kap b).W,off,none⟩ c2:=by
      refine⟨λ_=>rfl,λj aI=>?_⟩;have:=d1.2.2 (bx.length+j) (by grind);grind
     obtain⟨r,b4,cL⟩:=Ng dT dt ee;exact⟨r,by simp[Instr.loadAt,Instr.sureAddr,b4],cL⟩
    grind
   grind
  grind
 | pV b g i off=>
  simp only[Br,aM.gV,aM.dC]at h;split at h
  ·rename_i aA;have fin:∀ (e:aa) (xs:List e.ak),(s.W b).body.gU=true->(s.W b).body.len=xs.length->(s.W b).body.ga=e.size->
     (∀ (D:i<xs.length),(kap b).fK=false->∃ bI,lJ w ⟨(kap b).W,(kap b).off+i*e.size,none⟩ bI/\cr C.P e F w bI xs[i])->
     (if t.fE||t.isAgg then (tW e (xs.getD i e.dK) off t).map (.val t) else none)=some v->∃ r,(Instr.loadAt ty u).run C.P w=.ok r w/\bQ C.P s.W kap F w v r:=by
    intro e xs br hlen Ig mg ab;split at ab
    ·rename_i hc;simp only[aKt]at ab;obtain⟨z,bD,rfl⟩:=ab;obtain⟨aY,a_,b7⟩:=al.2 aA.symm br;subst b7;rw[hlen]at aY;obtain⟨bI,d1,d2⟩:=mg aY a_;have Nl:xs.getD i e.dK=xs[i]:=by grind
     rw[Nl]at bD;obtain⟨bx,c2,c3,rfl,dh,ee⟩:=Vw e d2 bD;have dT:=be.cv rM (by intro e;subst e;cases hc);have dt:lJ w ⟨(kap b).W,(kap b).off+i*(s.W b).body.ga+off,none⟩ c2:=by
      refine⟨λ_=>rfl,λj aI=>?_⟩;have:=d1.2 (bx.length+j) (by grind);grind
     obtain⟨r,b4,cL⟩:=Ng dT dt ee;exact⟨r,by simp[Instr.loadAt,Instr.sureAddr,b4],cL⟩
    grind
   have bd:=U.bR b;unfold cX at bd;split at h
   ·rename_i e xs ca;rw[ca]at bd;refine fin e xs (by rw[ca];rfl) (by rw[ca];rfl) (by rw[ca];rfl) (λD aC=>?_) h;obtain⟨cs,jh,bx,c2,c3,c4,c5⟩:=bd.2 aC;obtain⟨bI,d1,d2⟩:=c5 i D;exact⟨bI,⟨λ_=>rfl,λj aI=>by rw[y0 bx];grind⟩,d2⟩
   ·rename_i e xs ca;rw[ca]at bd;refine fin e xs (by rw[ca];rfl) (by rw[ca];rfl) (by rw[ca];rfl) (λD aC=>?_) h;simp  [ma,bP.slice,aC,ajq]at bd;obtain⟨a',cap,ax,m1,m2,m3,m4⟩:=bd;obtain⟨rfl,_,rfl⟩:=ax;obtain⟨dI,dW,jM⟩:=m4 _ rfl (by omega);obtain⟨bI,d1,d2⟩:=jM i D;exact⟨bI,d1.Nf,d2⟩
   grind
  grind
 | _=>cases h
end
end Go.Fer
namespace Go.Fer
open Go.RowKit
section
variable {C:cB} {T:Nat->aa} {bK:Nat->Option aF} {o:Oper} {s:aE} {res:fb}
theorem akd(be:eO C.P T){ty:TypeId}{x:Operand}(bB:∀ i,o.dst=some i->i<C.b5)(au:o.op=.load ty x)(h:(cn C.a8 T bK (bs C.a8 s.aD) o).run s.W=some res):c8 C o s res:=by
 simp  [cn,au]at h;split at h
 ·rename_i c1 b g i al;simp  [VE,aM.dC]at h;split at h
  ·rename_i e xs ns v ca;split at h
   ·rename_i hc;obtain⟨aA,af⟩:=hc;simp  at h;subst h;refine c8.pure (by grind) bB λa w kap F U bz D=>?_;subst D;have E:=(df U x al bz).2 aA.symm (by rw[ca];rfl);have bd:=U.bR b;unfold cX at bd;rw[ca]at bd E;obtain⟨_,cs,jh,bx,c2,c3,c4,c5,oi,qR,y1⟩:=bd;have dT:=be.cv   rfl (by intro e;rw[e]at af;cases af);have If:(T ty).isAgg=false:=by cases aT:T ty<;>simp_all[aa.fE,aa.isAgg]
    refine⟨_,?_,qR⟩;have vv:w.cell? ⟨(kap b).W,(kap b).off+i,none⟩=some (cs.getD ((kap b).off+i) Go.undef):=by
     rw[y0 bx];have:(kap b).off+i<cs.size:=by
      grind
     simp_all
    have aq:a.eval x=.pointer (some ⟨(kap b).W,(kap b).off+i,none⟩):=by rw[E.2.2];simp[cf.ga,c5.1]
    simp[execOp,au,aq,Instr.loadAt,Instr.sureAddr,VM dT If vv]
   grind
  grind
 ·rename_i c1 e6 _ al;simp  [cQ,aM.fG,aji,ajk]at h;obtain⟨v,ab,rfl⟩:=h;refine c8.pure (by grind) bB λa w kap F U bz _=>?_;obtain⟨r,b4,cL⟩:=VN be U ab (df U x al bz);exact⟨r,by simp[execOp,au,b4],cL⟩
theorem cx.str{P:Program}{id:TypeId}(h:cx P .str id):P.underlying id=some .string:=by
 unfold cx at h;simp  [cZ]at h;grind
theorem cx.int{P:Program}{k:IntKind}{id:TypeId}(h:cx P (.int k) id):P.underlying id=some (.int k):=by
 unfold cx at h;simp  [cZ]at h;grind
theorem cx.bu{P:Program}{n:Nat}{e:aa}{id:TypeId}(h:cx P (.array n e) id):∃ i,P.underlying id=some (.array n i)/\cx P e i/\e.size≠0:=by
 unfold cx at h;simp  [cZ]at h;obtain⟨_,h⟩:=h;split at h
 ·rename_i m i hu;simp  at h;obtain⟨⟨rfl,M⟩,ai⟩:=h;exact⟨i,hu,M,ai⟩
 grind
theorem ake{gm:List (List Value)}{m:Nat}(h:∀ c∈gm,c.length=m){i:Nat}(D:i<gm.length):∃ p q,gm.flatten=p++(gm[i]++q)/\p.length=i*m:=by
 refine⟨(gm.take i).flatten,(gm.drop (i+1)).flatten,?_,?_⟩
 ·rw[<-List.flatten_cons,<-aJ9 D,<-List.flatten_append,aLr]
 ·have bf:(gm.take i).map List.length=List.replicate i m:=List.eq_replicate_iff.2 ⟨by grind,λx al=>by
   grind⟩
  simp_all
theorem Nn{P:Program}{n:Nat}{e:aa}{F:Nat->Prop}{w:World}{cs:List Value}{xs:List e.ak}(h:cr P (.array n e) F w cs xs){i:Nat}(D:i<n):∃ p c q,cs=p++(c++q)/\p.length=i*e.size/\cr P e F w c (xs.getD i e.dK):=by
 obtain⟨gm,rfl,E,M,ai⟩:=h;obtain⟨p,q,aY,a_⟩:=ake   (λc hc=>by
  obtain⟨j,aI,rfl⟩:=List.mem_iff_getElem.1 hc;exact jx e (ai j (by omega) aI)) (show i<gm.length by omega)
 grind
theorem akf(be:eO C.P T){ty:TypeId}{x i:Operand}(bB:∀ i,o.dst=some i->i<C.b5)(au:o.op=.index ty x i)(h:(cn C.a8 T bK (bs C.a8 s.aD) o).run s.W=some res):c8 C o s res:=by
 simp only[cn,au]at h;split at h
 ·rename_i l k n aT al D;simp only[cQ,aM.dC,ajk]at h;subst h;refine c8.pure (by grind) bB λa w kap F U bz hc=>?_;have E:=Nh (df U x rfl bz.1) al;have M:=p0 (df U i rfl bz.2) D;have dT:=(be.cv aT (by simp)).str;have cF:n.toNat<l.length:=by omega
  refine⟨.int .u8 ((l.getD n.toNat 0).toNat),?_,h'.2 ⟨rfl,?_⟩⟩
  ·have e:(⟨l.toArray⟩:ByteArray)[n.toNat]?=some (l.getD n.toNat 0):=by
    have az:=by simpa [ByteArray.size]using cF
    rw[getElem?_pos (⟨l.toArray⟩:ByteArray) n.toNat az];simp;show (⟨l.toArray⟩:ByteArray).data[n.toNat]=_;grind
   simp[execOp,au,Instr.index,E.1,M.1,asIntOf,ej dT,hc.1,e]
  ·have:=(l.getD n.toNat 0).toNat_lt;constructor
   ·have:IntKind.u8.min=0:=by decide
    omega
   ·have:IntKind.u8.max=255:=by decide
    omega
 ·rename_i m e k n aT D;split at h
  ·rename_i eh bt xs al;split at h
   ·rename_i he;obtain⟨rfl,rfl⟩:=he;simp  [cQ,ajk]at h;subst h;refine c8.pure (by grind) bB λa w kap F U bz hc=>?_;have E:bQ C.P s.W kap F w (use (bs C.a8 s.aD x)).2 (a.eval x):=df U x rfl bz.1;rw[al]at E;have M:=p0 (df U i rfl bz.2) D;obtain⟨j,aI,sV,_⟩:=(be.cv aT (by simp)).bu;obtain⟨⟨cs,ab,rL⟩,p3⟩:=E;rw[ab]at p3;obtain⟨p,c,q,ax,aU,cD⟩:=Nn p3 (i:=n.toNat) (by omega);obtain⟨v,g1,eB⟩:=sS sV (cs:=cs) ax cD;refine⟨v,?_,eB⟩;rw[aU]at g1;simp[execOp,au,Instr.index,ab,M.1,asIntOf,ej aI,hc.1,hc.2,sV.size,g1]
   ·cases h
  ·rename_i k' f al;split at h
   ·simp  [cQ,ajk]at h;subst h;refine c8.pure (by grind) bB λa w kap F U bz hc=>?_;have E:bQ C.P s.W kap F w (use (bs C.a8 s.aD x)).2 (a.eval x):=df U x rfl bz.1;rw[al]at E;have M:=p0 (df U i rfl bz.2) D;obtain⟨j,aI,sV,cY⟩:=(be.cv aT (by simp)).bu;obtain⟨aJ,ab,af,gl⟩:=E;have cF:n.toNat*e.size+e.size<=aJ.length:=by
     have:(n.toNat+1)*e.size<=m*e.size:=ajo _ (by omega);grind
    by_cases br:e.isAgg=true
    ·simp  [if_pos br];refine⟨_,by simp[execOp,au,Instr.index,ab,M.1,asIntOf,ej aI,hc.1,hc.2,sV.size,VH sV br];rfl,(aJ.toArray.extract (n.toNat*e.size) (n.toNat*e.size+e.size)).toList,by simp,?_,λq bM=>?_⟩<;>grind
    ·simp  [if_neg br];have bf:=gl (n.toNat*e.size) (by omega);refine⟨aJ.getD (n.toNat*e.size) Go.undef,?_,bf.1⟩;have aA:aJ.toArray[n.toNat*e.size]?=some (aJ.getD (n.toNat*e.size) Go.undef):=by
      grind
     simp[execOp,au,Instr.index,ab,M.1,asIntOf,ej aI,hc.1,hc.2,sV.size,VG sV (by grind) aA]
   ·cases h
  ·cases h
 ·cases h
theorem t_:∀ {l:List aO},ld l->∀ i,i<l.length->(use (l.getD i .undef)).1
 | [],_,i,D=>by grind
 | a::l,h,0,_=>by
  cases a<;>first | trivial | exact h.1
 | a::l,h,i+1,D=>by
  have eA:ld l:=by cases a<;>first | exact h | exact h.2
  have:=t_ eA i (by grind);grind
theorem akg{k:bP}{n:Nat}(h:k.fK=true->n=0):∃ a cap,k.slice n=.slice a n cap:=by
 unfold bP.slice;split<;>simp_all
theorem By{a:Act}{w:World}{kap:Nat->bP}{F:Nat->Prop}(U:bH C s a w kap F){b:Nat}(br:(s.W b).body.gU=true):((kap b).fK=true->(s.W b).body.len=0)/\(s.W b).body.len<2 ^ 63:=by
 have bd:=U.bR b;unfold cX at bd;cases ca:(s.W b).body with
 | bu e xs=>
  rw[ca]at bd;refine⟨λaC=>by rw[bd.1 aC];rfl,?_⟩;simp  [cf.len];cases aC:(kap b).fK with
  | true=>rw[bd.1 aC];simp
  | false=>obtain⟨cs,jh,bx,c2,c3,c4,c5⟩:=bd.2 aC;omega
 | iL e xs=>
  rw[ca]at bd;simp  [ma,cr,bP.slice]at bd;simp  [cf.len];grind
 | hJ e xs i v=>
  rw[ca]at bd;obtain⟨aZ,cs,jh,bx,c2,c3,c4,_⟩:=bd;exact⟨λaC=>(by grind),(by simp  [cf.len];omega)⟩
 | _=>rw[ca]at br;cases br
theorem No{a:Act}{w:World}{kap:Nat->bP}{F:Nat->Prop}(U:bH C s a w kap F){b:Nat}(br:(s.W b).body.gU=true)(aC:(kap b).fK=false):(s.W b).body.len<=(kap b).cap:=by
 have bd:=U.bR b;unfold cX at bd;cases ca:(s.W b).body with
 | bu e xs=>
  rw[ca]at bd;obtain⟨cs,jh,bx,c2,c3,c4,c5⟩:=bd.2 aC;exact c3
 | iL e xs=>
  rw[ca]at bd;simp only[ma,bP.slice,aC,ajq]at bd;obtain⟨a',cap,ax,m1,m2,m3,m4⟩:=bd;simp  at ax;simp  [cf.len];omega
 | hJ e xs i v=>
  rw[ca]at bd;obtain⟨aZ,cs,jh,bx,c2,c3,c4,_⟩:=bd;exact c3
 | _=>rw[ca]at br;cases br
theorem akh{a:Act}{w:World}{kap:Nat->bP}{F:Nat->Prop}(U:bH C s a w kap F){b bn D:Nat}(br:(s.W b).body.gU=true){v:Value}(E:bn<=D)(M:D<=(s.W b).body.len)(az:HX (kap b) (s.W b).body.ga bn D v) :
  ∃ a cap,v=.slice a (D - bn) cap/\D - bn<2 ^ 63:=by
 have aC:=By U br;rcases az with⟨aY,rfl⟩ | ⟨aY,o,rfl,_⟩
 ·simp_all
 grind
theorem En{n:Nat}(h:n<2 ^ 63):gS .i64 (n:Int):=by
 unfold gS;have E:IntKind.i64.min=-9223372036854775808:=by decide
 have M:IntKind.i64.max=9223372036854775807:=by decide
 omega
theorem cx.mp{P:Program}{k v:aa}{id:TypeId}(h:cx P (.map k v) id):∃ i j,P.underlying id=some (.map i j)/\cx P k i/\cx P v j:=by
 unfold cx at h;simp  [cZ]at h;obtain⟨_,h⟩:=h;split at h
 ·rename_i i j D;simp  at h;exact⟨i,j,D,h.1,h.2⟩
 grind
theorem aki(be:eO C.P T){t:TypeId}{e6:aO}{c:Prop}{n:Int}{u:Value}{a:Act}{w:World}{kap:Nat->bP}{F:Nat->Prop}(U:bH C s a w kap F)(h:(H0 (T t) e6).run s.W=some (c,n))(hc:c)(al:bQ C.P s.W kap F w e6 u)(ty:TypeId) :
  (Builtin.len_ #[t] ty #[u]).run C.P w=.ok (.int .i64 n) w/\gS .i64 n:=by
 have aGW:∀ e a' m cap,T t=.slice e->u=.slice a' m cap->m=n->m<2 ^ 63->(Builtin.len_ #[t] ty #[u]).run C.P w=.ok (.int .i64 n) w/\gS .i64 n:=by
  intro e a' m cap aT hu hm cF;obtain⟨i,D,_⟩:=(be.cv aT (by simp)).sl;subst hu;rw[<-hm];exact⟨by simp[Builtin.len_,ej D,goInt],En cF⟩
 have VP:∀ k v r es clk m,T t=.map k v->u=.map (some r)->w.heap[r]?=some (.map es clk)->es.size=m->m=n->bW m->(Builtin.len_ #[t] ty #[u]).run C.P w=.ok (.int .i64 n) w/\gS .i64 n:=by
  intro k v r es clk m aT hu hw qS hm cF;obtain⟨i,j,D,_⟩:=(be.cv aT (by simp)).mp;subst hu;rw[<-hm,<-qS];unfold bW at cF;refine⟨?_,En (by omega)⟩;simp[Builtin.len_,ej D,goInt,getObj,Sem.run,hw]
 unfold H0 at h;split at h
 ·split at h
  ·simp  at h;obtain⟨_,al⟩:=(eH rfl).1 al;obtain⟨a',cap,ax,m1,m2,m3,m4⟩:=al;grind
  ·simp  at h;simp  [bQ]at al;grind
  ·simp only[aM.gV,aM.dC]at h;split at h
   ·rename_i bD;simp  at bD;have ab:=al.2 bD.1.symm bD.2;have aC:=By U bD.2;obtain⟨a',cap,he⟩:=akg   aC.1;grind
   grind
  ·simp only[aM.gV,aM.dC]at h;split at h
   ·rename_i bD;simp  at bD;obtain⟨⟨aY,a_⟩,b7⟩:=al.2 bD.1.symm bD.2;obtain⟨a',cap,he,cF⟩:=akh U bD.2 aY a_ b7;grind
   grind
  ·cases h
 ·rename_i aT;split at h
  ·rename_i xs;simp  at h;obtain⟨rfl,cF⟩:=oc.1 al;have dT:=(be.cv aT (by simp)).str;rw[<-h.2];have az:ByteArray.size ⟨xs.toArray⟩=xs.length:=by rfl
   exact⟨by simp[Builtin.len_,ej dT,goInt,az],En (by omega)⟩
  ·cases h
 ·rename_i k v aT;split at h
  ·simp only[aM.dC,ajk,aJ8]at h;obtain⟨rfl,h⟩:=h;obtain⟨_,al⟩:=(eH rfl).1 al;rcases al with⟨ax,rfl⟩ | ⟨r,es,clk,ax,m1,m2,m3,_⟩
   ·obtain rfl:=(aKh ax).1;obtain⟨i,j,D,_⟩:=(be.cv aT (by simp)).mp;rw[<-h];exact⟨by simp[Builtin.len_,ej D,goInt],En (by simp)⟩
   grind
  ·rename_i b g;simp only[aM.gV,aM.dC]at h;split at h
   ·rename_i aA;split at h
    ·rename_i k' kk es ca;simp only[ajk,aJ8]at h;obtain⟨rfl,h⟩:=h;have bd:=U.bR b;unfold cX at bd;rw[ca]at bd;obtain⟨ms,clk,dh,ee⟩:=bd;exact VP k v _ ms clk es.length aT (al.2 aA.symm (by rw[ca];rfl)) dh ee.1 h hc
    ·rename_i k' kk es ca;simp only[ajk,aJ8]at h;obtain⟨rfl,h⟩:=h;have bd:=U.bR b;unfold cX at bd;rw[ca]at bd;rcases bd with⟨ax,_⟩ | ⟨r,ms,clk,ax,Eo,dh,ee,_⟩
     ·grind
     ·simp  at ax;subst ax;exact VP k v _ ms clk es.length aT (al.2 aA.symm (by rw[ca];rfl)) dh ee h hc
    grind
   grind
  ·cases h
 ·cases h
theorem y2{b:Builtin}{args:Array Operand}{dS:Array TypeId}{a:Act}{w w':World}{v:Value}(au:o.op=.call { callee:=.builtin b,args:=args,argTypes:=dS })
  (h:(builtin b dS o.type (args.map fun | .const _=>true | _=>false) (args.map a.eval)).run C.P w=.ok (.value v) w'):(execOp a.eval o).run C.P w=.ok (.value v) w':=by
 simp  [execOp,au,resolve,invoke];omega
theorem akj(be:eO C.P T){args:Array Operand}{dS:Array TypeId}(bB:∀ i,o.dst=some i->i<C.b5)(au:o.op=.call { callee:=.builtin .len,args:=args,argTypes:=dS })(h:(cn C.a8 T bK (bs C.a8 s.aD) o).run s.W=some res):c8 C o s res:=by
 obtain⟨args⟩:=args;obtain⟨dS⟩:=dS;simp  [cn,au,oe,Ea]at h;split at h
 ·rename_i x t;simp only[cQ,aM.fG,aji,aM.dC,ajk]at h;obtain⟨⟨c,n⟩,aC,rfl⟩:=h;refine c8.pure (by grind) bB λa w kap F U bz hc=>?_;obtain⟨E,M⟩:=aki be U aC hc (df U x rfl bz) o.type;refine⟨_,y2 au ?_,h'.2 ⟨rfl,M⟩⟩;simp[builtin,E]
 ·cases h
theorem akk(be:eO C.P T){args:Array Operand}{dS:Array TypeId}(bB:∀ i,o.dst=some i->i<C.b5)(au:o.op=.call { callee:=.builtin .cap,args:=args,argTypes:=dS })(h:(Ec T (bs C.a8 s.aD) args.toList dS.toList).run s.W=some res):c8 C o s res:=by
 obtain⟨args⟩:=args;obtain⟨dS⟩:=dS;simp  [Ec]at h;split at h
 ·rename_i x t;split at h
  ·rename_i e c1 aT hu;simp  [cQ,ajk]at h;subst h;refine c8.pure (by grind) bB λa w kap F U bz hc=>?_;have ab:a.eval x=.slice none 0 0:=df U x hu bz;obtain⟨i,D,_⟩:=(be.cv aT (by simp)).sl;refine⟨.int .i64 0,y2 au ?_,h'.2 ⟨rfl,by decide⟩⟩;simp[builtin,Builtin.cap_,ab,ej D,goInt]
  ·cases h
 ·cases h
theorem VQ{a:Act}{w:World}{kap:Nat->bP}{F:Nat->Prop}(U:bH C s a w kap F){k:IntKind}:∀ (l:List Operand) {cG:Prop} {iO:z1'},o' (bs C.a8 s.aD) k l=some (cG,iO)->cG->l.map a.eval=iO.map (Value.int k)/\∀ n∈iO,gS k n
 | [],_,_,h,_=>by cases h
 | [x],cG,iO,h,bz=>by
  simp  [o']at h;split at h
  ·rename_i k' n al;split at h
   ·cases h;have E:=p0 (df U x rfl bz) al;grind
   grind
  grind
 | x::y::l,cG,iO,h,bz=>by
  simp  [o']at h;split at h
  ·rename_i k' n aGX aGY al af;split at h
   ·cases h;have E:=p0 (df U x rfl bz.1) al;have M:=VQ U (y::l) af bz.2;grind
   grind
  grind
theorem Np{k:IntKind}:∀ (iO:z1') (m:Int),gS k m->(∀ n∈iO,gS k n)->((iO.map (Value.int k)).foldlM Builtin.min2 (Value.int k m)=pure (Value.int k (iO.foldl (λa b=>if b<a then b else a) m))/\gS k (iO.foldl (λa b=>if b<a then b else a) m))/\
  ((iO.map (Value.int k)).foldlM Builtin.max2 (Value.int k m)=pure (Value.int k (iO.foldl (λa b=>if b > a then b else a) m))/\gS k (iO.foldl (λa b=>if b > a then b else a) m))
 | [],m,h,_=>⟨⟨rfl,h⟩,rfl,h⟩
 | n::iO,m,h,af=>by
  have af:=λq bM=>af q (ajp n bM);have E:=(Np iO (if n<m then n else m) (by grind) af).1;have M:=(Np iO (if n > m then n else m) (by grind) af).2;refine⟨⟨?_,E.2⟩,?_,M.2⟩
  ·simp  [Builtin.min2];grind
  ·simp  [Builtin.max2];grind
theorem VR{b:Builtin}{f:Int->Int->Int}(V:(b=.min/\f=λa b=>if b<a then b else a)\/(b=.max/\f=λa b=>if b > a then b else a)){args:Array Operand}{dS:Array TypeId}(bB:∀ i,o.dst=some i->i<C.b5)
  (au:o.op=.call { callee:=.builtin b,args:=args,argTypes:=dS }) (h:(yW (bs C.a8 s.aD) f args.toList).run s.W=some res):c8 C o s res:=by
 obtain⟨args⟩:=args;simp  [yW]at h;split at h
 ·rename_i x y l;split at h
  ·rename_i k m al;split at h
   ·rename_i cG iO af;simp  [cQ,ajk]at h;subst h;refine c8.pure (by grind) bB λa w kap F U bz hc=>?_;have E:=p0 (df U x rfl bz.1) al;obtain⟨M,ai⟩:=VQ U (y::l) af bz.2;obtain⟨g1,eB⟩:=Np iO m E.2 ai;have fV:(x::y::l).map a.eval=Value.int k m::iO.map (Value.int k):=by grind
    refine⟨.int k (iO.foldl f m),y2 au ?_,h'.2 ⟨rfl,?_⟩⟩
    ·rcases V with⟨rfl,rfl⟩ | ⟨rfl,rfl⟩
     ·simp  [builtin,Builtin.min_,fV];simp_all
     ·simp  [builtin,Builtin.max_,fV];simp_all
    grind
   ·cases h
  ·cases h
 ·cases h
end
end Go.Fer
namespace Go.Fer
open Go.RowKit
def fU(H:Nat->b')(x:b'):b':=match x.body with
 | .bu e xs=>⟨x.gen,.iL e xs⟩
 | .mp k v es=>⟨x.gen,.ky k v es⟩
 | .cells t f=>match (kz t ((List.range t.size).map f)).run H with
  | some (y,_,[])=>⟨x.gen,.hR t y⟩
  | _=>x
 | _=>x
def aE.cV(s:aE)(l:List Nat):aE:=⟨s.aD,λi=>if i∈l then fU s.W (s.W i) else s.W i⟩
theorem VS(H:Nat->b'):∀ (l:List Nat) (s:aE),(∀ i∈l,s.W i=H i\/s.W i=fU H (H i))->s.hS ((kT l).run H)=⟨s.aD,λi=>if i∈l then fU H (H i) else s.W i⟩
 | [],s,_=>by
  rfl
 | b::l,s,h=>by
  simp only[kT,aM.gV,aM.run_bind];have key:∀ (s':aE),s'.aD=s.aD->s'.W b=fU H (H b)->(∀ i,i≠b->s'.W i=s.W i)->s'.hS ((kT l).run H)=⟨s.aD,λi=>if i∈b::l then fU H (H i) else s.W i⟩:=by
   intro s' ax aU cD;rw[VS H l s']<;>grind
  have iP:fU H (H b)=H b->s.hS ((kT l).run H)=⟨s.aD,λi=>if i∈b::l then fU H (H i) else s.W i⟩:=λe=>
   key s rfl (by grind) λ_ _=>rfl
  have put:∀ x,fU H (H b)=x->s.hS ((b,x)::(kT l).run H)=⟨s.aD,λi=>if i∈b::l then fU H (H i) else s.W i⟩:=λx e=>by
   exact key _ rfl (by simp[aE.c',e]) λi D=>by simp[aE.c',D]
  cases V:(H b).body with
  | bu e xs=>exact put _ (by simp[fU,V])
  | mp k v es=>exact put _ (by simp[fU,V])
  | cells t f=>
   simp only[aM.run_bind];cases aA:(kz t ((List.range t.size).map f)).run H with
   | none=>exact iP (by simp[fU,V,aA])
   | some z=>
    obtain⟨y,m,r⟩:=z;cases r with
    | nil=>exact put _ (by simp[fU,V,aA])
    | cons c r=>exact iP (by simp[fU,V,aA])
  | _=>exact iP (by simp[fU,V])
theorem vw(s:aE)(l:List Nat):s.hS ((kT l).run s.W)=s.cV l:=by
 rw[VS s.W l s λi _=>.inl rfl];rfl
theorem Ep:∀ (l:List (Nat×b')) (s:aE) (p:Nat×b'),s.hS (l++[p])=(s.hS l).c' p.1 p.2
 | [],_,_=>rfl
 | q::l,s,p=>by exact Ep l _ p
def cf.VT:cf->Bool | .cO _ _ _ _=>true | .hJ _ _ _ _=>true | _=>false
def h4(H:Nat->b')(l:List Nat):Prop:=∀ b∈l,(H b).body.VT=false/\∀ t f,(H b).body=.cells t f->∃ y m,(kz t ((List.range t.size).map f)).run H=some (y,m,[])/\∀ c∈m,c∈l
theorem h4.nil(H:Nat->b'):h4 H []:=λb V=>by grind
theorem h4.append{H:Nat->b'}{l m:List Nat}(h:h4 H l)(k:h4 H m):h4 H (l++m):=by
 intro b V;rcases List.mem_append.1 V with V | V
 ·obtain⟨E,M⟩:=h b V;grind
 ·obtain⟨E,M⟩:=k b V;grind
theorem h4.one{H:Nat->b'}{b:Nat}(E:(H b).body.VT=false)(M:(H b).body.gT=false):h4 H [b]:=by
 intro c hc;obtain rfl:=List.mem_singleton.1 hc;exact⟨E,λt f e=>by rw[e]at M;cases M⟩
theorem t'{H:Nat->b'}{t:aa}{av:aO}{x:t.ak}{l:List Nat}(h:(eJ t av).run H=some (x,l)):h4 H l:=by
 cases av with
 | val dL y=>
  simp  [eJ,aJ8]at h;obtain⟨z,bD,rfl,rfl⟩:=h;exact .nil H
 | bZ=>
  cases t<;>simp  [eJ,aM.none,aJ8]at h;obtain⟨rfl,rfl⟩:=h;exact .nil H
 | kP u=>
  simp  [eJ,aJ8]at h;obtain⟨z,bD,rfl,rfl⟩:=h;exact .nil H
 | eI dL y=>
  cases t<;>simp  [eJ,aM.none,aJ8]at h;obtain⟨z,bD,rfl,rfl⟩:=h;exact .nil H
 | own b g=>
  cases t<;>simp only[eJ,aM.none,aM.dC,aM.gV,reduceCtorEq]at h;split at h
  ·split at h
   ·rename_i V;simp  at h;obtain⟨z,bD,rfl,rfl⟩:=h;exact .one (by rw[V];rfl) (by rw[V];rfl)
   ·simp  at h;obtain⟨z,bD,rfl,rfl⟩:=h;exact .nil H
   grind
  grind
 | sub b g bn D=>
  cases t<;>simp only[eJ,aM.none,aM.dC,aM.gV,reduceCtorEq]at h;split at h
  ·split at h
   ·rename_i V;simp  at h;obtain⟨z,bD,rfl,rfl⟩:=h;exact .one (by rw[V];rfl) (by rw[V];rfl)
   ·simp  at h;obtain⟨z,bD,rfl,rfl⟩:=h;exact .nil H
   grind
  grind
 | gE b g=>
  cases t<;>simp only[eJ,aM.none,aM.dC,aM.gV,reduceCtorEq]at h;split at h
  ·split at h
   ·rename_i V;simp  at h;obtain⟨z,bD,rfl,rfl⟩:=h;exact .one (by rw[V];rfl) (by rw[V];rfl)
   ·simp  at h;obtain⟨z,bD,rfl,rfl⟩:=h;exact .nil H
   grind
  grind
 | jV k n c=>
  cases t<;>simp  [eJ,aM.none,reduceCtorEq]at h;split at h
  ·cases h;exact .nil H
  simp_all
 | _=>cases h
theorem VU{H:Nat->b'}{e:aa}(hs:∀ {cs:List aO} {x:e.ak} {l:List Nat} {r:List aO},(kz e cs).run H=some (x,l,r)->h4 H l){av:aO}{x:Option e.ak}{l:List Nat}
  (h:(vq e (kz e) av).run H=some (x,l)):h4 H l:=by
 have cK:(eJ (.bV e) av).run H=some (x,l)->h4 H l:=t';cases av with
 | aK b g off=>
  simp  [vq]at h;split at h
  ·split at h
   ·simp  at h;obtain⟨z,bD,rfl,rfl⟩:=h;exact .nil H
   ·rename_i t f V;split at h
    ·simp only[aM.fG,aji,aM.dC]at h;obtain⟨⟨y,m,q⟩,E,M⟩:=h;split at M
     ·obtain⟨rfl,rfl⟩:=M;intro c hc;rcases List.mem_cons.1 hc with rfl | hc
      ·refine⟨by rw[V];rfl,λdL j1 e=>?_⟩;grind
      ·obtain⟨aY,a_⟩:=hs E c hc;grind
     grind
    ·cases h
   ·cases h
  ·cases h
 | _=>exact cK h
theorem VV{H:Nat->b'}:∀ (t:aa) {cs:List aO} {x:t.ak} {l:List Nat} {r:List aO},(kz t cs).run H=some (x,l,r)->h4 H l:=by
 have rH:∀ (t:aa) (g:aO->aM (Option (t.ak×List Nat))),(∀ {av:aO} {x:t.ak} {l:List Nat},(g av).run H=some (x,l)->h4 H l)->
   ∀ {cs:List aO} {x:t.ak} {l:List Nat} {r:List aO},(match cs with | c::r=>(g c).map λo=>o.map λ(x,l)=>(x,l,r) | []=>.none:aM (Option (t.ak×List Nat×List aO))).run H=some (x,l,r)->h4 H l:=by
  intro t g aA cs x l r h;cases cs with
  | nil=>cases h
  | cons c cs=>
   simp  [aM.map,aM.run_bind,aJ8]at h;grind
 intro t;induction t with
 | bool=>intro cs x l r h;exact rH .bool (eJ .bool) t' h
 | int k=>intro cs x l r h;exact rH (.int k) (eJ (.int k)) t' h
 | str=>intro cs x l r h;exact rH .str (eJ .str) t' h
 | dp=>
  intro cs x l r h;obtain⟨_,rfl,rfl⟩:=h;exact .nil H
 | ae t aP=>intro cs x l r h;exact aP h
 | ar a b gD fy=>
  intro cs x l r h;simp only[kz,aM.fG,aji,aJ8]at h;obtain⟨⟨y,m,q⟩,E,⟨z,eh,q'⟩,M,rfl,rfl,rfl⟩:=h;exact (gD E).append (fy M)
 | slice e aP=>intro cs x l r h;exact rH (.slice e) (eJ (.slice e)) t' h
 | array n e aP=>
  intro cs xs l r h;simp  [kz]at h;have key:∀ (n:Nat) {cs:List aO} {xs:List e.ak} {l:List Nat} {r:List aO},(n.rec (motive:=λ_=>List aO->aM (Option (List e.ak×List Nat×List aO))) (λcs=>.ret (some ([],[],cs)))
     (λ_ aP cs=>(kz e cs).ev λ(x,l,r)=>(aP r).ev λ(xs,m,q)=>.ret (some (x::xs,l++m,q))) cs).run H=some (xs,l,r)->h4 H l:=by
   intro n;induction n with
   | zero=>intro cs xs l r h;cases h;exact .nil H
   | succ n D8=>
    intro cs xs l r h;simp only[aM.fG,aji,aJ8]at h;obtain⟨⟨y,m,q⟩,E,⟨z,eh,q'⟩,M,rfl,rfl,rfl⟩:=h;exact (aP E).append (D8 M)
  grind
 | bV e aP=>intro cs x l r h;exact rH (.bV e) (vq e (kz e)) (VU aP) h
 | map k v yK yL=>intro cs x l r h;exact rH (.map k v) (eJ (.map k v)) t' h
 | fn a b gD fy=>intro cs x l r h;exact rH (.fn a b) (eJ (.fn a b)) t' h
 | cO a aP=>intro cs x l r h;exact rH (.cO a) (eJ (.cO a)) t' h
 | e3=>intro cs x l r h;exact rH .e3 (eJ .e3) t' h
theorem oj{H:Nat->b'}{t:aa}{av:aO}{x:t.ak}{l:List Nat}(h:(eg t av).run H=some (x,l)):h4 H l:=by
 have cK:(lF t av).run H=some (x,l)->h4 H l:=by
  intro h;unfold lF at h;split at h
  ·exact VU (λh=>VV _ h) h
  ·split at h
   ·exact t' h
   ·cases h
 cases av with
 | val dL y=>
  simp  [eg,aJ8]at h;obtain⟨z,bD,rfl,rfl⟩:=h;exact .nil H
 | agg n f=>
  simp  [eg]at h;split at h
  ·cases h
  ·simp only[aM.fG,aji,aM.dC]at h;obtain⟨⟨y,m,q⟩,E,M⟩:=h;split at M
   ·obtain⟨rfl,rfl⟩:=M;exact VV t E
   grind
 | _=>exact cK h
theorem Bz(H:Nat->b')(x:b'):fU H x=x\/(∃ e xs,x.body=.bu e xs/\fU H x=⟨x.gen,.iL e xs⟩)\/(∃ k v es,x.body=.mp k v es/\fU H x=⟨x.gen,.ky k v es⟩)\/
  ∃ t f y m,x.body=.cells t f/\(kz t ((List.range t.size).map f)).run H=some (y,m,[])/\fU H x=⟨x.gen,.hR t y⟩:=by
 cases al:x.body with
 | bu e xs=>exact .inr (.inl ⟨e,xs,rfl,by simp[fU,al]⟩)
 | mp k v es=>exact .inr (.inr (.inl ⟨k,v,es,rfl,by simp[fU,al]⟩))
 | cells t f=>
  cases aA:(kz t ((List.range t.size).map f)).run H with
  | none=>exact .inl (by simp[fU,al,aA])
  | some z=>
   obtain⟨y,m,r⟩:=z;cases r with
   | nil=>exact .inr (.inr (.inr ⟨t,f,y,m,rfl,aA,by simp[fU,al,aA]⟩))
   | cons c r=>exact .inl (by simp[fU,al,aA])
 | _=>exact .inl (by simp[fU,al])
theorem akl{H:Nat->b'}{x:b'}{k:bP}(h:(fU H x).body.cq k=true):(x.body.cq k=true/\fU H x=x):=by
 rcases Bz H x with e | ⟨_,_,_,e⟩ | ⟨_,_,_,_,e⟩ | ⟨_,_,_,_,_,_,e⟩
 ·grind
 all_goals rw[e]at h;cases h
theorem VW(s:aE)(l:List Nat)(kap:Nat->bP):gb s.W kap (s.cV l).W kap:=by
 rw[M5];intro b;simp  [aE.cV];split
 ·rcases Bz s.W (s.W b) with e | ⟨_,_,al,e⟩ | ⟨_,_,_,al,e⟩ | ⟨_,_,_,_,al,_,e⟩
  ·rw[e];exact rG.refl _ _
  ·rw[e];exact⟨ajn _,λ_=>⟨λh=>(by cases h),λ_=>⟨by rw[al];rfl,rfl,by rw[al];rfl,by rw[al];rfl⟩,λh=>(by cases h),λh=>(by cases h)⟩⟩
  ·rw[e];exact⟨ajn _,λ_=>⟨λh=>(by cases h),λh=>(by cases h),λ_=>⟨by rw[al];rfl,rfl⟩,λh=>(by cases h)⟩⟩
  ·rw[e];exact⟨ajn _,λ_=>⟨λ_=>⟨by rw[al];rfl,rfl⟩,λh=>(by cases h),λh=>(by cases h),λh=>(by cases h)⟩⟩
 ·exact rG.refl _ _
theorem bH.mJ{C:cB}{a:Act}{w:World}{kap:Nat->bP}{l:List Nat}{s:aE}{F:Nat->Prop}(om:h4 s.W l)(h:bH C s a w kap F) :
  ∃ F',(∀ r,F r->F' r)/\bH C (s.cV l) a w kap F'/\kl s.W kap F' l:=by
 let F':=λr=>F r\/∃ b∈l,(s.W b).body.cq (kap b)=true/\(kap b).W=r;have bF:∀ r,F r->F' r:=λr U=>.inl U;have vx:kl s.W kap F' l:=λb V au=>.inr ⟨b,V,au,rfl⟩;have Nq:∀ b,((s.cV l).W b).body.cq (kap b)=true->b ∉ l/\(s.W b).body.cq (kap b)=true:=by
  intro b V;simp  [aE.cV]at V;by_cases jz:b∈l
  ·rw[if_pos jz]at V;obtain⟨aY,a_⟩:=akl V;obtain⟨bx,c2⟩:=om b jz;cases al:(s.W b).body with
   | bu e xs=>simp[fU,al,cf.cq]at V
   | mp k v es=>simp[fU,al,cf.cq]at V
   | cells t f=>
    obtain⟨y,m,g,_⟩:=c2 t f al;simp[fU,al,g,cf.cq]at V
   | cO k v c r=>rw[al]at bx;cases bx
   | hJ e xs i v=>rw[al]at bx;cases bx
   | _=>rw[al]at aY;cases aY
  grind
 have af:=VW s l kap;refine⟨F',bF,?_,vx⟩;refine h.move af bF (λr U=>U.imp id λ⟨b,_,E,M⟩=>.inl ⟨b,E,M⟩) (ajn _) (λ_ _ _=>rfl) (dP.refl _) (λ_ b=>?_) (λb V=>?_) (λb bl V da e=>h.inj b bl (Nq b V).2 (Nq bl da).2 e) (λr U=>?_) (λb _ V=>⟨rfl,?_⟩)
 ·show cX C.P (s.cV l).W kap F' w b;by_cases jz:b∈l
  ·have bd:=h.bR b;have Nr:(s.cV l).W b=fU s.W (s.W b):=by simp[aE.cV,jz]
   have mG:fU s.W (s.W b)=s.W b->cX C.P (s.cV l).W kap F' w b:=λe=>cX.mG bd af bF (dy.refl _ _) (by grind) rfl λ_=>rfl;cases al:(s.W b).body with
   | bu e xs=>
    unfold cX at bd ⊢;rw[al]at bd;rw[Nr];simp  [fU,al];exact M8 bd bF λaC=>vx b jz (by rw[al];simp[cf.cq,aC])
   | mp k v es=>
    unfold cX at bd ⊢;rw[al]at bd;rw[Nr];simp  [fU,al];exact Vt bd bF (vx b jz (by rw[al];rfl))
   | cells t f=>
    obtain⟨y,m,g,hm⟩:=(om b jz).2 t f al;unfold cX at bd ⊢;rw[al]at bd;rw[Nr];simp  [fU,al,g];obtain⟨cs,T,aY,a_,b7⟩:=bd;have jY:e8 C.P s.W kap F w ((List.range t.size).map f) cs.toList:=D7 (by omega) λi D=>by
     simp_all
    obtain⟨c,d,ajM,bx,c2⟩:=M_ h.bR bF t g (λc hc=>vx c (hm c hc)) jY;cases d with
    | cons _ _=>exact c2.elim
    | nil=>
     refine⟨c,⟨vx b jz (by rw[al];rfl),rfl,λj aI=>?_⟩,bx⟩;have h2:j<cs.size:=by grind
     simp  [World.cell?,Array.getElem?_eq_getElem h2];grind
   | _=>exact mG (by simp[fU,al])
  ·exact cX.mG (h.bR b) af bF (dy.refl _ _) (by simp[aE.cV,jz]) rfl λ_=>rfl
 ·obtain⟨aY,a_⟩:=Nq b V;have au:=h.own b a_;refine⟨au.1,λaw=>?_,.inl ⟨b,a_,rfl⟩⟩;rcases aw with aw | ⟨b0,m1,m2,m3⟩
  ·grind
  ·exact aY (h.inj b b0 a_ m2 m3.symm ▸ m1)
 ·rcases U with U | ⟨b,_,V,rfl⟩
  ·exact h.dH r U
  ·exact (h.own b V).1
 ·split at V
  ·rcases Bz s.W (s.W b) with e | ⟨_,_,al,e⟩ | ⟨_,_,_,al,e⟩ | ⟨_,_,_,_,al,_,e⟩
   ·grind
   ·rw[e]at V;simp[cf.gT,cf.ib]at V
   ·rw[al];exact .inr rfl
   ·rw[al];exact .inl rfl
  omega
section
variable {C:cB} {T:Nat->aa} {bK:Nat->Option aF} {o:Oper} {s:aE} {res:fb}
theorem bH.fB{a:Act}{w:World}{kap:Nat->bP}{F:Nat->Prop}(h:bH C s a w kap F){b:Nat}(V:b<C.b5):b<fF:=aJ' V h.hq
theorem bH.newVar{a:Act}{w:World}{kap:Nat->bP}{F:Nat->Prop}(h:bH C s a w kap F){b:Nat}(Bl:b<fF){t:aa}{l:List aO}{cs:List Value}{ty:TypeId}(af:e8 C.P s.W kap F w l cs)(aT:l.length=t.size) :
  ∃ bX,bH C (s.c' b ⟨(s.W b).gen+1,.cells t (ig l)⟩) a (w.alloc (.cells cs.toArray ty)) bX F/\(bX b).W=w.heap.size:=by
 refine⟨_,h.alloc (k:=⟨w.heap.size,0,0,false⟩) Bl (aKM _) rfl λH bX oo D5 cF=>?_,by simp⟩;refine⟨cs.toArray,ty,sM _ _,by simp[<-af.len,aT],λi D=>?_⟩;have:=af.mc i (by omega);have e:cs.toArray.getD i Go.undef=cs.getD i Go.undef:=by simp
 rw[e];exact⟨bQ.later cF (λ_ U=>U) (dy.alloc h.dH _) this.1,this.2⟩
theorem Er(t:aa){P:Program}{z:Value}(h:lG t z.cells.toList=some []):(tV t).length=t.size/\z.cells.size=t.size:=by
 obtain⟨c,e,E,M⟩:=w4 (P:=P) (H:=λ_=>⟨0,.gp⟩) (kap:=λ_=>⟨0,0,0,true⟩) (F:=λ_=>True) (w:=default) t h;rw[aKg]at e;have:=jx t E;have:=M.len;grind
theorem akm(be:eO C.P T){ty:TypeId}(bB:∀ i,o.dst=some i->i<C.b5)(au:o.op=.alloc ty)(h:(cn C.a8 T bK (bs C.a8 s.aD) o).run s.W=some res)(rM:T ty≠.dp):c8 C o s res:=by
 simp only[cn,au]at h;obtain⟨b,an,ah⟩:=sU h;simp only[if_neg rM,ajk]at ah;subst ah;intro a w kap F Q U _ _;have dT:=be.cv rfl rM;obtain⟨i,z,E,M,ai,bf,b2,d_⟩:=np dT.nn;obtain⟨c,e,iQ,z2⟩:=w4 (P:=C.P) (H:=s.W) (kap:=kap) (F:=F) (w:=w) (T ty) b2;rw[aKg]at e;have bD:=Er (T ty) (P:=C.P) b2;obtain⟨bX,b4,cL⟩:=U.newVar (b:=b) (U.fB (bB b an)) (t:=T ty) (ty:=ty) z2 bD.1;have dD:(execOp a.eval o).run C.P w=.ok (.value (.pointer (some ⟨w.heap.size,0,none⟩))) (w.alloc (.cells c.toArray ty)):=by
  have BA:z.cells=c.toArray:=by grind
  simp[execOp,au,Instr.alloc,sR E bf,newVar,newRow,BA]
 refine iw (by grind) dD ⟨bX,F,bH.set (s:=s.c' b _) b4 bB ⟨⟨?_,rfl⟩,λ_ _=>?_⟩⟩
 ·simp[aE.c']
 grind
theorem Ns{P:Program}{H:Nat->b'}{kap:Nat->bP}{F:Nat->Prop}{w:World}{t:aa}{av:aO}{v:Value}{l:List aO}(h:cellsOf t av=some l)(ab:bQ P H kap F w av v):e8 P H kap F w l v.cells.toList:=by
 unfold cellsOf at h;split at h
 ·rename_i dL x;split at h
  ·rename_i he;subst he;simp only[ajk]at h;subst h;obtain⟨⟨cs,rfl,_⟩,hc⟩:=ab;simp only[cr]at hc;exact Bo _ hc
  grind
 ·rename_i n f;split at h
  ·simp only[ajk]at h;subst h;obtain⟨aJ,rfl,E,M⟩:=ab;exact D7 E M
  grind
 ·rename_i n e kn bt x;split at h
  ·simp only[ajk]at h;subst h;obtain⟨⟨cs,rfl,_⟩,hc⟩:=ab;exact Bo _ hc
  grind
 ·rename_i n e m f;split at h
  ·simp only[ajk]at h;subst h;obtain⟨aJ,rfl,E,M⟩:=ab;exact D7 E M
  grind
 ·split at h
  ·have one:v.oneCell'=true->l=[av]->e8 P H kap F w l v.cells.toList:=by
    intro E M;subst M;rw[HS E];exact⟨⟨ab,E⟩,trivial⟩
   split at h
   ·rename_i dL x;split at h
    ·rename_i Bw;obtain⟨aY,a_⟩:=(eH Bw).1 ab;exact one (M4 Bw a_) (aKI h).symm
    grind
   ·exact one ab.1.2 (aKI h).symm
   ·exact one ab.1.2 (aKI h).symm
   ·exact one ab.1.2 (aKI h).symm
   ·refine one ?_ (aKI h).symm;obtain⟨p,bI,rfl,_⟩:=ab;rfl
   ·exact one ab.1.2 (aKI h).symm
   ·refine one ?_ (aKI h).symm;obtain⟨aJ,rfl,_⟩:=ab;rfl
   ·refine one ?_ (aKI h).symm;simp only[bQ]at ab;subst ab;rfl
   ·exact one ab.1.2 (aKI h).symm
   ·cases h
   ·cases h
   ·refine one ?_ (aKI h).symm;simp only[bQ]at ab;subst ab;cases v<;>first | rfl | grind | grind | grind | grind
   grind
  grind
end
end Go.Fer
namespace Go.Fer
open Go.RowKit
theorem Ih:∀ (l:List Value) (k off:Nat) (cs:Array Value),off+k+l.length<=cs.size->
  ((l.zipIdx k).foldl (λ(cs:Array Value) (p:Value×Nat)=>cs.setIfInBounds (off+p.2) p.1) cs).toList=cs.toList.take (off+k)++(l++cs.toList.drop (off+k+l.length))
 | [],k,off,cs,h=>by simp
 | c::l,k,off,cs,h=>by
  simp;rw[Ih l (k+1) off _ (by grind)];simp  at h ⊢;have cF:off+k<cs.toList.length:=by grind
  rw[List.take_set,List.drop_set];have E:(cs.toList.take (off+k+1)).set (off+k) c=cs.toList.take (off+k)++[c]:=by
   rw[List.take_succ_eq_append_getElem cF];have Ii:min (off+k) cs.size=off+k:=Nat.min_eq_left (by omega);simp_all
  grind
section
variable {P:Program} {w:World}
theorem akn(w:World)(b off:Nat)(v:Value){cs:Array Value}{T:TypeId}{fU:Nat×Nat}(h:w.heap[b]?=some (.cells cs T fU)) :
  (w.setCell ⟨b,off,none⟩ v).heap[b]?=some (.cells (cs.setIfInBounds off v) T fU):=by
 simp[World.setCell,Array.getElem?_modify,h]
theorem w9{b:Nat}{T:TypeId}:∀ (aJ:List Value) (off i:Nat) (w:World) (cs:Array Value),w.heap[b]?=some (.cells cs T (0,0))->off+i+aJ.length<=cs.size->(∀ v∈aJ,v.oneCell'=true)->
  ∃ w' ef,(storeCells ⟨b,off,none⟩ aJ i).run P w=.ok () w'/\w'.heap[b]?=some (.cells ef T (0,0))/\ef.toList=cs.toList.take (off+i)++(aJ++cs.toList.drop (off+i+aJ.length))/\
   (∀ r,r≠b->w'.heap[r]?=w.heap[r]?)/\w'.heap.size=w.heap.size/\dP w w'
 | [],off,i,w,cs,h,_,_=>⟨w,cs,by rfl,h,by simp,λ_ _=>rfl,rfl,dP.refl w⟩
 | v::aJ,off,i,w,cs,h,af,ab=>by
  have cF:off+i<cs.size:=by grind
  have hc:w.cell? ⟨b,off+i,none⟩=some cs[off+i]:=by rw[y0 h];simp
  have aw:w.frozen? ⟨b,off+i,none⟩=false:=by simp[World.frozen?,h]
  have E:=akn w b (off+i) v h;obtain⟨w',ef,b4,cL,e7,mK,kV,nT⟩:=w9 aJ off (i+1) (w.setCell ⟨b,off+i,none⟩ v) _ E (by grind) (λu hu=>ab u (by grind));refine⟨w',ef,?_,cL,?_,?_,by simp_all,dP.trans (b:=w.setCell ⟨b,off+i,none⟩ v) ⟨rfl,rfl,rfl⟩ nT⟩
  ·simp  [storeCells,w7,run_store P w _ v _ (ab v (by simp)),hc,aw,Result.andThen_ok];omega
  ·rw[e7];have:=Ih [v] 0 (off+i) cs (by grind);simp only[List.zipIdx_cons,List.zipIdx_nil,aKd,List.foldl_nil,Nat.add_zero]at this;rw[this];have ax:(cs.toList.take (off+i)).length=off+i:=by grind
   rw[List.take_append,List.drop_append,ax];simp only[show off+(i+1) - (off+i)=1 from by omega,show off+(i+1)+aJ.length - (off+i)=aJ.length+1 from by omega];have cD:List.drop (off+(i+1)+aJ.length) (cs.toList.take (off+i))=[]:=List.drop_of_length_le (by omega);simp;grind
  ·intro r U;rw[mK r U];exact Below.heap_setCell _ _ _ _ (by omega)
end
section
variable {C:cB} {T:Nat->aa} {bK:Nat->Option aF} {o:Oper} {s:aE} {res:fb}
theorem ako{ty:TypeId}{x:Operand}(bB:∀ i,o.dst=some i->i<C.b5)(au:o.op=.box ty x)(h:(cn C.a8 T bK (bs C.a8 s.aD) o).run s.W=some res):c8 C o s res:=by
 simp  [cn,au]at h;split at h
 ·rename_i l af;obtain⟨b,an,ah⟩:=sU h;split at ah;case isFalse=>grind
  rename_i hlen;simp  at ah;subst ah;intro a w kap F Q U bz _;have ab:=df U x rfl bz;obtain⟨bX,b4,cL⟩:=U.newVar   (U.fB (bB b an))     (Ns af ab) hlen;have dD:(execOp a.eval o).run C.P w=.ok (.value (.pointer (some ⟨w.heap.size,0,none⟩))) (w.alloc (.cells (a.eval x).cells.toList.toArray ty)):=by
   simp[execOp,au,Instr.box,newVar,newRow]
  refine iw (by grind) dD ⟨bX,F,bH.set   b4 bB ⟨⟨?_,rfl⟩,λ_ _=>?_⟩⟩
  ·simp[aE.c']
  grind
 ·cases h
theorem akp{P:Program}:∀ (t:aa) {l:List Field} {off:Nat},cZ P t (.inr (l,off))=true->∀ f∈l,∃ s,cx P s f.type:=by
 intro t;induction t with
 | ar a b gD fy=>
  intro l off h;match l,h with
  | [],h=>simp
  | [x],h=>simp  [cZ]at h
  | [x,y],h=>
   simp  [cZ]at h;intro f aw;simp  at aw;rcases aw with rfl | rfl
   ·exact⟨a,h.1.1.1.2⟩
   ·exact⟨b,h.2.1.1.2⟩
  | x::y::z::l,h=>
   simp  [cZ]at h;intro f aw;rcases List.mem_cons.1 aw with rfl | aw
   ·exact⟨a,h.1.1.1.2⟩
   grind
 | _=>intro l off h;simp only[cZ,ajh]at h
theorem cx.akq{P:Program}{t:aa}{id:TypeId}(h:cx P (.ae t) id){fA:Array Field}(kC:P.underlying id=some (.struct fA)):∀ f∈fA.toList,∃ s,cx P s f.type:=by
 obtain⟨_,_,ai,bf⟩:=h.Eh;rw[kC]at bf;simp  at bf;rw[<-bf]at ai;rcases ai with ai | ⟨f,e,_,ai,_⟩ | ⟨_,e⟩
 ·exact akp t ai
 ·grind
 grind
theorem e8.replace{P:Program}{H:Nat->b'}{kap:Nat->bP}{F:Nat->Prop}{w:World}{as l:List aO}{us aJ:List Value}(h:e8 P H kap F w as us)(k:e8 P H kap F w l aJ)(off:Nat) :
  e8 P H kap F w (as.take off++(l++as.drop (off+l.length))) (us.take off++(aJ++us.drop (off+aJ.length))):=by
 have Es:∀ {as:List aO} {us:List Value} (n:Nat),e8 P H kap F w as us->e8 P H kap F w (as.take n) (us.take n):=by
  intro as;induction as with
  | nil=>intro us n h;cases us<;>first | exact h.elim | grind
  | cons a as aP=>intro us n h;cases us with
   | nil=>exact h.elim
   | cons u us=>cases n with
    | zero=>trivial
    | succ n=>exact⟨h.1,aP n h.2⟩
 have akr:∀ {as:List aO} {us:List Value} (n:Nat),e8 P H kap F w as us->e8 P H kap F w (as.drop n) (us.drop n):=by
  intro as;induction as with
  | nil=>intro us n h;cases us<;>first | exact h.elim | grind
  | cons a as aP=>intro us n h;cases us with
   | nil=>exact h.elim
   | cons u us=>cases n with
    | zero=>grind
    | succ n=>exact aP n h.2
 rw[<-k.len];exact (Es off h).append (k.append (akr _ h))
theorem VX{P:Program}{H:Nat->b'}{kap:Nat->bP}{F:Nat->Prop}{w:World}{t:aa}{id:TypeId}{fA:Array Field}(dT:cx P (.ae t) id)(kC:P.underlying id=some (.struct fA)){place:Nat->Option (Nat×Nat)}
  (ua:∀ i f s,fA[i]?=some f->cx P s f.type->place i=some (f.offset,s.size)):∀ (bw:List (Nat×aO)) (hT:List (Nat×Value)) {as Ij:List aO} {cs:Array Value},e8 P H kap F w as cs.toList->H2 t as bw=some Ij->
  bw.length=hT.length->(∀ i (h:i<bw.length) (eA:i<hT.length),bw[i].1=hT[i].1/\bQ P H kap F w bw[i].2 hT[i].2)->∃ ef,Instr.fill place cs hT=some ef/\e8 P H kap F w Ij ef.toList
 | [],[],as,Ij,cs,br,aw,_,_=>by cases aw;exact⟨cs,rfl,br⟩
 | (i,av)::bw,(ns,v)::hT,as,Ij,cs,br,aw,hlen,gl=>by
  have aZ:=gl 0 (by simp) (by simp);simp  at aZ;obtain⟨rfl,ab⟩:=aZ;simp  [H2]at aw;split at aw
  ·grind
  ·rename_i s off vy;split at aw
   ·grind
   ·rename_i l af;split at aw
    ·rename_i hc;obtain⟨aGZ,pb,f1,f2,f3,f4,f5⟩:=dT.field vy;rw[kC]at f1;simp  at f1;subst f1;have aq:=ua i pb s f2 f4;rw[f3]at aq;have jY:=Ns af ab;have cY:v.cells.size=s.size:=by have:=jY.len;grind
     have rL:=by simpa using br.len
     have Ik:=Ih v.cells.toList 0 off cs (by grind);have e:(v.cells.zipIdx.foldl (λcs p=>cs.setIfInBounds (off+p.2) p.1) cs)=((v.cells.toList.zipIdx 0).foldl (λcs p=>cs.setIfInBounds (off+p.2) p.1) cs):=by
      rw[<-Array.foldl_toList];simp
     have aks:=br.replace jY off;rw[hc.1]at aks;obtain⟨ef,aY,a_⟩:=VX dT kC ua bw hT (cs:=v.cells.zipIdx.foldl (λcs p=>cs.setIfInBounds (off+p.2) p.1) cs) (by rw[e,Ik];omega) aw (by grind)
      (λj h eA=>by have:=gl (j+1) (by grind) (by grind);grind)
     simp  [Instr.fill];grind
    grind
 | [],_::_,_,_,_,_,_,hlen,_=>by grind
 | _::_,[],_,_,_,_,_,hlen,_=>by grind
theorem VY:∀ {l:List (Nat×aO)},w5 l->∀ i (h:i<l.length),(use l[i].2).1
 | a::l,h,0,_=>by
  obtain⟨n,a⟩:=a;cases a<;>first | trivial | exact h.1
 | a::l,h,i+1,D=>by
  have eA:=by obtain⟨n,a⟩:=a;cases a<;>first | exact h | exact h.2
  have:=VY eA i (by grind);grind
theorem Nt{a:Act}{w:World}{kap:Nat->bP}{F:Nat->Prop}(U:bH C s a w kap F)(bw:List (Nat×Operand))(bz:w5 (bw.map λp=>(p.1,bs C.a8 s.aD p.2))) :
  ∀ i (h:i<(kU (bw.map λp=>(p.1,bs C.a8 s.aD p.2))).length) (eA:i<(bw.map λp=>(p.1,a.eval p.2)).length),(kU (bw.map λp=>(p.1,bs C.a8 s.aD p.2)))[i].1=(bw.map λp=>(p.1,a.eval p.2))[i].1/\bQ C.P s.W kap F w (kU (bw.map λp=>(p.1,bs C.a8 s.aD p.2)))[i].2 (bw.map λp=>(p.1,a.eval p.2))[i].2:=by
 intro i h eA;have E:=VY bz i (by grind);simp  at E;simp  [kU];exact qQ (lf U _) E
theorem akt(be:eO C.P T){ty:TypeId}{bw:Array (Nat×Operand)}(bB:∀ i,o.dst=some i->i<C.b5)(au:o.op=.build ty bw)(Nu:∀ m e,T ty≠.array m e)(h:(cn C.a8 T bK (bs C.a8 s.aD) o).run s.W=some res):c8 C o s res:=by
 obtain⟨bw⟩:=bw;simp only[cn,au]at h;split at h
 ·rename_i t aT;have dT:=be.cv aT (by simp);split at h
  ·rename_i cs rL;simp only[cQ,aM.dC,ajk]at h;subst h;refine c8.pure (by grind) bB λa w kap F U bz _=>?_;obtain⟨fA,kC⟩:=dT.ae;obtain⟨i,z,E,M,ai,bf,b2,d_⟩:=np dT.nn;obtain⟨c,e,iQ,z2⟩:=w4 (P:=C.P) (H:=s.W) (kap:=kap) (F:=F) (w:=w) (.ae t) b2;rw[aKg]at e;have aku:=dT.akq kC;have hm:=ChangeMaps.mapM_total (f:=λ(f:Field)=>(C.P.info? f.type).map λi=>(f.offset,i.size)) (0,0) (l:=fA.toList) (λf aw=>by
    obtain⟨s',w_⟩:=aku f aw;obtain⟨ns,_,BB,_⟩:=np w_.nn;simp_all)
   have ua:=run_places (P:=C.P) w fA.toList _ hm;obtain⟨ef,aY,a_⟩:=VX (w:=w) dT kC (place:=λj=>((fA.toList.map λf=>((C.P.info? f.type).map λi=>(f.offset,i.size)).getD (0,0)))[j]?)
    (λj f s' aI w_=>by
     obtain⟨ns,_,BB,y3,_⟩:=np w_.nn;grind)
    _ _ (by rw[e];exact z2) rL (by simp[kU]) (Nt U bw bz)
   have hlen:=by simpa using a_.len
   refine⟨.agg ef,?_,ef.toList,by simp,by grind,λj aI=>?_⟩
   ·have akv:(fA.mapM λf=>do pure (f.offset,<-sizeOf f.type):Sem (Array (Nat×Nat))).run C.P w=.ok (fA.toList.map λf=>((C.P.info? f.type).map λi=>(f.offset,i.size)).getD (0,0)).toArray w:=by
     rw[Array.mapM_eq_mapM_toList];simp_all
    simp  [execOp,au,Instr.build,sR E bf,ej kC];simp_all
   ·have:=a_.mc j aI;omega
  ·cases h
 ·grind
 ·cases h
end
end Go.Fer
namespace Go.Fer
open Go.RowKit
section
variable {C:cB} {T:Nat->aa} {bK:Nat->Option aF} {o:Oper} {s:aE} {res:fb}
theorem Nv{P:Program}{w w':World}{t:aa}{id:TypeId}(h:cx P t id){p:Addr}{v:Value}(cY:v.cells.size=t.size)(az:(storeCells p v.cells.toList).run P w=.ok () w'):(storeVar id p v).run P w=.ok () w':=by
 simp[storeVar,h.size,cY,az]
theorem akw(be:eO C.P T){ty:TypeId}{x y:Operand}(bB:o.dst=none)(au:o.op=.store ty x y)(h:(cn C.a8 T bK (bs C.a8 s.aD) o).run s.W=some res):c8 C o s res:=by
 simp only[cn,au]at h;split at h
 ·rename_i c1 b g i al;unfold Nc at h;split at h
  ·rename_i bl g' bh;simp only[aM.gV,aM.dC]at h;split at h
   ·rename_i e xs ns v ca;split at h
    ·rename_i hc;obtain⟨aA,af⟩:=hc;simp only[ajk]at h;subst h;intro a w kap F Q U bz D;have D:i=ns:=D;subst D;have E:=(df U x al bz.1).2 aA.symm (by rw[ca];rfl);have ab:=df U y (av:=.own bl g') (p:=(use (bs C.a8 s.aD y)).1) (by rw[<-bh]) bz.2;have bd:=U.bR b;unfold cX at bd;rw[ca]at bd E;obtain⟨aZ,cs,jh,bx,c2,c3,c4,c5,oi,qR,y1⟩:=bd;have dT:=be.cv (t:=T ty) rfl (by intro e;rw[e]at af;cases af);have vv:=HS ab.1.2;have cY:(a.eval y).cells.size=(T ty).size:=by
      rw[vv];cases aT:T ty<;>simp_all[aa.fE,aa.size]
     have mh:(kap b).off+i<cs.size:=by
      have:i<(kap b).cap:=by omega
      rw[c5.1]at c2;omega
     have aq:a.eval x=.pointer (some ⟨(kap b).W,(kap b).off+i,none⟩):=by rw[E.2.2];simp[cf.ga,c5.1]
     obtain⟨w',ef,b4,cL,e7,mK,kV,nT⟩:=w9 (P:=C.P) (a.eval y).cells.toList ((kap b).off+i) 0 w cs bx (by rw[vv];simp;omega) (λu hu=>by rw[vv]at hu;simp at hu;rw[hu];exact ab.1.2);refine Ib (w':=w') (by grind) (by simp[execOp,au,aq,Instr.storeAt,Instr.sureAddr,Nv dT cY b4]) ?_;rw[bB];refine⟨kap,F,?_⟩;have gW:gb s.W kap (λq=>if q=b then (⟨(s.W b).gen,.hJ e xs i (.own bl g')⟩:b') else s.W q) kap:=
      sN rfl (λh=>by cases h) (λ_=>by rw[ca];exact⟨rfl,rfl,rfl⟩) (λh=>by cases h) (λh=>by cases h)
     refine (U.qP (b:=b) (x:=⟨(s.W b).gen,.hJ e xs i (.own bl g')⟩) (by rw[ca];simp[cf.cq,aZ]) (by simp[cf.cq,aZ]) gW (λh=>by cases h) (λh=>by cases h) mK kV nT λH oo cF he=>?_);rw[vv]at e7;simp only[Nat.add_zero]at e7;have fT:∀ k,ef[k]?=if k=(kap b).off+i then some (a.eval y) else cs[k]?:=by
      intro k;rw[<-aKk,e7];have mL:(cs.toList.take ((kap b).off+i)).length=(kap b).off+i:=by rw[aLk,aKi];omega
      rcases Nat.lt_trichotomy k ((kap b).off+i) with ah | ah | ah
      ·rw[if_neg (by omega),aKQ (by omega),List.getElem?_take_of_lt ah,aKk]
      ·rw[if_pos ah,aKc (by omega),mL,ah];simp
      ·rw[if_neg (by omega),aKc (by omega),mL,aKc (by simp;omega),aLn];simp only[aKN,List.length_nil];rw[show (kap b).off+i+(0+1)+(k - ((kap b).off+i) - (0+1))=k from by omega,aKk]
     have Il:ef.size=cs.size:=by
      rw[<-aKi,e7];grind
     have b3:ef.getD ((kap b).off+i) Go.undef=a.eval y:=by
      rw[aKb,fT];simp
     refine⟨aZ,ef,jh,cL,by omega,c3,c4,c5,λj aI vp=>?_,by rw[b3];exact bQ.later cF (λ_ U=>U) he ab,by rw[b3];exact ab.1.2⟩;obtain⟨bI,d1,d2⟩:=oi j aI vp;refine⟨bI,λq bM=>?_,fQ e (λ_ U=>U) he d2⟩;have vz:q=0:=by have:=jx e d2;omega
     subst vz;rw[fT,if_neg (by rw[c5.1];omega)];exact d1 0 bM
    ·cases h
   ·cases h
  ·cases h
 rename_i c1 e6 akx al;simp only[aM.fG,aji,aM.dC,ajk]at h;obtain⟨wl,mM,rfl⟩:=h;have Et:c1=(use (bs C.a8 s.aD x)).1:=by rw[al]
 have Im:e6=(use (bs C.a8 s.aD x)).2:=by rw[al]
 subst Et;subst Im;clear al akx;intro a w kap F Q U bz _;have aq:bQ C.P s.W kap F w (use (bs C.a8 s.aD x)).2 (a.eval x):=df U x rfl bz.1;have ab:bQ C.P s.W kap F w (use (bs C.a8 s.aD y)).2 (a.eval y):=df U y rfl bz.2;generalize (use (bs C.a8 s.aD x)).2=aky at *
 generalize (use (bs C.a8 s.aD y)).2=lI at *
 have an:∀ c,o.op≠.defer c:=by grind
 have fin:∀ w',(Instr.storeAt ty (a.eval x) (a.eval y)).run C.P w=.ok () w'->c7 C (s.hS wl) a w'->o.wpIn (e0 C.r) 0 C.P a w (λa' w'=>c7 C (s.jZ o.dst ⟨(use (bs C.a8 s.aD x)).1/\(use (bs C.a8 s.aD y)).1,True,.undef,wl⟩) a' w') Q:=by
  intro w' E M;refine Ib (w':=w') an (by simp[execOp,au,E]) ?_;rw[bB];exact M
 unfold Vy at mM;cases aky with
 | aK b g off=>
  simp only[aM.gV,aM.dC]at mM;split at mM
  ·rename_i aA;split at mM
   ·rename_i n f ca;simp only[aji]at mM;obtain⟨l,af,mM⟩:=mM;split at mM
    ·rename_i hc;simp only[ajk]at mM;subst mM;have akz:=aq.2 aA.symm (by rw[ca];rfl);have jY:=Ns af ab;have bd:=U.bR b;unfold cX at bd;rw[ca]at bd;obtain⟨cs,jh,bx,c2,c3⟩:=bd;have hlen:=jY.len;have pd:∀ u∈(a.eval y).cells.toList,u.oneCell'=true:=by
      intro u hu;obtain⟨i,D,rfl⟩:=List.mem_iff_getElem.1 hu;have:=(jY.mc i (by omega)).2;grind
     obtain⟨w',ef,b4,cL,e7,mK,kV,nT⟩:=w9 (P:=C.P) (a.eval y).cells.toList off 0 w cs bx (by omega) pd;have cY:(a.eval y).cells.size=(T ty).size:=by grind
     have xa:T ty≠.dp:=by
      intro e;rw[e]at af;cases lI<;>simp[cellsOf,aa.fE]at af
     refine fin w' (by rw[akz];simp[Instr.storeAt,Instr.sureAddr,Nv (be.cv rfl xa) cY b4]) ⟨kap,F,?_⟩;have gW:gb s.W kap (λi=>if i=b then (⟨(s.W b).gen,.cells n (putCells f off l)⟩:b') else s.W i) kap:=
      sN rfl (λ_=>by rw[ca];rfl) (λh=>by cases h) (λh=>by cases h) (λh=>by cases h)
     refine (U.qP (b:=b) (x:=⟨(s.W b).gen,.cells n (putCells f off l)⟩) (by rw[ca];rfl) rfl gW (λ_=>by rw[ca];rfl) (λh=>by cases h) mK kV nT λH oo cF he=>?_);have Il:ef.size=n.size:=by
      rw[<-aKi,e7];grind
     refine⟨ef,jh,cL,Il,λi D=>?_⟩;have bO:ef.getD i Go.undef=ef.toList.getD i Go.undef:=by simp
     rw[bO,e7];have ix:l.length=(a.eval y).cells.toList.length:=hlen;simp only[Nat.add_zero];have mL:(cs.toList.take off).length=off:=by grind
     unfold putCells;by_cases aQ:off<=i/\i<off+l.length
     ·rw[if_pos aQ];have ax:(cs.toList.take off++((a.eval y).cells.toList++cs.toList.drop (off+(a.eval y).cells.toList.length))).getD i Go.undef=(a.eval y).cells.toList.getD (i - off) Go.undef:=by
       grind
      rw[ax];have:=jY.mc (i - off) (by omega);exact⟨bQ.later cF (λ_ U=>U) he this.1,this.2⟩
     ·rw[if_neg aQ];have ax:(cs.toList.take off++((a.eval y).cells.toList++cs.toList.drop (off+(a.eval y).cells.toList.length))).getD i Go.undef=cs.getD i Go.undef:=by
       rcases aLQ i off with E | E
       ·rw[aJ7,aKQ (by omega)];simp_all
       ·rw[aJ7,aKc (by omega),mL,aKc (by omega),aLn];rw[show off+(a.eval y).cells.toList.length+(i - off - (a.eval y).cells.toList.length)=i from by omega];simp
      rw[ax];exact⟨bQ.later cF (λ_ U=>U) he (c3 i D).1,(c3 i D).2⟩
    grind
   grind
  grind
 | pV b g i off=>
  simp only[aM.fG,aji,aM.run_bind,aM.gV,aM.dC]at mM;obtain⟨⟨z,l⟩,bD,mM⟩:=mM;split at mM
  ·rename_i aA;obtain⟨aA,xb⟩:=aA;have xb:b ∉ l:=by grind
   split at mM
   ·rename_i e xs ca;simp only[aKt]at mM;obtain⟨nU,BA,rfl⟩:=mM;obtain⟨fW,lh,p4⟩:=aq.2 aA.symm (by rw[ca];rfl);rw[ca]at fW p4;simp only[cf.len,cf.ga]at fW p4;obtain⟨F',f1,bE,f2⟩:=bH.mJ (oj bD) U;have xc:=nQ U.bR f1 bD f2 ab;have Nw:((s.cV l).W b)=s.W b:=by simp[aE.cV,xb]
    have bd:=bE.bR b;unfold cX at bd;rw[Nw,ca]at bd;obtain⟨cs,jh,bx,c2,c3,c4,c5⟩:=bd.2 lh;obtain⟨bI,d1,d2⟩:=c5 i fW;have Nl:xs.getD i e.dK=xs[i]:=by grind
    rw[Nl]at BA;have cR:=jx e d2;obtain⟨dh,ee,rN,bM,aG0,aG1,akA⟩:=ajP e d2 BA xc.2;have xa:T ty≠.dp:=by
     intro bt;have:=xc.1;rw[bt]at this;exact this
    have BC:(a.eval y).cells.toList.length=(T ty).size:=xc.1.len;have Eu:(i+1)*e.size<=(kap b).cap*e.size:=ajo _ (by omega);have hbound:off+(T ty).size<=e.size:=by
     grind
    have pd:∀ u∈(a.eval y).cells.toList,u.oneCell'=true:=by
     intro u hu;have jY:=Bo (P:=C.P) (H:=λ_=>⟨0,.gp⟩) (kap:=λ_=>⟨0,0,0,true⟩) (T ty) xc.2;obtain⟨j,aI,rfl⟩:=List.mem_iff_getElem.1 hu;have:=(jY.mc j (by rw[jY.len];exact aI)).2;grind
    have mh:(kap b).off+i*e.size+off+0+(a.eval y).cells.toList.length<=cs.size:=by
     grind
    obtain⟨w',ef,b4,cL,e7,mK,kV,nT⟩:=w9 (P:=C.P) (a.eval y).cells.toList ((kap b).off+i*e.size+off) 0 w cs bx mh pd;refine fin w' (by rw[p4];simp[Instr.storeAt,Instr.sureAddr,Nv (be.cv rfl xa) (by omega) b4]) ⟨kap,F',?_⟩;have p5:s.hS ((kT l).run s.W++[(b,⟨(s.W b).gen,.bu e (xs.set i nU)⟩)])=(s.cV l).c' b ⟨(s.W b).gen,.bu e (xs.set i nU)⟩:=by
     rw[Ep,vw]
    rw[p5];have gW:gb (s.cV l).W kap (λns=>if ns=b then (⟨(s.W b).gen,.bu e (xs.set i nU)⟩:b') else (s.cV l).W ns) kap:=
     sN (by grind) (λh=>by cases h) (λ_=>by rw[Nw,ca];exact⟨rfl,by simp[cf.len],rfl⟩) (λh=>by cases h) (λh=>by cases h)
    have VZ:(kap b).fK=false:=lh;refine bE.qP (b:=b) (x:=⟨(s.W b).gen,.bu e (xs.set i nU)⟩) (by rw[Nw,ca];simp[cf.cq,VZ]) (by simp[cf.cq,VZ]) gW (λh=>by cases h) (λh=>by cases h) mK kV nT λH oo cF he=>?_;refine⟨λaC=>(by grind),λ_=>?_⟩;have Il:ef.size=cs.size:=by
     rw[<-aKi,e7];grind
    refine⟨ef,jh,cL,by omega,by grind,c4,λj aI=>?_⟩;have h2:j<xs.length:=by grind
    simp only[Nat.add_zero]at e7 mh;have fT:∀ k,ef[k]?=if (kap b).off+i*e.size+off<=k/\k<(kap b).off+i*e.size+off+(T ty).size then (a.eval y).cells.toList[k - ((kap b).off+i*e.size+off)]? else cs[k]?:=by
     intro k;rw[<-aKk,e7];have mL:(cs.toList.take ((kap b).off+i*e.size+off)).length=(kap b).off+i*e.size+off:=by grind
     by_cases aQ:(kap b).off+i*e.size+off<=k/\k<(kap b).off+i*e.size+off+(T ty).size
     ·rw[if_pos aQ,aKc (by omega),mL,aKQ (by omega)]
     ·rw[if_neg aQ];rcases aLQ k ((kap b).off+i*e.size+off) with E | E
      ·grind
      ·rw[aKc (by omega),mL,aKc (by omega),aLn];rw[show (kap b).off+i*e.size+off+(a.eval y).cells.toList.length+(k - ((kap b).off+i*e.size+off) - (a.eval y).cells.toList.length)=k from by omega];simp
    by_cases vp:j=i
    ·subst vp;have ax:(xs.set j nU)[j]=nU:=by simp
     rw[ax];refine⟨dh++((a.eval y).cells.toList++rN),λk ah=>?_,fQ e (λ_ U=>U) he akA⟩;rw[fT];subst bM;simp only[aKx]at ah cR;by_cases aQ:off<=k/\k<off+(T ty).size
     ·rw[if_pos (by omega)];rw[show (kap b).off+j*e.size+k - ((kap b).off+j*e.size+off)=k - dh.length from by omega];grind
     grind
    ·have ax:(xs.set i nU)[j]=xs[j]:=by grind
     rw[ax];obtain⟨V0,akB,Nx⟩:=c5 j h2;refine⟨V0,λk ah=>?_,fQ e (λ_ U=>U) he Nx⟩;rw[fT,if_neg]
     ·grind
     ·have aG2:=jx e Nx;rcases aLQ j i with E | E
      ·have:(j+1)*e.size<=i*e.size:=ajo _ (by omega);grind
      ·have:(i+1)*e.size<=j*e.size:=ajo _ (by omega);grind
   grind
  grind
 | _=>cases mM
end
end Go.Fer
namespace Go.Fer
open Go.RowKit
theorem Ev{p:Addr}(h:p.spot=none)(n:Nat):p.add n=⟨p.block,p.off+n,none⟩:=by
 obtain⟨b,o,sp⟩:=p;subst h;exact w7 b o n
theorem Ny{e:aa}{xs:List e.ak}{i:Int}(E:0<=i)(M:i<(xs.length:Int)):mc e xs i=xs[i.toNat]'(by omega):=by
 unfold mc;grind
section
variable {C:cB} {T:Nat->aa} {bK:Nat->Option aF} {o:Oper} {s:aE} {res:fb}
theorem Nz{P:Program}{w:World}{e:aa}{ty:TypeId}(h:cx P (.slice e) ty){p:Addr}(aq:p.spot=none){n cap:Nat}{k:IntKind}{i:Int}(E:0<=i)(M:i<(n:Int)) :
  (Instr.indexAt ty (.slice (some p) n cap) (.int k i)).run P w=.ok (.pointer (some ⟨p.block,p.off+i.toNat*e.size,none⟩)) w:=by
 obtain⟨j,aI,kW,_⟩:=h.sl;simp[Instr.indexAt,asIntOf,ej aI,E,M,kW.size,Ev aq]
theorem akC(be:eO C.P T){ty:TypeId}{x i:Operand}(bB:∀ i,o.dst=some i->i<C.b5)(au:o.op=.indexAddr ty x i)(h:(cn C.a8 T bK (bs C.a8 s.aD) o).run s.W=some res):c8 C o s res:=by
 simp only[cn,au]at h;split at h
 ·rename_i bO k n aT D;have dT:=be.cv aT (by simp);simp only[cQ,aM.fG,aji,aM.dC,ajk]at h;obtain⟨⟨c,v⟩,jN,rfl⟩:=h;refine c8.pure (by grind) bB λa w kap F U bz hc=>?_;have al:bQ C.P s.W kap F w (use (bs C.a8 s.aD x)).2 (a.eval x):=df U x rfl bz.1;have M:=p0 (df U i rfl bz.2) D;have BD:∀ (xs:List bO.ak),cr C.P (.slice bO) F w [a.eval x] xs->0<=n/\n<xs.length->∃ r,(execOp a.eval o).run C.P w=.ok (.value r) w/\bQ C.P s.W kap F w (.eI bO (mc bO xs n)) r:=by
   intro xs j0 aC;obtain⟨a',cap,ax,m1,m2,m3,m4⟩:=j0;have ax:=(aKh ax).1;cases a' with
   | none=>grind
   | some p=>
    obtain⟨dI,dW,jM⟩:=m4 p rfl (by omega);obtain⟨bI,d1,d2⟩:=jM n.toNat (by omega);refine⟨_,by simp[execOp,au,ax,M.1,Nz dT dW aC.1 aC.2],⟨p.block,p.off+n.toNat*bO.size,none⟩,bI,rfl,d1,?_⟩;rw[Ny aC.1 aC.2];omega
  unfold Vz at jN;split at jN
  ·rename_i e xs fq;simp only[aM.dC]at jN;split at jN
   ·rename_i he;subst he;obtain⟨rfl,rfl⟩:=jN;rw[fq]at al;exact BD xs ((eH rfl).1 al).2 hc
   grind
  ·rename_i b g fq;rw[fq]at al;simp only[aM.gV,aM.dC]at jN;split at jN
   ·rename_i aA;have bd:=U.bR b;unfold cX at bd;split at jN
    ·rename_i e xs ca;split at jN
     ·rename_i he;subst he;obtain⟨rfl,rfl⟩:=jN;have ab:=al.2 aA.symm (by rw[ca];rfl);rw[ca]at ab bd;have xd:(kap b).fK=false:=by
       cases aC:(kap b).fK with
       | false=>rfl
       | true=>rw[bd.1 aC]at hc;grind
      simp  [bP.slice,xd,cf.len]at ab;refine⟨_,by simp[execOp,au,ab,M.1,Nz dT (p:=⟨(kap b).W,(kap b).off,none⟩) rfl hc.1 hc.2];rfl,⟨al.1.1,rfl⟩,λ_ _=>?_⟩;rw[ca];exact⟨by simp  [cf.len];omega,xd,rfl⟩
     grind
    ·rename_i e xs ca;split at jN
     ·rename_i he;subst he;obtain⟨rfl,rfl⟩:=jN;have ab:=al.2 aA.symm (by rw[ca];rfl);rw[ca]at ab bd;refine BD xs ?_ hc;rw[ab];exact bd
     grind
    grind
   grind
  ·rename_i b g bn D fq;rw[fq]at al;simp only[aM.gV,aM.dC]at jN;split at jN
   ·rename_i aA;have bd:=U.bR b;unfold cX at bd;split at jN
    ·rename_i e xs ca;split at jN
     ·obtain⟨rfl,rfl⟩:=jN;obtain⟨⟨aY,a_⟩,b7⟩:=al.2 aA.symm (by rw[ca];rfl);rw[ca]at a_ b7 bd;simp  [cf.len,cf.ga]at a_ b7;rcases b7 with⟨aC,_⟩ | ⟨aC,oq,ab,hK,gf⟩
      ·rw[bd.1 aC]at a_;grind
      ·obtain⟨cs,jh,bx,c2,c3,c4,c5⟩:=bd.2 aC;refine⟨_,by simp[execOp,au,ab,M.1,Nz dT (p:=⟨(kap b).W,oq,none⟩) rfl hc.1 hc.2];rfl,⟨al.1.1,rfl⟩,λ_ _=>?_⟩;rw[ca];refine⟨by simp  [cf.len];omega,aC,?_⟩;simp  [cf.ga];grind
     grind
    ·rename_i e xs ca;split at jN
     ·rename_i he;subst he;obtain⟨rfl,rfl⟩:=jN;obtain⟨⟨aY,a_⟩,b7⟩:=al.2 aA.symm (by rw[ca];rfl);rw[ca]at a_ b7 bd;simp  [cf.len]at a_ b7;have hlen:((xs.take D).drop bn).length=D - bn:=by grind
      obtain⟨r,b4,cL⟩:=BD ((xs.take D).drop bn) (HZ bd aY a_ b7) (by omega);have ax:mc e ((xs.take D).drop bn) n=mc e xs (bn+n):=by
       rw[Ny hc.1 (by omega),Ny (by omega) (by omega)];grind
      grind
     grind
    grind
   grind
  ·simp_all
  ·cases jN
 ·rename_i m bO k n aT D;split at h
  ·rename_i eh bt xs fq;split at h
   ·rename_i he;obtain⟨rfl,rfl⟩:=he;simp  [cQ,ajk]at h;subst h;refine c8.pure (by grind) bB λa w kap F U bz hc=>?_;have al:bQ C.P s.W kap F w (use (bs C.a8 s.aD x)).2 (a.eval x):=df U x rfl bz.1;rw[fq]at al;have M:=p0 (df U i rfl bz.2) D;obtain⟨j,aI,sV,_⟩:=(be.cv aT (by simp)).bu;obtain⟨p,bI,ab,dt,p3⟩:=al;obtain⟨bx,c2,c3,rfl,aU,cD⟩:=Nn p3 (i:=n.toNat) (by omega);refine⟨.pointer (some ⟨p.block,p.off+n.toNat*bt.size,none⟩),?_,⟨p.block,p.off+n.toNat*bt.size,none⟩,c2,rfl,⟨dt.1,rfl,λq bM=>?_⟩,cD⟩
    ·simp[execOp,au,Instr.indexAt,ab,M.1,asIntOf,ej aI,hc.1,hc.2,sV.size,Ev dt.2.1,Instr.sureAddr]
    ·have:=dt.2.2 (bx.length+q) (by grind);grind
   ·cases h
  ·rename_i b g off fq;simp only[aM.gV,aM.dC]at h;split at h
   ·rename_i bD;simp  at bD;simp  at h;subst h;refine c8.pure (by grind) bB λa w kap F U bz hc=>?_;have E:bQ C.P s.W kap F w (use (bs C.a8 s.aD x)).2 (a.eval x):=df U x rfl bz.1;rw[fq]at E;have M:=p0 (df U i rfl bz.2) D;have ai:=E.2 bD.1.symm bD.2;obtain⟨j,aI,sV,_⟩:=(be.cv aT (by simp)).bu;exact⟨_,by simp[execOp,au,Instr.indexAt,ai,M.1,asIntOf,ej aI,hc.1,hc.2,sV.size,Ev (p:=⟨(kap b).W,off,none⟩) rfl,Instr.sureAddr],⟨E.1.1,rfl⟩,λ_ _=>rfl⟩
   grind
  ·cases h
 ·cases h
theorem Ew{a:Act}{w:World}{kap:Nat->bP}{F:Nat->Prop}(U:bH C s a w kap F){x:Option Operand}{p:Prop}{n:Option Int}(h:nr (bs C.a8 s.aD) x=some (p,n))(aq:p) :
  (x=none/\n=none)\/∃ y k m,x=some y/\n=some m/\a.eval y=.int k m:=by
 cases x with
 | none=>simp  [nr,aJ8]at h;grind
 | some y=>
  simp  [nr]at h;split at h
  ·rename_i q k m hu;obtain⟨rfl,rfl⟩:=h;exact .inr ⟨y,k,m,rfl,rfl,(h'.1 (df U y hu aq)).1⟩
  grind
theorem V1{P:Program}{w:World}{isS:Bool}{len cap:Nat}{bn D:Option Value}{l h:Option Int}(af:(bn=none/\l=none)\/∃ k m,bn=some (.int k m)/\l=some m)(dt:(D=none/\h=none)\/∃ k m,D=some (.int k m)/\h=some m)
  (E:0<=en l) (M:en l<=ht len h) (ai:ht len h<=(cap:Int)) (_h4:len<=cap):(Instr.sliceBounds isS len cap bn D none).run P w=.ok ((en l).toNat,(ht len h).toNat,cap) w:=by
 rcases af with⟨rfl,rfl⟩ | ⟨k,m,rfl,rfl⟩<;>rcases dt with⟨rfl,rfl⟩ | ⟨k',eh,rfl,rfl⟩<;>simp  [en,ht]at E M ai ⊢
 ·rfl
 ·have:0<=eh/\eh<=cap:=by omega
  simp[Instr.sliceBounds,Instr.sliceBound,asIntOf,this]
 ·have:0<=m/\m<=len:=by omega
  simp[Instr.sliceBounds,Instr.sliceBound,asIntOf,this]
 ·have ax:0<=eh/\eh<=cap:=by omega
  have aU:0<=m/\m<=eh:=by omega
  have cD:max eh 0=eh:=by omega
  simp[Instr.sliceBounds,Instr.sliceBound,asIntOf,ax,aU,cD]
theorem akD{l h:Option Int}{n m:Nat}(V2:n<=m):D' l h n m<=m:=by
 unfold D';grind
theorem akE(be:eO C.P T){ty:TypeId}{x:Operand}{bn D:Option Operand}(bB:∀ i,o.dst=some i->i<C.b5)(au:o.op=.slice ty x bn D none)(h:(cn C.a8 T bK (bs C.a8 s.aD) o).run s.W=some res):c8 C o s res:=by
 simp  [cn,au,H3]at h;split at h
 ·rename_i ol l vu pe bj NA;have an:∀ c,o.op≠.defer c:=by grind
  have tU:∀ (a:Act) (w:World) kap F,bH C s a w kap F->ol->vu->((bn.map a.eval=none/\l=none)\/∃ k m,bn.map a.eval=some (.int k m)/\l=some m)/\((D.map a.eval=none/\pe=none)\/∃ k m,D.map a.eval=some (.int k m)/\pe=some m):=by
   intro a w kap F U Ex Ey;constructor
   ·rcases Ew U bj Ex with⟨rfl,rfl⟩ | ⟨y,k,m,rfl,rfl,e⟩<;>grind
   ·rcases Ew U NA Ey with⟨rfl,rfl⟩ | ⟨y,k,m,rfl,rfl,e⟩<;>grind
  split at h
  ·rename_i bO aT;have dT:=be.cv aT (by simp);obtain⟨j,aI,kW,p6⟩:=dT.sl;simp only[aM.fG,aji]at h;obtain⟨⟨c,v⟩,ji,h⟩:=h;simp  [cQ,ajk]at h;subst h;have runs:∀ (a:Act) (w:World) kap F,bH C s a w kap F->ol->vu->∀ (q:Option Addr) (n cap:Nat),a.eval x=.slice q n cap->n<=cap->0<=en l/\en l<=ht n pe/\ht n pe<=cap->
     (execOp a.eval o).run C.P w=.ok (.value (.slice (if cap=(en l).toNat then q else q.map (·.add ((en l).toNat*bO.size))) ((ht n pe).toNat - (en l).toNat) (cap - (en l).toNat))) w:=by
    intro a w kap F U Ex Ey q n cap ab aC hc;obtain⟨cm,eX⟩:=tU a w kap F U Ex Ey;have:=V1 (P:=C.P) (w:=w) (isS:=true) cm eX hc.1 hc.2.1 hc.2.2 aC;simp[execOp,au,ab,Instr.sliceAt,Instr.slice,ej aI,this,kW.size]
   unfold VA at ji;split at ji
   ·rename_i e xs fq;simp only[aM.dC]at ji;split at ji
    ·obtain⟨rfl,rfl⟩:=ji;refine c8.pure an bB λa w kap F U bz hc=>?_;have al:bQ C.P s.W kap F w (use (bs C.a8 s.aD x)).2 (a.eval x):=df U x rfl bz.1;rw[fq]at al;obtain⟨_,a',cap,ax,m1,m2,m3,m4⟩:=(eH rfl).1 al;have ax:=(aKh ax).1;refine⟨_,runs a w kap F U bz.2.1 bz.2.2 a' xs.length cap ax m1 ⟨hc.1,hc.2.1,by omega⟩,(eH rfl).2 ⟨rfl,?_⟩⟩;have hlen:((xs.take (ht xs.length pe).toNat).drop (en l).toNat).length=(ht xs.length pe).toNat - (en l).toNat:=by
      simp_all
     refine⟨_,_,by rw[hlen],by omega,by omega,?_,λp aq Bp=>?_⟩
     ·intro aC;split at aC
      ·omega
      simp_all
     ·cases a' with
      | none=>split at aq<;>cases aq
      | some q=>
       obtain⟨dI,dW,jM⟩:=m4 q rfl (by omega);have bM:∃ d,p=⟨q.block,q.off+d,none⟩/\(d=(en l).toNat*e.size\/cap=(en l).toNat):=by
        split at aq
        ·omega
        ·simp  at aq;rw[Ev dW]at aq;grind
       obtain⟨d,rfl,yS⟩:=bM;refine⟨dI,rfl,λi D=>?_⟩;obtain⟨bI,d1,d2⟩:=jM ((en l).toNat+i) (by omega);rcases yS with rfl | y4<;>grind
    grind
   ·rename_i fq;obtain⟨rfl,rfl⟩:=ji;refine c8.pure an bB λa w kap F U bz hc=>?_;have al:bQ C.P s.W kap F w (use (bs C.a8 s.aD x)).2 (a.eval x):=df U x rfl bz.1;rw[fq]at al;have lK:=hc;have dD:=runs a w kap F U bz.2.1 bz.2.2 none 0 0 al (ajn _) lK;have aZ:(ht 0 pe).toNat=0:=by omega
    rw[aZ]at dD;refine⟨_,dD,?_⟩;simp only[bQ];simp
   ·rename_i b g fq;simp only[aM.gV,aM.dC]at ji;split at ji
    ·rename_i bD;simp  at bD;obtain⟨⟨aA,gg⟩,Ig⟩:=bD;obtain⟨rfl,rfl⟩:=ji;refine c8.pure an bB λa w kap F U bz hc=>?_;have al:bQ C.P s.W kap F w (use (bs C.a8 s.aD x)).2 (a.eval x):=df U x rfl bz.1;rw[fq]at al;have ab:=al.2 aA.symm gg;obtain⟨dI,dW⟩:=By U gg;cases aC:(kap b).fK with
     | true=>
      have aZ:=dI aC;simp  [bP.slice,aC]at ab;rw[aZ]at hc;have dD:=runs a w kap F U bz.2.1 bz.2.2 none 0 0 ab (ajn _) hc;refine⟨_,dD,⟨al.1.1,by rfl⟩,λ_ _=>⟨by grind,.inl ⟨aC,?_⟩⟩⟩;grind
     | false=>
      have y4:=No U gg aC;simp  [bP.slice,aC,ajq]at ab;have dD:=runs a w kap F U bz.2.1 bz.2.2 _ _ _ ab y4 ⟨hc.1,hc.2.1,by omega⟩;refine⟨_,dD,⟨al.1.1,by rfl⟩,λ_ _=>⟨by omega,.inr ⟨aC,?_⟩⟩⟩;rw[<-Ig];by_cases om:(kap b).cap=(en l).toNat
      ·grind
      ·rw[if_neg om];simp only[aLc,w7];simp
    grind
   ·rename_i b g fS aZ fq;simp only[aM.gV,aM.dC]at ji;split at ji
    ·rename_i bD;simp  at bD;obtain⟨⟨aA,gg⟩,Ig⟩:=bD;obtain⟨rfl,rfl⟩:=ji;refine c8.pure an bB λa w kap F U bz hc=>?_;have al:bQ C.P s.W kap F w (use (bs C.a8 s.aD x)).2 (a.eval x):=df U x rfl bz.1;rw[fq]at al;obtain⟨⟨aY,a_⟩,b7⟩:=al.2 aA.symm gg;obtain⟨dI,dW⟩:=By U gg;have ub:D' l pe (aZ - fS) ((s.W b).body.len - fS)<=(s.W b).body.len - fS:=akD (by omega);revert hc ub;generalize D' l pe (aZ - fS) ((s.W b).body.len - fS)=lim;intro hc ub;rcases b7 with⟨aC,ab⟩ | ⟨aC,oq,ab,hK,gf⟩
     ·have NB:=dI aC;have bO:aZ - fS=0:=by omega
      have elim:lim=0:=by omega
      rw[elim]at hc;grind
     ·have y4:=No U gg aC;have dD:=runs a w kap F U bz.2.1 bz.2.2 _ _ _ ab (by omega) ⟨hc.1,hc.2.1,by omega⟩;refine⟨_,dD,⟨al.1.1,by rfl⟩,λ_ _=>⟨by omega,.inr ⟨aC,?_⟩⟩⟩;rw[<-Ig];have ax:(ht (aZ - fS) pe).toNat - (en l).toNat=fS+(ht (aZ - fS) pe).toNat - (fS+(en l).toNat):=by omega
      have aU:(kap b).cap - fS - (en l).toNat=(kap b).cap - (fS+(en l).toNat):=by omega
      rw[ax,aU];have cD:(fS+(en l).toNat)*(s.W b).body.ga=fS*(s.W b).body.ga+(en l).toNat*(s.W b).body.ga:=aKz _ _ _;by_cases om:(kap b).cap - fS=(en l).toNat
      ·rw[if_pos om];exact⟨_,rfl,by omega,λh=>by omega⟩
      ·rw[if_neg om];simp only[aLc,w7];exact⟨_,rfl,by omega,λh=>by omega⟩
    grind
   ·cases ji
  ·rename_i aT;have dT:=(be.cv aT (by simp)).str;split at h
   ·rename_i c v ji;simp  [cQ,ajk]at h;subst h;unfold VB at ji;split at ji
    ·rename_i xs fq;obtain⟨rfl,rfl⟩:=ji;refine c8.pure an bB λa w kap F U bz hc=>?_;have al:bQ C.P s.W kap F w (use (bs C.a8 s.aD x)).2 (a.eval x):=df U x rfl bz.1;rw[fq]at al;obtain⟨ab,cF⟩:=oc.1 al;obtain⟨cm,eX⟩:=tU a w kap F U bz.2.1 bz.2.2;have az:ByteArray.size ⟨xs.toArray⟩=xs.length:=by rfl
     have:=V1 (P:=C.P) (w:=w) (isS:=false)     cm eX hc.1 hc.2.1 hc.2.2 (ajn _);refine⟨.string ⟨((xs.take (ht xs.length pe).toNat).drop (en l).toNat).toArray⟩,?_,oc.2 ⟨rfl,by grind⟩⟩;simp  [execOp,au,ab,Instr.sliceAt,Instr.slice,ej dT,az,this];have he:ByteArray.extract ⟨xs.toArray⟩ (en l).toNat (ht xs.length pe).toNat=⟨((xs.take (ht xs.length pe).toNat).drop (en l).toNat).toArray⟩:=by
      apply ByteArray.ext;rw[ByteArray.data_extract];grind
     grind
    grind
   ·cases h
  ·cases h
 ·cases h
end
end Go.Fer
