/- Part 7 of the proof of TopTrials: shallow programs of Go functions, and what they compute. No condition. -/
import Derived.Test.YtplfnoecifjgeaaGreatDoorTopTrialsF
import Derived.Lib.AtoiAll
import Derived.Lib.ItoaLen
import Derived.Lib.Join
import Derived.Shelf.SlGeneric
import Derived.Shelf.Spec.SlicesGrow
import Derived.Shelf.Strings.OnBuilder
import Derived.Shelf.LaysM
import Derived.Shelf.Strconv.Itoa3
import Derived.Shelf.LaysC
import Derived.Shelf.Strconv.AtoiAll
import Derived.Shelf.Strings.Split
import Derived.Shelf.Slices.In.SortNone
import Derived.Test.YtplfnoecifjgeaaGreatDoorProg
import Derived.WalkKit
import Derived.WalkSpells
import Derived.Handy
import Derived.Shelf.Sort.AssemblyIn
import Derived.Sort.EveryDepth
import Derived.Handed
import Derived.Shelf.Vars
import Derived.Lib.LaidTab
import Derived.Lib.ItoaNum
noncomputable section
set_option linter.unusedVariables false
set_option linter.unusedSimpArgs false
namespace Go.Fer.H
open A (V)
def Jc(x:Int×Unit):A (z1'×Unit):=A.dS (0<=x.1/\x.1<60000) ([],())
def Jd(x:Int×Unit):A (List ba×Unit):=A.dS (0<=x.1/\x.1<60000) ([],())
section
variable {ak gD:Type}
def Je(g:Int×Unit->A (List ak×Unit))(x:List (List ak))(k:List ak->A gD):A gD:=
 A.bind (A.loop (λ(D:List (List ak)×Int×List (List ak)×Int×Int×Unit)=>if decide (D.2.2.2.2.1<D.2.2.2.1)=true then A.bind (A.ab (0<=D.2.2.2.2.1/\
 D.2.2.2.2.1<Int.ofNat (List.length D.2.2.1)) (if decide (IntKind.wrap .i64 (Add.add D.2.1 (Int.ofNat (List.length (List.getD D.2.2.1 (Int.toNat D.2.2.2.2.1) [])))) <
 0)=true then A.ab False (A.ab False (A.pure (V.next (D.1,IntKind.wrap .i64 (Add.add D.2.1 (Int.ofNat (List.length (List.getD D.2.2.1 (Int.toNat D.2.2.2.2.1)
 [])))),D.2.2.1,D.2.2.2.1,D.2.2.2.2.1,())))) else A.pure (V.next (D.1,IntKind.wrap .i64 (Add.add D.2.1 (Int.ofNat (List.length (List.getD D.2.2.1 (Int.toNat
 D.2.2.2.2.1) [])))),D.2.2.1,D.2.2.2.1,D.2.2.2.2.1,())))) (V.bz λ(D:List (List ak)×Int×List (List ak)×Int×Int×Unit)=>A.pure (V.next (D.1,D.2.1,D.2.2.1,D.2.2.2.1,IntKind.wrap .i64 (Add.add D.2.2.2.2.1 1),()))) else A.bind (A.pure (V.next (D.1,D.2.1,()))) λr=>A.pure (V.done r)) (x,0,x,Int.ofNat
 (List.length x),0,())) (V.bz λ(D:List (List ak)×Int×Unit)=>A.bind (g (D.2.1,())) λy=>A.bind (A.loop (λ(D:List (List ak)×Int×Int×List ak×
 Unit)=>if decide (D.2.2.1<D.2.1)=true then A.ab (0<=D.2.2.1/\D.2.2.1<Int.ofNat (List.length D.1)) (A.ab (bQ (Add.add (List.length D.2.2.2.1) (List.length
 (List.getD D.1 (Int.toNat D.2.2.1) [])))) (A.pure (V.next (D.1,D.2.1,IntKind.wrap .i64 (Add.add D.2.2.1 1),D.2.2.2.1++List.getD D.1 (Int.toNat D.2.2.1) [],())))) else A.bind (A.pure (V.next (D.2.2.2.1,()))) λr=>A.pure (V.done r)) (D.1,Int.ofNat (List.length D.1),0,y.1,())) (V.bz λ(D:List ak×Unit)
 =>k D.1))
theorem Z_:∀ (l:List (List ak)) (b:List ak),l.foldl (λb x=>b++x) b=b++l.flatten
 | [],b=>by simp
 | x::l,b=>by simp[Z_ l]
theorem Z'(g:Int×Unit->A (List ak×Unit))(aC:∀ n,0<=n->n<60000->g (n,())=A.pure ([],()))(x:List (List ak))(k:List ak->A gD)(E:x.length<=2)(U:∀ l∈x,l.length<=40):Je g x k=k x.flatten:=by
 unfold Je;rw[A.f' x (λi (n:Int)=>(x,n,x,(x.length:Int),(i:Int),())) (λl n=>.next (n+(l.length:Int))) (λn=>.next (x,n,())) (λi n=>0<=n/\n<=40*(i:Int)) 0 ?_ ?_ ?_ ?_]
 ·rw[dQ,A.aG,A.bZ];have aE:∀ (l:List (List ak)) (n:Int),0<=n->(∀ y∈l,y.length<=40)->0<=l.foldl (λn y=>n+(y.length:Int)) n/\l.foldl (λn y=>n+(y.length:Int)) n<=n+40*(l.length:Int):=by
   intro l;induction l with
   | nil=>simp
   | cons y l aK=>
    grind
  obtain⟨dO,e1⟩:=aE x 0 (Int.le_refl _) U;rw[aC _ dO (by omega),A.aG];rw[A.f' x (λi (b:List ak)=>(x,(x.length:Int),(i:Int),b,())) (λl b=>.next (b++l)) (λb=>.next (b,())) (λi b=>b.length<=40*i) [] ?_ ?_ ?_ ?_]
  ·rw[dQ,A.aG,A.bZ,Z_];rfl
  ·rfl
  ·simp
  ·intro i G b W;have hw:=bA (n:=(i:Int)+1) (by omega) (by omega);have aj:=U _ (List.getElem_mem G);refine⟨?_,λbf dc=>?_⟩
   ·simp only[bW,cV G,if_true,dh G,cN G,A.bq,cj,hw];rw[A.bu (gf (by grind))];rfl
   grind
  simp
 ·rfl
 ·omega
 ·intro i G n aB;have hw:=bA (n:=(i:Int)+1) (by omega) (by omega);have aj:=U _ (List.getElem_mem G);have gX:=bA (n:=n+(x[i].length:Int)) (by omega) (by omega);have aw:decide (n+(x[i].length:Int)<0)=false:=by grind
  refine⟨?_,λbf dc=>?_⟩
  ·simp only[bW,cV G,if_true,dh G,cN G,A.bq,cj,hw,gX,aw,Bool.false_eq_true,if_false,A.aG,A.bZ];rfl
  grind
 simp
end
abbrev Jf:aL:=⟨.slice (.slice hp),.slice hp,λx=>x.length<=2/\∀ l∈x,l.length<=40,λx=>x.flatten⟩
theorem aq1(x):A.le (Z8 Jd x) (Jf.sh x):=A.br λh=>
 (show Z8 Jd x=Je Jd x A.pure from rfl).trans (Z' _ (λn a b=>A.bS ⟨a,b⟩ _) x _ h.1 h.2)
def Jg(x:List (z1')×Unit):A (z1'×Unit):=A.dS (x.1.length<=2/\∀ l∈x.1,l.length<=40) (x.1.flatten,())
theorem aq2(x):A.le (Z9 Jc x) (Jg x):=A.br λh=>
 (show Z9 Jc x=Je Jc x.1 (λl=>A.pure (l,())) from rfl).trans (Z' _ (λn a b=>A.bS ⟨a,b⟩ _) x.1 _ h.1 h.2)
def oc(l:z1')(j:Nat):Bool:=decide (j=0)||decide (l.getD j 0≠l.getD (j - 1) 0)
def fw(l:z1')(p:Nat):z1':=((List.range p).filter (oc l)).map λj=>l.getD j 0
theorem P5(l:z1')(p:Nat):fw l (p+1)=fw l p++if oc l p=true then [l.getD p 0] else []:=by
 unfold fw;rw[List.range_succ,List.filter_append,List.map_append];grind
theorem aq3(l:z1')(p:Nat):(fw l p).length<=p:=by
 unfold fw;grind
def EV{R:Type}:Int×(Nat×Nat)×Int×z1'×Unit->A (V (Int×(Nat×Nat)×Int×z1'×Unit) (V (Int×z1'×Unit) R)):=
 (λ(D:Int×(Nat×Nat)×Int×z1'×Unit)=>if decide (D.2.2.1<Int.ofNat (D.2.1.2 - D.2.1.1))=true then A.bind (A.ab (0<=D.2.2.1/\D.2.2.1<Int.ofNat
 (D.2.1.2 - D.2.1.1)) (A.ab (0<=IntKind.wrap .i64 (D.2.2.1 - 1)/\IntKind.wrap .i64 (D.2.2.1 - 1)<Int.ofNat (D.2.1.2 - D.2.1.1)) (if decide (List.getD D.2.2.2.1
 (Add.add D.2.1.1 (Int.toNat D.2.2.1)) 0≠List.getD D.2.2.2.1 (Add.add D.2.1.1 (Int.toNat (IntKind.wrap .i64 (D.2.2.1 - 1)))) 0)=true then A.ab (0<=D.2.2.1/\D.2.2.1
 < Int.ofNat (D.2.1.2 - D.2.1.1)) (A.ab (0<=D.1/\D.1<Int.ofNat (List.length D.2.2.2.1)) (A.pure (V.next (IntKind.wrap .i64 (Add.add D.1 1),D.2.1,D.2.2.1,List.set D.2.2.2.1 (Int.toNat D.1) (List.getD D.2.2.2.1 (Add.add D.2.1.1 (Int.toNat D.2.2.1)) 0),())))) else A.pure (V.next (D.1,D.2.1,D.2.2.1,D.2.2.2.1,())))))
 (V.bz λ(D:Int×(Nat×Nat)×Int×z1'×Unit)=>A.pure (V.next (D.1,D.2.1,IntKind.wrap .i64 (Add.add D.2.2.1 1),D.2.2.2.1,()))) else A.bind
 (A.pure (V.next (D.1,D.2.2.2.1,()))) λr=>A.pure (V.done r))
def wG:Int×z1'×Unit->A (V (Int×z1'×Unit) (V (z1'×Unit) ((Nat×Nat)×z1'×Unit))):=
 (λ(D:Int×z1'×Unit)=>if decide (D.1<Int.ofNat (List.length D.2.1))=true then A.bind (A.ab (0<=D.1/\D.1<Int.ofNat (List.length D.2.1)) (A.ab (0<=
 IntKind.wrap .i64 (D.1 - 1)/\IntKind.wrap .i64 (D.1 - 1)<Int.ofNat (List.length D.2.1)) (if decide (List.getD D.2.1 (Int.toNat D.1) 0=List.getD D.2.1 (Int.toNat
 (IntKind.wrap .i64 (D.1 - 1))) 0)=true then A.ab (0<=D.1/\D.1<=Int.ofNat (List.length D.2.1)/\Int.ofNat (List.length D.2.1)<=Int.ofNat (List.length D.2.1))
 (A.bind (A.loop EV (D.1,(Int.toNat D.1,Int.toNat (Int.ofNat (List.length D.2.1))),1,D.2.1,())) (V.bz λ(D:Int×z1'×Unit)=>A.ab (0<=D.1/\D.1<=
 Int.ofNat (List.length D.2.1)/\Int.ofNat (List.length D.2.1)<=Int.ofNat (List.length D.2.1)) (A.ab True (A.ab ((0:Int)<=0/\0<=D.1/\D.1<=Int.ofNat (List.length
 (List.take (Int.toNat D.1) D.2.1++List.replicate (Int.toNat (Int.ofNat (List.length D.2.1)) - Int.toNat D.1) 0++List.drop (Add.add (Int.toNat D.1) (List.length
 (List.replicate (Int.toNat (Int.ofNat (List.length D.2.1)) - Int.toNat D.1) (0:Int)))) D.2.1))) (A.bind (A.bind (A.bind (A.pure ((Int.toNat 0,Int.toNat D.1),List.take
 (Int.toNat D.1) D.2.1++List.replicate (Int.toNat (Int.ofNat (List.length D.2.1)) - Int.toNat D.1) 0++List.drop (Add.add (Int.toNat D.1) (List.length (List.replicate
 (Int.toNat (Int.ofNat (List.length D.2.1)) - Int.toNat D.1) (0:Int)))) D.2.1,())) λr=>A.pure (V.done r)) λr=>A.pure (V.done r)) λr=>A.pure (V.done
 r)))))) else A.pure (V.next (D.1,D.2.1,()))))) (V.bz λ(D:Int×z1'×Unit)=>A.pure (V.next (IntKind.wrap .i64 (Add.add D.1 1),D.2.1,()))) else
 A.bind (A.pure (V.next (D.2.1,()))) λr=>A.pure (V.done r))
structure yI(l:z1')(p:Nat)(m:z1'):Prop where
 len:m.length=l.length
 Cm:m.take (fw l p).length=fw l p
 lt:(fw l p).length<p
 cn:∀ j,p<=j+1->m.getD j 0=l.getD j 0
theorem aq4{ak:Type}{l:List ak}{i j:Nat}{v d:ak}(h:i<l.length):(l.set i v).getD j d=if j=i then v else l.getD j d:=by
 grind
theorem yI.step{l m:z1'}{p:Nat}(h:yI l p m)(ao:p<l.length):yI l (p+1) (if oc l p=true then m.set (fw l p).length (l.getD p 0) else m):=by
 have E:=h.lt;have U:=h.len;have hc:=P5 l p;by_cases an:oc l p=true
 ·rw[if_pos an]at hc ⊢;refine⟨by grind,?_,?_,λj aF=>?_⟩
  ·rw[hc,List.length_append,List.length_singleton];have aI:=h.Cm;generalize fw l p=c at aI E;apply List.ext_getElem?;intro j;rw[List.getElem?_take,List.getElem?_append,List.getElem?_set];grind
  ·grind
  ·rw[aq4 (by omega),if_neg (by omega)];exact h.cn j (by omega)
 ·rw[if_neg an,List.append_nil]at hc;rw[if_neg an];refine⟨U,by rw[hc];exact h.Cm,by grind,λj aF=>h.cn j (by omega)⟩
theorem aq5{R:Type}{l m:z1'}{k p:Nat}(aj:l.length<60000)(an:k<p)(mZ:0<k)(h:yI l p m)(ao:p<l.length) :
  EV (R:=R) (((fw l p).length:Nat),(k,l.length),((p - k:Nat):Int),m,())=A.pure (.next (((fw l (p+1)).length:Nat),(k,l.length),((p+1 - k:Nat):Int),(if oc l p=true then m.set (fw l p).length (l.getD p 0) else m),())):=by
 have E:=h.lt;have U:=h.len;have hc:=P5 l p;have cp:=bA (n:=((p - k:Nat):Int) - 1) (by omega) (by omega);have c8:IntKind.wrap .i64 (((p - k:Nat):Int)+1)=((p+1 - k:Nat):Int):=(bA (by omega) (by omega)).trans (by omega);have eX:=bA (n:=(((fw l p).length:Nat):Int)+1) (by omega) (by omega);have d1:decide (((p - k:Nat):Int)<((l.length - k:Nat):Int))=true:=by grind
 have b5:(0:Int)<=((p - k:Nat):Int)/\((p - k:Nat):Int)<((l.length - k:Nat):Int):=by omega
 have cw:(0:Int)<=((p - k:Nat):Int) - 1/\((p - k:Nat):Int) - 1<((l.length - k:Nat):Int):=by omega
 have eg:(0:Int)<=(((fw l p).length:Nat):Int)/\(((fw l p).length:Nat):Int)<(m.length:Int):=by omega
 have ax:k+(((p - k:Nat):Int)).toNat=p:=by omega
 have aO:k+(((p - k:Nat):Int) - 1).toNat=p - 1:=by omega
 have g1:=h.cn p (by omega);have ey:=h.cn (p - 1) (by omega);have zv:oc l p=decide (l.getD p 0≠l.getD (p - 1) 0):=by
  unfold oc;grind
 unfold EV;simp only[bW,d1,if_true,cp,b5,cw,and_self,A.bq,cj,hY,ax,aO,g1,ey,<-zv];by_cases Jh:oc l p=true
 ·rw[if_pos Jh]at hc;simp only[Jh,if_true,eg,and_self,A.bq,A.aG,A.bZ,c8,eX,Int.toNat_natCast,decide_true];rw[hc];simp
 ·rw[if_neg Jh,List.append_nil]at hc;simp only[Jh,if_false,A.aG,A.bZ,c8,Bool.false_eq_true,decide_true,if_true];rw[hc]
theorem aq6{R:Type}{l:z1'}{k:Nat}(aj:l.length<60000)(mZ:0<k):∀ (n p:Nat) (m:z1'),l.length - p=n->p<=l.length->k<p->yI l p m->
  ∃ dy,yI l l.length dy/\A.loop (EV (R:=R)) (((fw l p).length:Nat),(k,l.length),((p - k:Nat):Int),m,())=A.pure (.next (((fw l l.length).length:Nat),dy,())):=by
 intro n;induction n with
 | zero=>
  intro p m aB ao an h;have:p=l.length:=by omega
  subst this;refine⟨m,h,A.r3 ?_⟩;unfold EV;simp
 | succ n aK=>
  intro p m aB ao an h;have ao:p<l.length:=by omega
  obtain⟨dy,E,U⟩:=aK (p+1) _ (by omega) ao (by omega) (h.step ao);exact⟨dy,E,(A.y2 (aq5 aj an mZ h ao)).trans U⟩
def wH(l:z1'):(Nat×Nat)×z1'×Unit:=((0,(fw l l.length).length),fw l l.length++List.replicate (l.length - (fw l l.length).length) 0,())
theorem aq7{l:z1'}(aj:l.length<60000):∀ (n p:Nat),l.length - p=n->p<=l.length->0<p->fw l p=l.take p->
  A.bind (A.loop wG ((p:Int),l,())) (V.bz λ(D:z1'×Unit)=>A.pure ((0,List.length D.1),D.1,()))=A.pure (wH l):=by
 intro n;induction n with
 | zero=>
  intro p aB ao aY hc;have:p=l.length:=by omega
  subst this;rw[List.take_length]at hc;have W:wG ((l.length:Int),l,())=A.pure (.done (.next (l,()))):=by
   unfold wG;simp
  rw[A.r3 W,A.aG,A.bZ];unfold wH;simp_all
 | succ n aK=>
  intro p aB ao aY hc;have ao:p<l.length:=by omega
  have cp:=bA (n:=(p:Int) - 1) (by omega) (by omega);have c8:=bA (n:=(p:Int)+1) (by omega) (by omega);have cw:(0:Int)<=(p:Int) - 1/\(p:Int) - 1<(l.length:Int):=by omega
  have ax:((p:Int) - 1).toNat=p - 1:=by omega
  have zv:oc l p=decide (l.getD p 0≠l.getD (p - 1) 0):=by
   unfold oc;rw[show decide (p=0)=false by grind,Bool.false_or]
  have pa:=P5 l p;have ZA:(l.take p).length=p:=by grind
  by_cases an:oc l p=true
  ·have eO:¬l.getD p 0=l.getD (p - 1) 0:=by grind
   have W:wG ((p:Int),l,())=A.pure (.next (((p+1:Nat):Int),l,())):=by
    unfold wG;simp_all
   rw[A.y2 W];refine aK (p+1) (by omega) ao (by omega) ?_;simp_all
  ·have heq:l.getD p 0=l.getD (p - 1) 0:=by grind
   rw[if_neg an,List.append_nil]at pa;have eB:yI l (p+1) l:=⟨rfl,by grind,by grind,λ_ _=>rfl⟩
   obtain⟨dy,E,U⟩:=aq6 (R:=V (Int×z1'×Unit) (V (Int×z1'×Unit) (V (z1'×Unit) ((Nat×Nat)×z1'×Unit)))) aj aY (l.length - (p+1)) (p+1) l rfl ao (by omega) eB;rw[show (fw l (p+1)).length=p by grind,show p+1 - p=1 from by omega]at U;have lR:=aq3 l l.length;have anl:=E.len;have kR:=E.Cm;have eg:(0:Int)<=((fw l l.length).length:Int)/\((fw l l.length).length:Int)<=(dy.length:Int):=by omega
   have jl:List.take (fw l l.length).length dy++List.replicate (dy.length - (fw l l.length).length) 0++List.drop ((fw l l.length).length+(List.replicate (dy.length - (fw l l.length).length) (0:Int)).length) dy=fw l l.length++List.replicate (l.length - (fw l l.length).length) 0:=by
    simp_all
   have W:wG ((p:Int),l,())=A.pure (.done (.done (wH l))):=by
    unfold wG;simp only[bW,cV ao,if_true,cN ao,A.bq,cp,cw,and_self,ax,Int.toNat_natCast,heq,decide_true];rw[A.bu (by omega)];erw [U];simp only[A.aG,A.bZ,bW,Int.toNat_natCast,hY,jl,A.bq];rw[A.bu ⟨eg.1,eg.2,Int.le_refl _⟩,A.bu ⟨Int.le_refl _,eg.1,by grind⟩];simp only[A.aG,A.py,jl];rfl
   rw[A.r3 W,A.aG,A.py]
def Ji(x:z1'×Unit):A ((Nat×Nat)×z1'×Unit):=A.dS (x.1.length<60000) (wH x.1)
theorem aq8(x):A.le (aq0 x) (Ji x):=A.br λh=>by
 obtain⟨l,u⟩:=x;change l.length<60000 at h;show (if decide (Int.ofNat l.length<2)=true then A.pure ((0,l.length),l,()) else A.bind (A.loop wG (1,l,())) (V.bz λ(D:z1'×Unit)=>A.pure ((0,List.length D.1),D.1,())))=A.pure (wH l);have nQ:∀ l:z1',l.length<2->fw l l.length=l:=λl aj=>by
  match l,aj with
  | [],_=>rfl
  | [a],_=>rfl
 by_cases U:l.length<2
 ·have aw:decide (Int.ofNat l.length<2)=true:=by grind
  rw[if_pos aw];unfold wH;simp_all
 ·have aw:¬decide (Int.ofNat l.length<2)=true:=by grind
  rw[if_neg aw];refine aq7 h (l.length - 1) 1 rfl (by omega) (by omega) ?_;match l,U with
  | a::l,_=>rfl
  | [],U=>grind
end Go.Fer.H
namespace Go.Fer.H
open A (V)
theorem aq9{l:z1'}:∀ j,j<l.length->l.getD j 0∈fw l l.length:=by
 intro j;induction j with
 | zero=>
  intro h;unfold fw;exact List.mem_map.2 ⟨0,List.mem_filter.2 ⟨by grind,by rfl⟩,rfl⟩
 | succ j aK=>
  intro h;by_cases an:oc l (j+1)=true
  ·unfold fw;grind
  ·have:l.getD (j+1) 0=l.getD j 0:=by
    unfold oc at an;grind
   grind
theorem aq_{l:z1'}{x:Int}:x∈fw l l.length<->x∈l:=by
 constructor
 ·intro h;unfold fw at h;grind
 ·intro h;obtain⟨j,aF,rfl⟩:=List.mem_iff_getElem.1 h;rw[<-sX (d:=0) aF];exact aq9 j aF
theorem aq'{l:z1'}(h:l.Pairwise (·<=·)):(fw l l.length).Pairwise (·<·):=by
 unfold fw;rw[List.pairwise_map];have M:((List.range l.length).filter (oc l)).Pairwise (·<·):=List.Pairwise.filter _ List.pairwise_lt_range;refine List.Pairwise.imp_of_mem ?_ M;intro i j G aF zA;obtain⟨ara,ja⟩:=List.mem_filter.1 aF;have ara:j<l.length:=by grind
 have eO:l.getD j 0≠l.getD (j - 1) 0:=by
  unfold oc at ja;grind
 have aE:=List.pairwise_iff_getElem.1 h;grind
def rU(a b:z1'):z1':=(ei 0 99).filter λid=>a.contains id||b.contains id
theorem aaa(a b:Int):(ei a b).Pairwise (·<·):=by
 unfold ei;rw[List.pairwise_map];exact (List.pairwise_lt_range).imp λh=>by omega
theorem arb{a b:z1'}(bb:a.Pairwise (·<·))(W:b.Pairwise (·<·))(h:∀ x,x∈a<->x∈b):a=b:=by
 have arc:a.Nodup:=bb.imp λh=>by omega
 have mz:b.Nodup:=W.imp λh=>by omega
 have ao:=(List.perm_ext_iff_of_nodup arc mz).2 h;rw[<-AH (bb.imp λh=>by omega) (List.Perm.refl a)];exact AH (W.imp λh=>by omega) ao
theorem ard{a b:z1'}(bb:∀ x∈a,b4 x 0 99=true)(W:∀ x∈b,b4 x 0 99=true):fw (fu hr (a++b)) (fu hr (a++b)).length=rU a b:=by
 refine arb (aq' (Ot _)) (List.Pairwise.filter _ (aaa 0 99)) λx=>?_;rw[aq_,Xd];unfold rU;simp only[List.mem_append,List.mem_filter,sM,Bool.or_eq_true,List.contains_iff_mem];refine⟨λh=>⟨?_,h⟩,λh=>h.2⟩;rcases h with h | h
 ·exact oU.1 (bb x h)
 ·exact oU.1 (W x h)
abbrev Jj:a1:=([],[],[],[],0,0,0,0,0,0,0)
def nw(c:a1)(more:List ba)(hd:z1'):a1:=(c.1,more,hd,c.2.2.2)
def od(c:a1)(more:List ba)(hd:z1'):a1×Int:=
 if cx c≠0 then (Jj,cx c) else if cx (nw c more hd)≠0 then (Jj,cx (nw c more hd)) else
 if k1 (c.2.1++more)=true then (Jj,91) else
 if (decide (Int.ofNat (gY (c.2.1++more)).length > 12)||decide (Int.ofNat (rU c.2.2.1 hd).length > 12))=true then (Jj,90) else (nw c (gY (c.2.1++more)) (rU c.2.2.1 hd),0)
abbrev Bx:aL:=⟨.az iO (.az (.slice hp) fF),.az iO bw,λx=>iy x.1/\x.2.1.length<2 ^ 63/\x.2.2.length<2 ^ 63,λx=>od x.1 x.2.1 x.2.2⟩
abbrev EW:aL:=⟨.slice mG,.slice mG,λx=>x.length<65536,λx=>x⟩
theorem are(x):A.le (WH x) (EW.sh x):=A.sK λh=>by
 unfold WH;rw[A.gh];refine⟨⟨false,by simp⟩,λb W=>?_⟩;change b=true->x=[]at W;cases b with
 | true=>rw[W rfl];exact A.eb.2 rfl
 | false=>
  simp only[Bool.false_eq_true,if_false];exact A.kM.2 ⟨gf (by grind),A.eb.2 (by simp)⟩
structure aab(c:a1):Prop where
 ec:c.1.length<=3
 ef:c.2.1.length<=12
 jm:c.2.2.1.length<=12
 n4:c.2.2.2.1.length<=4
 ids:∀ s∈c.2.1,b4 s.1 0 99=true
 hd:∀ n∈c.2.2.1,b4 n 0 99=true
 cl:k1 c.2.1=false
theorem Jk{c:a1}(h:cx c=0):aab c:=by
 unfold cx at h;by_cases hc:jT c=true
 ·rw[if_pos hc]at h;have lR:k1 c.2.1=false:=by
   grind
  have G:=H6 hc;unfold jT sV at hc;simp only[Bool.and_eq_true,List.all_eq_true,Bool.not_eq_true',Bool.or_eq_false_iff,decide_eq_false_iff_not]at hc;obtain⟨⟨⟨⟨⟨bl,_⟩,_⟩,U⟩,ag⟩,_⟩:=hc;exact⟨by omega,by omega,by omega,by omega,G.2,ag,lR⟩
 grind
theorem arf{a b:List ba}(bb:a.length<=12)(W:b.length<=12)(E:∀ s∈a,b4 s.1 0 99=true)(U:∀ s∈b,b4 s.1 0 99=true):v8 (a++b):=
 ⟨by grind,λs aE=>(List.mem_append.1 aE).elim (E s) (U s)⟩
theorem arh(x):A.le (Z7 hs.sh AQ.sh Jf.sh Jg ye Ji EW.sh x) (Bx.sh x):=A.br λh=>by
 obtain⟨c,more,hd⟩:=x;obtain⟨E,U,ag⟩:=h;change iy c at E;change more.length<2 ^ 63 at U;change hd.length<2 ^ 63 at ag;have tW:iy (nw c more hd):=⟨E.1,U,ag,E.2.2.2⟩
 unfold Z7;show _=A.pure (od c more hd);unfold od;rw[show hs.sh (c,more,hd).1=A.pure (cx c) from A.bS E _,A.aG];by_cases ax:cx c=0
 ·have g1:=Jk ax;rw[show hs.sh ((c,more,hd).1.1,(c,more,hd).2.1,(c,more,hd).2.2,(c,more,hd).1.2.2.2)=A.pure (cx (nw c more hd)) from A.bS tW _,A.aG];by_cases aO:cx (nw c more hd)=0
  ·have ey:=Jk aO;have ef:more.length<=12:=ey.ef;have jm:hd.length<=12:=ey.jm;have qa:=g1.ef;have mr:=g1.jm;have G:v8 (c.2.1++more):=arf g1.ef ey.ef g1.ids ey.ids;rw[if_neg (by grind),if_neg (by grind),if_neg (by omega),if_neg (by omega)];rw[show Jf.sh [(c,more,hd).1.2.1,(c,more,hd).2.1]=A.pure (c.2.1++more) from (A.bS ⟨by simp,by grind⟩ _).trans (congrArg A.pure (by simp)),A.aG];rw[show AQ.sh (c.2.1++more)=A.pure (if k1 (c.2.1++more)=true then ([],false) else (gY (c.2.1++more),true)) from A.bS G _,A.aG];cases hc:k1 (c.2.1++more) with
   | true=>simp
   | false=>
    simp only[Bool.false_eq_true,if_false,Bool.not_true];rw[show Jg ([c.2.2.1,hd],())=A.pure (c.2.2.1++hd,()) from (A.bS ⟨by simp,by grind⟩ _).trans (congrArg A.pure (by simp)),A.aG];rw[show ye ((c.2.2.1++hd,()):z1'×Unit)=A.pure (fu hr (c.2.2.1++hd),()) from A.bS (by grind) _,A.aG];rw[show Ji ((fu hr (c.2.2.1++hd),()):z1'×Unit)=A.pure (wH (fu hr (c.2.2.1++hd))) from A.bS (by show (fu hr (c.2.2.1++hd)).length<_;rw[HY];grind) _,A.aG];have ia:=ard g1.hd ey.hd;unfold wH;rw[show (fw (fu hr (c.2.2.1++hd)) (fu hr (c.2.2.1++hd)).length)=rU c.2.2.1 hd from ia];simp only[Nat.sub_zero,List.drop_zero,List.take_left];rw[show EW.sh c.1=A.pure c.1 from A.bS (by have:=g1.ec;omega) _,show EW.sh c.2.2.2.1=A.pure c.2.2.2.1 from A.bS (by have:=g1.n4;omega) _];simp only[A.iU,A.fC,A.bq];split<;>rfl
  grind
 grind
end Go.Fer.H
namespace Go.Fer.au
open A (V)
abbrev wI:ad:=.slice .str
abbrev uW:ad:=.st (.az k7 H.iO)
def cI:aU->List aU
 | []=>[[]]
 | c::s=>if c=32 then []::cI s else match cI s with
  | []=>[[c]]
  | w::l=>(c::w)::l
theorem uX:∀ (s:aU),1<=(cI s).length/\(cI s).length<=s.length+1
 | []=>by simp[cI]
 | c::s=>by
  have:=uX s;unfold cI;grind
theorem aac:∀ (s:aU) {w:aU},w∈cI s->w.length<=s.length
 | [],w,h=>by simp[cI]at h;simp[h]
 | c::s,w,h=>by
  have aK:=@aac s;unfold cI at h;grind
def gl:aU->Int->Int
 | [],n=>n
 | c::s,n=>if (decide ((c.toNat:Int)<48)||decide ((c.toNat:Int) > 57))=true then -1 else gl s (10*n+((c.toNat:Int) - 48))
def e0(s:aU):Int:=if (decide (s.length=0)||decide (s.length > 6)||decide (s.length > 1)&&decide ((s.getD 0 0).toNat=48))=true then -1 else gl s 0
theorem P6:∀ (s:aU) (n:Int) (k:Nat),0<=n->n<10 ^ k->gl s n<10 ^ (k+s.length)/\-1<=gl s n
 | [],n,k,aY,E=>by simp[gl];omega
 | c::s,n,k,aY,E=>by
  unfold gl;have ao:(0:Int)<10 ^ (k+(c::s).length):=Int.pow_pos (by decide);split
  ·omega
  ·rename_i hc;simp only[Bool.or_eq_true,decide_eq_true_eq,not_or]at hc;have:=P6 s (10*n+((c.toNat:Int) - 48)) (k+1) (by omega) (by omega);grind
theorem ari(s:aU):-1<=e0 s/\e0 s<=999999:=by
 unfold e0;split
 ·omega
 ·rename_i h;simp only[Bool.or_eq_true,decide_eq_true_eq,not_or]at h;have:=P6 s 0 0 (by decide) (by decide);have U:(10:Int) ^ (0+s.length)<=10 ^ 6:=by
   have:=Nat.pow_le_pow_right (n:=10) (by decide) (show 0+s.length<=6 by omega);grind
  omega
def ti(s:aU):Int:=match Go.Lib.atoiAll s with
 | .ok v=>v
 | .range=>Go.Lib.atoiSat s
 | _=>0
def rf(s:aU):Int×Bool:=(ti s,decide (0<=e0 s))
def EX(l:List aU):Option (z1'):=if l.all (λw=>decide (0<=e0 w))=true then some (l.map e0) else none
def rV(n:Int):aU:=Go.Lib.itoa (IntKind.wrap .i64 n)
theorem P7(n:Int):(rV n).length<=21:=by
 have:=p8 .i64 n;exact Go.Lib.itoa_length_le _ this.1 this.2
abbrev rW:aU:=[111,107]
abbrev By:aU:=[110,111]
abbrev aad:aU:=[110,111,110,101]
abbrev P8:aU:=[115,104,111,112]
abbrev arj:aU:=[108,105,97,114]
abbrev ark:aU:=[63]
def rX(l:z1'):aU:=if l=[] then aad else Go.Lib.join (l.map rV) [32]
def qH(e:Int)(l:z1'):aU:=if e=0 then rX l else if e=3 then aad else By
def yJ(x:(Int×Int)×Int):aU:=qH x.2 [x.1.1,x.1.2]
abbrev bo(l:z1')(i:Nat):Int:=l.getD i 0
def tj(d:bd)(m:List H.ba)(v:z1'):aU×bd:=if (H.od d.2 m v).2≠0 then (By,d) else (rW,(d.1,(H.od d.2 m v).1))
def oe(d:bd)(s:bG):aU×bd:=if iT s≠0 then (By,d) else (rW,(s,d.2))
def P9(d:bd)(l:z1'):aU×bd:=tj d [(bo l 0,bo l 1,bo l 2,1,bo l 3,bo l 4)] []
def P_(d:bd)(l:z1'):aU×bd:=tj d [(bo l 0,bo l 1,bo l 2,2,bo l 3,0)] []
def P'(d:bd)(l:z1'):aU×bd:=tj d [] l
def Qa(d:bd)(l:z1'):aU×bd:=(yJ (H.Ic d.2 (bo l 0)),d)
def Qb(d:bd)(l:z1'):aU×bd:=(yJ (H.AY d.2 (bo l 0)),d)
def Qc(d:bd)(l:z1'):aU×bd:=(yJ (H.If d.2 (bo l 0)),d)
def Qd(d:bd)(l:z1'):aU×bd:=(yJ (H.Ih d.2 (bo l 0)),d)
def Qe(r:z1'×Int):aU:=if (decide (r.2≠0)||decide (r.1.getD 0 0>=0))=true then qH r.2 r.1 else if r.1.length=1 then P8 else P8++[32]++rX (r.1.drop 1)
def Qf(d:bd)(l:z1'):aU×bd:=(Qe (H.rG d.2 (bo l 0) (bo l 1)),d)
def Qg(r:z1'×z1'×Int):aU:=if r.2.2≠0 then qH r.2.2 [] else rX r.1++[32,47,32]++rX r.2.1
def Qh(d:bd)(l:z1'):aU×bd:=(Qg (H.s3 d.2 (bo l 0)),d)
def mc(w:a_)(t:Int×Int×Int×Int):a_:=(w.1,w.2.1,w.2.2.1,w.2.2.2++[t])
def uY(d:bd)(l:z1'):aU×bd:=
 if cx (mc d.1.1 (bo l 0,bo l 1,bo l 2,bo l 3))≠0 then (By,d) else if (rM (mc d.1.1 (bo l 0,bo l 1,bo l 2,bo l 3)) (bo l 0)).2≠0 then (arj,d)
 else (rW,((mc d.1.1 (bo l 0,bo l 1,bo l 2,bo l 3),d.1.2),d.2))
def uS(r:Int×Int):aU:=if r.2≠0 then qH r.2 [] else List.getD [[],[115,117,114,101,108,121],[110,101,118,101,114],[112,101,114,104,97,112,115]] r.1.toNat []
def Qi(d:bd)(l:z1'):aU×bd:=(uS (pO d.1.1 (bo l 0) (bo l 1) (bo l 2)),d)
def yK(d:bd)(l:z1'):aU×bd:=if bo l 0>=(d.1.2.1.length:Int) then (By,d) else oe d (d.1.1,d.1.2.1.set (bo l 0).toNat (d.1.2.1.getD (bo l 0).toNat 0+bo l 1),d.1.2.2)
def Qj(d:bd)(l:z1'):aU×bd:=oe d (d.1.1,d.1.2.1,d.1.2.2.1,d.1.2.2.2.1,d.1.2.2.2.2.1++[(bo l 0,bo l 1,bo l 2)],d.1.2.2.2.2.2)
def Qk(d:bd)(l:z1'):aU×bd:=oe d (d.1.1,d.1.2.1,d.1.2.2.1++[(bo l 0,bo l 1,bo l 2,bo l 3,l.drop 4)],d.1.2.2.2)
def Ql(d:bd)(l:z1'):aU×bd:=oe d (d.1.1,d.1.2.1,d.1.2.2.1,d.1.2.2.2.1++[(l.drop 5,(bo l 0,bo l 1),bo l 2,bo l 3,bo l 4)],d.1.2.2.2.2)
def yL(d:bd)(l:z1'):aU×bd:=if bo l 0>=(d.1.2.2.2.1.length:Int) then (By,d) else (rW,((d.1.1,d.1.2.1,d.1.2.2.1,d.1.2.2.2.1.eraseIdx (bo l 0).toNat,d.1.2.2.2.2),d.2))
def Qm(d:bd)(l:z1'):aU×bd:=(qH (uV d.1 (bo l 0)).2 (uV d.1 (bo l 0)).1,d)
def Qn(d:bd)(l:z1'):aU×bd:=(qH (Bv d.1 (l.map (· - 1))).2 [(Bv d.1 (l.map (· - 1))).1],d)
def Qo(d:bd)(_:z1'):aU×bd:=(qH (yG d.1 true).2 [(yG d.1 true).1],d)
def Qp(d:bd)(_:z1'):aU×bd:=(qH (wF d.1).2 [(wF d.1).1],d)
def yM:Nat->bd->z1'->aU×bd
 | 0=>P9 | 1=>P_ | 2=>P' | 3=>Qa | 4=>Qb | 5=>Qc | 6=>Qd | 7=>Qf | 8=>Qh | 9=>uY
 | 10=>Qi | 11=>yK | 12=>Qj | 13=>Qk | 14=>Ql | 15=>yL | 16=>Qm | 17=>Qn | 18=>Qo | _=>Qp
def kJ:List (aU×Int×Bool):=[([108,101,110,100],5,false),([98,97,99,107],4,false),([118,111,105,100],1,false),([108,97,115,116,115],1,false),([102,101,101],1,false),([111,119,101,115],1,false),([104,101,108,100],1,false),([119,104,101,114,101],2,false),([109,105,115,115,105,110,103],1,false),([116,114,105,97,108],4,false),([102,105,116,115],3,false),([115,116,111,99,107],2,false),([99,111,109,101,115],3,false),([112,105,101,99,101],4,true),([119,105,115,104],5,true),([100,114,111,112],1,false),([99,97,110],1,false),([116,97,107,101,115],0,true),([109,111,115,116],0,false),([101,120,116,114,97],0,false)]
def og(w:aU):List (aU×Int×Bool)->Nat->Option (Int×Bool×Nat)
 | [],_=>none
 | p::l,i=>if w=p.1 then some (p.2.1,p.2.2,i) else og w l (i+1)
def EY(s:aU):Option (Nat×z1'):=
 match og ((cI s).getD 0 []) kJ 0 with
 | none=>none
 | some (k,m,j)=>if (decide (((cI s).length:Int) - 1<k)||decide (((cI s).length:Int) - 1 > k)&&!m)=true then none else (EX ((cI s).drop 1)).map λl=>(j,l)
def k9(d:bd)(s:aU):aU×bd:=match EY s with
 | none=>(ark,d)
 | some (j,l)=>yM j d l
def gT:bd->List aU->List aU×bd
 | d,[]=>([],d)
 | d,s::l=>((k9 d s).1::(gT (k9 d s).2 l).1,(gT (k9 d s).2 l).2)
theorem arl(d:bd)(a b:List aU):gT d (a++b)=((gT d a).1++(gT (gT d a).2 b).1,(gT (gT d a).2 b).2):=by
 induction a generalizing d with
 | nil=>rfl
 | cons s a aK=>simp only[List.cons_append,gT,aK]
theorem arn(d:bd)(a:List aU):(gT d a).1.length=a.length:=by
 induction a generalizing d with
 | nil=>rfl
 | cons s a aK=>simp only[gT,List.length_cons,aK]
def ko(d:bd):Int:=if (decide (iT d.1≠0)||decide (H.cx d.2≠0))=true then 120 else 0
def ix(d:bd):bd:=(d.1,(H.od d.2 [] []).1)
abbrev aae:bd:=((([],[],0,[]),[],[],[],[],0),[],[],[],[],0,0,0,0,0,0,0)
def EZ(d:bd)(l:List aU):List aU×bd×Int:=
 if ko d≠0 then ([],aae,ko d) else if l.length > 40 then ([],aae,2) else ((gT (ix d) l).1,(gT (ix d) l).2,0)
structure dm(d:bd):Prop where
 fL:e8 d.1
 uZ:iT d.1=0
 wJ:H.cx d.2=0
 yN:H.kl d.2.1<=60
theorem dm.val{d:bd}(h:dm d):l' d.1:=Bl h.fL h.uZ
theorem dm.aro{d:bd}(h:dm d):ko d=0:=by simp[ko,h.uZ,h.wJ]
theorem dm.aaf{d:bd}(h:dm d):H.aab d.2:=H.Jk h.wJ
theorem dm.gJ{d:bd}(h:dm d):H.gJ d.2:=by
 have:=h.aaf;exact⟨⟨by have:=this.ec;omega,by have:=this.ef;omega,by have:=this.jm;omega,by have:=this.n4;omega⟩,λ_=>h.yN⟩
theorem dm.iy{d:bd}(h:dm d):H.iy d.2:=h.gJ.fL
structure eE(k:Nat)(l:z1'):Prop where
 Qq:k<=l.length
 Jl:l.length<=10000
 num:∀ n∈l,0<=n/\n<=999999
theorem eE.bo{k:Nat}{l:z1'}(h:eE k l)(i:Nat):0<=bo l i/\bo l i<=999999:=by
 rcases Nat.lt_or_ge i l.length with G | G
 ·have:=h.num l[i] (by simp);grind
 ·grind
end Go.Fer.au
namespace Go.Fer.au
open A (V)
open H (gf)
abbrev Jm:aL:=⟨.int .i64,.str,λ_=>True,rV⟩
abbrev E0:aL:=⟨.az wI .str,.str,λx=>x.1.length<=60000/\(∀ w∈x.1,w.length<=21)/\x.2.length=1,λx=>Go.Lib.join x.1 x.2⟩
theorem aag:∀ (l:List aU) (s:aU) (n:Nat),(∀ w∈l,w.length<=n)->(Go.Lib.join l s).length<=l.length*(n+s.length)
 | [],s,n,h=>by simp[Go.Lib.join_nil]
 | x::r,s,n,h=>by
  rw[Go.Lib.join_cons];have aI:∀ (r:List aU),(∀ w∈r,w.length<=n)->(Go.Lib.joinTail s r).length<=r.length*(n+s.length):=by
   intro r;induction r with
   | nil=>intro _;simp[Go.Lib.joinTail]
   | cons y r aK=>
    intro h;have E:=aK λw hw=>h w (by grind);have U:=h y (by simp);simp only[Go.Lib.joinTail,List.map_cons,List.flatten_cons,List.length_append,List.length_cons,Nat.succ_mul]at E ⊢;omega
  have E:=aI r λw hw=>h w (by grind);have U:=h x (by simp);simp only[List.length_append,List.length_cons,Nat.succ_mul];omega
theorem Qr(l:z1'):(rX l).length<=l.length*22+4:=by
 unfold rX;split
 ·simp
 ·have:=aag (l.map rV) [32] 21 λw hw=>by
   obtain⟨n,_,rfl⟩:=List.mem_map.1 hw;exact P7 n
  grind
abbrev yO:aL:=⟨fF,.str,λx=>x.length<=60000,rX⟩
theorem arp(x):A.le (Yw Jm.sh E0.sh x) (yO.sh x):=A.br λh=>by
 change x.length<=60000 at h;unfold Yw;show _=A.pure (rX x);unfold rX;by_cases ah:x=[]
 ·grind
 ·have aj:x.length≠0:=by grind
  rw[if_neg (by grind),if_neg ah];rw[A.f' x (λi (o:List aU)=>(x,(x.length:Int),(i:Int),o,())) (λn o=>.next (o++[rV n])) (λo=>.next (o,())) (λi o=>o.length=i) [] ?_ rfl ?_ ?_]
  ·rw[dQ,uq,List.nil_append,A.aG,A.bZ];rw[show E0.sh (x.map rV,[32])=A.pure (Go.Lib.join (x.map rV) [32]) from A.bS ⟨by grind,λw hw=>by
    obtain⟨n,_,rfl⟩:=List.mem_map.1 hw;exact P7 n,rfl⟩ _,A.aG]
  ·rfl
  ·intro i G o af;have hw:=bA (n:=(i:Int)+1) (by omega) (by omega);refine⟨?_,λbf dc=>?_⟩
   ·simp only[bW,cV G,if_true,dh G,cN G,A.bq,cj,hw];rw[show Jm.sh x[i]=A.pure (rV x[i]) from rfl,A.aG,A.bu (gf (by grind))];rfl
   ·grind
  simp
abbrev qI:aL:=⟨.az (.int .i64) fF,.str,λx=>x.2.length<=60000,λx=>qH x.1 x.2⟩
theorem arq(x):A.le (Yv yO.sh x) (qI.sh x):=A.br λh=>by
 change x.2.length<=60000 at h;unfold Yv;show _=A.pure (qH x.1 x.2);unfold qH;rw[show yO.sh x.2=A.pure (rX x.2) from A.bS h _,A.aG];grind
abbrev yP:aL:=⟨.az mG (.int .i64),.str,λ_=>True,yJ⟩
theorem ars(x):A.le (Yu qI.sh x) (yP.sh x):=A.br λ_=>by
 unfold Yu;rw[show qI.sh (x.2,[x.1.1,x.1.2])=A.pure (yJ x) from A.bS (show 2<=60000 by decide) _,A.aG]
theorem yQ{e:Int}{l:z1'}(h:l.length<=60000):qI.sh (e,l)=A.pure (qH e l):=A.bS h _
theorem Qs{l:z1'}(h:l.length<=60000):yO.sh l=A.pure (rX l):=A.bS h _
theorem Jn(x:(Int×Int)×Int):yP.sh x=A.pure (yJ x):=rfl
def fx(k:Nat)(g:bd->z1'->aU×bd)(x:z1'×bd×Unit):A (aU×bd×Unit):=A.dS (dm x.2.1/\eE k x.1) ((g x.2.1 x.1).1,(g x.2.1 x.1).2,())
theorem nx:Int.toNat 0=0:=rfl
theorem ny:Int.toNat 1=1:=rfl
theorem nz:Int.toNat 2=2:=rfl
theorem nA:Int.toNat 3=3:=rfl
theorem nB:Int.toNat 4=4:=rfl
theorem nC:Int.toNat 5=5:=rfl
theorem nD{ak:Type}{k:Nat}{l:z1'}(h:eE k l)(m:A ak)(i:Int)(G:0<=i/\i<(k:Int)):A.ab (0<=i/\i<Int.ofNat l.length) m=m:=
 A.bu ⟨G.1,by have:=h.Qq;grind⟩ m
def Bz(x:List H.ba×z1'×bd×Unit):A (aU×bd×Unit):=A.dS (dm x.2.2.1/\x.1.length<2 ^ 63/\x.2.1.length<2 ^ 63) ((tj x.2.2.1 x.1 x.2.1).1,(tj x.2.2.1 x.1 x.2.1).2,())
theorem art(x):A.le (Yq H.Bx.sh x) (Bz x):=A.br λh=>by
 obtain⟨m,v,d,⟨⟩⟩:=x;obtain⟨aw,E,U⟩:=h;unfold Yq;rw[A.bq,show H.Bx.sh (d.2,m,v)=A.pure (H.od d.2 m v) from A.bS ⟨aw.iy,E,U⟩ _,A.aG];unfold tj;by_cases e:(H.od d.2 m v).2=0<;>simp[e]
theorem Qt{d:bd}(aw:dm d)(m:List H.ba)(v:z1')(E:m.length<2 ^ 63)(U:v.length<2 ^ 63):Bz (m,v,d,())=A.pure ((tj d m v).1,(tj d m v).2,()):=A.bS ⟨aw,E,U⟩ _
theorem aru(x):A.le (Yp Bz x) (fx 5 P9 x):=A.br λh=>by
 obtain⟨l,d,⟨⟩⟩:=x;obtain⟨aw,aj⟩:dm d/\eE _ l:=h;unfold Yp;simp (disch:=decide) only [nD aj,A.bq,nx,ny,nz,nA,nB,nC];rw[Qt aw _ _ (by simp) (by simp),A.aG];rfl
theorem arv(x):A.le (Yr Bz x) (fx 4 P_ x):=A.br λh=>by
 obtain⟨l,d,⟨⟩⟩:=x;obtain⟨aw,aj⟩:dm d/\eE _ l:=h;unfold Yr;simp (disch:=decide) only [nD aj,A.bq,nx,ny,nz,nA,nB,nC];rw[Qt aw _ _ (by simp) (by simp),A.aG];rfl
theorem OM(x):A.le (Ys Bz x) (fx 1 P' x):=A.br λh=>by
 obtain⟨l,d,⟨⟩⟩:=x;obtain⟨aw,aj⟩:dm d/\eE _ l:=h;unfold Ys;rw[Qt aw _ _ (by simp) (show l.length<2 ^ 63 by have:=aj.Jl;omega),A.aG];rfl
theorem arw(x):A.le (Yt H.Ie.sh yP.sh x) (fx 1 Qa x):=A.br λh=>by
 obtain⟨l,d,⟨⟩⟩:=x;obtain⟨aw,aj⟩:dm d/\eE _ l:=h;unfold Yt;simp (disch:=decide) only [nD aj,A.bq,nx,ny,nz,nA,nB,nC];rw[show H.Ie.sh (d.2,bo l 0)=A.pure _ from A.bS aw.gJ _];simp only[A.iU,A.fC,A.bq,Jn];rfl
theorem arx(x):A.le (Yx H.AZ.sh yP.sh x) (fx 1 Qb x):=A.br λh=>by
 obtain⟨l,d,⟨⟩⟩:=x;obtain⟨aw,aj⟩:dm d/\eE _ l:=h;unfold Yx;simp (disch:=decide) only [nD aj,A.bq,nx,ny,nz,nA,nB,nC];rw[show H.AZ.sh (d.2,bo l 0)=A.pure _ from A.bS aw.gJ _];simp only[A.iU,A.fC,A.bq,Jn];rfl
theorem ary(x):A.le (Yy H.Ig.sh yP.sh x) (fx 1 Qc x):=A.br λh=>by
 obtain⟨l,d,⟨⟩⟩:=x;obtain⟨aw,aj⟩:dm d/\eE _ l:=h;unfold Yy;simp (disch:=decide) only [nD aj,A.bq,nx,ny,nz,nA,nB,nC];rw[show H.Ig.sh (d.2,bo l 0)=A.pure _ from A.bS aw.gJ _];simp only[A.iU,A.fC,A.bq,Jn];rfl
theorem arz(x):A.le (Yz H.Ii.sh yP.sh x) (fx 1 Qd x):=A.br λh=>by
 obtain⟨l,d,⟨⟩⟩:=x;obtain⟨aw,aj⟩:dm d/\eE _ l:=h;unfold Yz;simp (disch:=decide) only [nD aj,A.bq,nx,ny,nz,nA,nB,nC];rw[show H.Ii.sh (d.2,bo l 0)=A.pure _ from A.bS aw.gJ _];simp only[A.iU,A.fC,A.bq,Jn];rfl
theorem Qu{a b:Int}:(ei a b).length=(b+1 - a).toNat:=by simp[ei];omega
theorem arA(c:H.a1)(u t:Int):(H.rG c u t).1.length<=101:=Nat.le_trans (List.length_filter_le ..) (by rw[Qu];decide)
theorem arB{c:H.a1}{u t:Int}(h:(H.rG c u t).2=0):0<(H.rG c u t).1.length:=by
 unfold H.rG at h ⊢;rcases H.A5 c (H.wa u t) with⟨E,_⟩ | ⟨E,U,ag,a6⟩
 ·omega
 ·have aC:=H.oX U;have cM:(0<=u/\u<=9)/\0<=t/\t<=9999:=by
   unfold H.wa at ag;rw[Bool.and_eq_true,H.oU,H.oU]at ag;exact ag
  have eO:H.cQ c≠[]:=by
   intro he;unfold H.dN at E;grind
  obtain⟨w,T,aV⟩:=List.exists_cons_of_ne_nil eO;have hw:H.iR c w=true:=H.wg (by grind);have an:=H.Yg aC hw cM.1 t;have W:-1<=H.lF c w u t/\H.lF c w u t<=99:=by
   rcases H.O5 c w u t with h | ⟨s,aE,h⟩
   ·omega
   ·rw[h];obtain⟨e,he,rfl⟩:=List.mem_map.1 aE;have:=H.O2 aC (List.mem_filter.1 he).1;omega
  refine List.length_pos_of_mem (a:=H.lF c w u t) (List.mem_filter.2 ⟨sM.2 W,?_⟩);rw[List.contains_iff_mem];unfold H.OG;grind
theorem arC(x):A.le (YA H.Ij.sh qI.sh yO.sh x) (fx 2 Qf x):=A.br λh=>by
 obtain⟨l,d,⟨⟩⟩:=x;obtain⟨aw,aj⟩:dm d/\eE _ l:=h;unfold YA;simp (disch:=decide) only [nD aj,A.bq,nx,ny,nz,nA,nB,nC];have E:=arA d.2 (bo l 0) (bo l 1);have U:=arB (c:=d.2) (u:=bo l 0) (t:=bo l 1);have hc:H.Ij.sh (d.2,bo l 0,bo l 1)=A.pure (H.rG d.2 (bo l 0) (bo l 1)):=A.bS aw.gJ _;simp only[hc];show _=A.pure (Qe (H.rG d.2 (bo l 0) (bo l 1)),d,());generalize H.rG d.2 (bo l 0) (bo l 1)=r at *
 simp only[A.iU,A.fC,A.bq];rw[A.bu (λW=>⟨⟨W,trivial⟩,⟨by decide,by grind⟩,trivial⟩),yQ (by omega),A.aG];unfold Qe;by_cases e:(decide (r.2≠0)||decide (r.1.getD 0 0>=0))=true
 ·grind
 ·rw[if_neg e,if_neg e];have bH:r.2=0:=by grind
  have ao:=U bH;by_cases ax:r.1.length=1
  ·grind
  ·rw[if_neg (by grind),if_neg ax];rw[A.bu ⟨by decide,by grind,Int.le_refl _⟩];have pG:List.take (Int.ofNat r.1.length).toNat r.1=r.1:=by simp
   rw[pG];rw[Qs (by grind),A.aG];have kS:=Qr (r.1.drop 1);rw[A.bu (gf (by grind))];rfl
theorem arD(c:H.a1)(t:Int):(H.s3 c t).1.length<=10/\(H.s3 c t).2.1.length<=10:=by
 unfold H.s3;split
 ·simp
 ·exact⟨Nat.le_trans (List.length_filter_le ..) (by rw[Qu];decide),Nat.le_trans (List.length_filter_le ..) (by rw[Qu];decide)⟩
theorem arE(x):A.le (YB H.Ik.sh qI.sh yO.sh x) (fx 1 Qh x):=A.br λh=>by
 obtain⟨l,d,⟨⟩⟩:=x;obtain⟨aw,aj⟩:dm d/\eE _ l:=h;unfold YB;simp (disch:=decide) only [nD aj,A.bq,nx,ny,nz,nA,nB,nC];have E:=arD d.2 (bo l 0);have hc:H.Ik.sh (d.2,bo l 0)=A.pure (H.s3 d.2 (bo l 0)):=A.bS aw.gJ _;simp only[hc];show _=A.pure (Qg (H.s3 d.2 (bo l 0)),d,());generalize H.s3 d.2 (bo l 0)=r at *
 simp only[A.iU,A.fC,A.bq];rw[yQ (by simp),Qs (by omega),Qs (by omega)];have e2:=Qr r.1;have oj:=Qr r.2.1;unfold Qg;by_cases e:r.2.2=0
 ·simp only[A.aG];rw[A.bu (gf (by grind)),A.bu (gf (by grind))];simp[e]
 ·simp[e]
theorem arF(w:a_)(i m k:Int):0<=uM w i m k/\uM w i m k<4:=by
 unfold uM Iu;grind
theorem arG(x):A.le (YD uN.sh qI.sh x) (fx 3 Qi x):=A.br λh=>by
 obtain⟨l,d,⟨⟩⟩:=x;obtain⟨aw,aj⟩:dm d/\eE _ l:=h;unfold YD;simp (disch:=decide) only [nD aj,A.bq,nx,ny,nz,nA,nB,nC];have hc:uN.sh (d.1.1,bo l 0,bo l 1,bo l 2)=A.pure (pO d.1.1 (bo l 0) (bo l 1) (bo l 2)):=A.bS aw.fL.1 _;simp only[hc];show _=A.pure (uS (pO d.1.1 (bo l 0) (bo l 1) (bo l 2)),d,());have E:0<=(pO d.1.1 (bo l 0) (bo l 1) (bo l 2)).1/\(pO d.1.1 (bo l 0) (bo l 1) (bo l 2)).1<4:=by
  have:=arF d.1.1 (bo l 0) (bo l 1) (bo l 2);unfold pO;grind
 generalize pO d.1.1 (bo l 0) (bo l 1) (bo l 2)=r at *
 simp only[A.iU,A.fC,A.bq];rw[yQ (by simp),A.bu ⟨E.1,E.2⟩];unfold uS;by_cases e:r.2=0<;>simp[e]
theorem arH{s:bG}(h:l' s)(w:Int):(uV s w).1.length<=2000:=by
 have:=h.IS;unfold uV Z4;grind
theorem arI(x):A.le (YL I8.sh qI.sh x) (fx 1 Qm x):=A.br λh=>by
 obtain⟨l,d,⟨⟩⟩:=x;obtain⟨aw,aj⟩:dm d/\eE _ l:=h;unfold YL;simp (disch:=decide) only [nD aj,A.bq,nx,ny,nz,nA,nB,nC];rw[show I8.sh (d.1,bo l 0)=A.pure (uV d.1 (bo l 0)) from A.bS aw.fL _];have:=arH aw.val (bo l 0);simp only[A.iU,A.fC,A.bq];rw[yQ (show (uV d.1 (bo l 0)).1.length<=60000 by omega),A.aG];rfl
def Jo(x:z1'×Unit):A (z1'×Unit):=A.dS (x.1.length<=3000000) x
theorem arJ(x):A.le (YM I9.sh Jo qI.sh x) (fx 0 Qn x):=A.br λh=>by
 obtain⟨l,d,⟨⟩⟩:=x;obtain⟨aw,aj⟩:dm d/\eE _ l:=h;have hm:=aj.Jl;change l.length<=10000 at hm;unfold YM;rw[show Jo (l,())=A.pure (l,()) from A.bS (by grind) _,A.aG];rw[A.f' l (λi (o:z1')=>((l.length:Int),(i:Int),o++l.drop i,d,())) (λn o=>.next (o++[n - 1])) (λo=>.next (o,d,())) (λi o=>o.length=i) [] ?_ rfl ?_ ?_]
 ·rw[dQ,uq,List.nil_append,A.aG,A.bZ,A.bq];rw[show I9.sh (d.1,l.map (· - 1))=A.pure (Bv d.1 (l.map (· - 1))) from A.bS ⟨aw.fL,by grind⟩ _,A.aG,yQ (by simp),A.aG];rfl
 ·simp
 ·intro i G o af;have hw:=bA (n:=(i:Int)+1) (by omega) (by omega);have aB:=aj.num l[i] (by simp);have gX:=bA (n:=l[i] - 1) (by omega) (by omega);subst af;have cc:o.length<(o++l.drop o.length).length:=by grind
  have aC:(o++l.drop o.length)[o.length]=l[o.length]:=by simp
  have aE:(o++l.drop o.length).set o.length (l[o.length] - 1)=o++[l[o.length] - 1]++l.drop (o.length+1):=by
   rw[List.set_append_right _ _ (Nat.le_refl _),Nat.sub_self,List.drop_eq_getElem_cons G,List.set_cons_zero,List.append_assoc];rfl
  refine⟨?_,λbf dc=>?_⟩
  ·simp only[bW,cV G,if_true,cN cc,A.bq,cj,hw];rw[show (o++l.drop o.length).getD (Int.toNat (o.length:Int)) 0=l[o.length] by grind,gX,Int.toNat_natCast,aE];rfl
  ·grind
 simp
theorem arK(x):A.le (YN I6.sh qI.sh x) (fx 0 Qo x):=A.br λh=>by
 obtain⟨l,d,⟨⟩⟩:=x;obtain⟨aw,aj⟩:dm d/\eE _ l:=h;unfold YN;rw[A.bq,show I6.sh d.1=A.pure (yG d.1 true) from A.bS aw.fL _,A.aG,yQ (by simp),A.aG];rfl
theorem arL(x):A.le (YO Bu.sh qI.sh x) (fx 0 Qp x):=A.br λh=>by
 obtain⟨l,d,⟨⟩⟩:=x;obtain⟨aw,aj⟩:dm d/\eE _ l:=h;unfold YO;rw[A.bq,show Bu.sh d.1=A.pure (wF d.1) from A.bS aw.fL _,A.aG,yQ (by simp),A.aG];rfl
def Qv{ak:Type}(x:List ak×Unit):A (List ak×Unit):=A.bind (A.any λ(b:Bool)=>b=true->x.1=[]) λ(y:Bool)=>if y=true then A.pure ([],()) else A.ab (bQ (Add.add 0 (List.length x.1))) (A.pure ([]++x.1,()))
abbrev fS(t:ad):aL:=⟨.slice t,.slice t,λx=>x.length<=3000000,λx=>x⟩
def qJ{ak:Type}(x:List ak×Unit):A (List ak×Unit):=A.dS (x.1.length<=3000000) x
theorem wK{ak:Type}(x:List ak×Unit):A.le (Qv x) (qJ x):=A.sK λh=>by
 unfold Qv;rw[A.gh];refine⟨⟨false,by simp⟩,λb W=>?_⟩;change b=true->x.1=[]at W;obtain⟨l,⟨⟩⟩:=x;cases b with
 | true=>rw[show l=[] from W rfl];exact A.eb.2 rfl
 | false=>
  simp only[Bool.false_eq_true,if_false];exact A.kM.2 ⟨by change l.length<=3000000 at h;simp only[hY,bQ];omega,A.eb.2 (by simp)⟩
theorem arM(x:z1'×Unit):A.le (Qv x) (Jo x):=wK x
def aah{ak:Type}(z:ak)(x:Int×Int×List ak×Unit):A ((Nat×Nat)×List ak×Unit):=
 A.ab (0<=x.1/\x.1<=x.2.1/\x.2.1<=Int.ofNat (List.length x.2.2.1)/\Int.ofNat (List.length x.2.2.1)<=Int.ofNat (List.length x.2.2.1)) (if decide
 (x.1=x.2.1)=true then A.pure ((0,List.length x.2.2.1),x.2.2.1,()) else A.ab ((0:Int)<=0/\0<=x.1/\x.1<=Int.ofNat (List.length x.2.2.1))
 (A.ab (0<=x.2.1/\x.2.1<=Int.ofNat (List.length x.2.2.1)/\Int.ofNat (List.length x.2.2.1)<=Int.ofNat (List.length x.2.2.1)) (A.ab (Add.add
 (Int.toNat x.1) (List.length (List.drop (Int.toNat x.2.1) (List.take (Int.toNat (Int.ofNat (List.length x.2.2.1))) x.2.2.1)))<=List.length x.2.2.1)
 (A.ab (0<=Int.ofNat (Add.add (Int.toNat x.1) (List.length (List.drop (Int.toNat x.2.1) (List.take (Int.toNat (Int.ofNat (List.length x.2.2.1)))
 x.2.2.1))) - Int.toNat 0)/\Int.ofNat (Add.add (Int.toNat x.1) (List.length (List.drop (Int.toNat x.2.1) (List.take (Int.toNat (Int.ofNat (List.length
 x.2.2.1))) x.2.2.1))) - Int.toNat 0)<=Int.ofNat (List.length x.2.2.1)/\Int.ofNat (List.length x.2.2.1)<=Int.ofNat (List.length (List.take
 (Int.toNat x.1) x.2.2.1++List.drop (Int.toNat x.2.1) (List.take (Int.toNat (Int.ofNat (List.length x.2.2.1))) x.2.2.1)++List.drop (Add.add
 (Int.toNat x.1) (List.length (List.drop (Int.toNat x.2.1) (List.take (Int.toNat (Int.ofNat (List.length x.2.2.1))) x.2.2.1)))) x.2.2.1) - Int.toNat
 0)) (A.ab True (A.pure ((Int.toNat 0,Add.add (Int.toNat x.1) (List.length (List.drop (Int.toNat x.2.1) (List.take (Int.toNat (Int.ofNat (List.length
 x.2.2.1))) x.2.2.1)))),List.take (Add.add (Int.toNat 0) (Int.toNat (Int.ofNat (Add.add (Int.toNat x.1) (List.length (List.drop (Int.toNat x.2.1)
 (List.take (Int.toNat (Int.ofNat (List.length x.2.2.1))) x.2.2.1))) - Int.toNat 0)))) (List.take (Int.toNat x.1) x.2.2.1++List.drop (Int.toNat
 x.2.1) (List.take (Int.toNat (Int.ofNat (List.length x.2.2.1))) x.2.2.1)++List.drop (Add.add (Int.toNat x.1) (List.length (List.drop (Int.toNat
 x.2.1) (List.take (Int.toNat (Int.ofNat (List.length x.2.2.1))) x.2.2.1)))) x.2.2.1)++List.replicate (Add.add (Int.toNat 0) (Int.toNat (Int.ofNat
 (List.length x.2.2.1))) - Add.add (Int.toNat 0) (Int.toNat (Int.ofNat (Add.add (Int.toNat x.1) (List.length (List.drop (Int.toNat x.2.1) (List.take
 (Int.toNat (Int.ofNat (List.length x.2.2.1))) x.2.2.1))) - Int.toNat 0)))) z++List.drop (Add.add (Add.add (Int.toNat 0) (Int.toNat (Int.ofNat
 (Add.add (Int.toNat x.1) (List.length (List.drop (Int.toNat x.2.1) (List.take (Int.toNat (Int.ofNat (List.length x.2.2.1))) x.2.2.1))) - Int.toNat
 0)))) (List.length (List.replicate (Add.add (Int.toNat 0) (Int.toNat (Int.ofNat (List.length x.2.2.1))) - Add.add (Int.toNat 0) (Int.toNat (Int.ofNat
 (Add.add (Int.toNat x.1) (List.length (List.drop (Int.toNat x.2.1) (List.take (Int.toNat (Int.ofNat (List.length x.2.2.1))) x.2.2.1))) - Int.toNat
 0)))) z))) (List.take (Int.toNat x.1) x.2.2.1++List.drop (Int.toNat x.2.1) (List.take (Int.toNat (Int.ofNat (List.length x.2.2.1))) x.2.2.1)++
 List.drop (Add.add (Int.toNat x.1) (List.length (List.drop (Int.toNat x.2.1) (List.take (Int.toNat (Int.ofNat (List.length x.2.2.1))) x.2.2.1))))
 x.2.2.1),())))))))
def Jp{ak:Type}(z:ak)(x:Int×Int×List ak×Unit):A ((Nat×Nat)×List ak×Unit):=A.dS (0<=x.1/\x.2.1=x.1+1/\x.1<(x.2.2.1.length:Int)/\x.2.2.1.length<=3000000) ((0,x.2.2.1.length - 1),x.2.2.1.eraseIdx x.1.toNat++[z],())
theorem arN{ak:Type}(z:ak)(x):A.le (aah z x) (Jp z x):=A.br λh=>by
 obtain⟨i,j,l,⟨⟩⟩:=x;obtain⟨aY,E,U,ag⟩:0<=i/\j=i+1/\i<(l.length:Int)/\l.length<=3000000:=h;subst E;obtain⟨n,rfl⟩:∃ n:Nat,i=n:=⟨i.toNat,by omega⟩
 have aB:n<l.length:=by omega
 have ax:((n:Int)+1).toNat=n+1:=by omega
 unfold aah;simp only[bW,Int.toNat_natCast,ax,List.take_length,hY,Int.toNat_zero,Nat.sub_zero,Nat.zero_add,List.length_drop];have aO:n+(l.length - (n+1))=l.length - 1:=by omega
 have cF:(l.take n++l.drop (n+1)++l.drop (l.length - 1))=l.eraseIdx n++l.drop (l.length - 1):=by rw[List.eraseIdx_eq_take_drop_succ]
 have ee:(l.eraseIdx n).length=l.length - 1:=by rw[List.length_eraseIdx_of_lt aB]
 have dZ:l.length - (l.length - 1)=1:=by omega
 rw[A.bu (by omega),if_neg (by simp;omega),A.bu (by omega),A.bu (by omega),A.bu (by omega)];rw[aO,cF,A.bu (by simp[ee]),A.bq];show _=A.pure ((0,l.length - 1),l.eraseIdx n++[z],());have ld:(l.eraseIdx n++l.drop (l.length - 1)).take (l.length - 1)=l.eraseIdx n:=by rw[List.take_append_of_le_length (by omega),List.take_of_length_le (by omega)]
 have tG:(l.eraseIdx n++l.drop (l.length - 1)).drop l.length=[]:=List.drop_eq_nil_of_le (by simp[ee]);simp only[dZ,ld,List.replicate_one,List.length_cons,List.length_nil,Nat.zero_add];rw[show l.length - 1+1=l.length by omega,tG,List.append_nil]
def wL(x:bG×Unit):A wi:=A.dS (yH x.1) (iQ x.1)
theorem Jq{x:z1'}(h:x.length<=2000000):H.oV.sh x=A.pure x:=A.bS (by show List.length x<=3000000;omega) _
theorem yR{t:ad}{x:(ad.slice t).ai}(h:List.length x<=2000000):(fS t).sh x=A.pure x:=A.bS (by show List.length x<=3000000;omega) _
theorem aai{gD:Type}{s:bG}(h:yH s)(fin:bG->A gD):Io (fS kI).sh (fS k4).sh (fS jW).sh qJ H.oV.sh (fS nq).sh (fS mJ).sh (fS pR).sh s fin=fin s:=by
 obtain⟨⟨cp,c8,eX,AV⟩,U,ag,a6,bM,dn,fT⟩:=h;obtain⟨⟨sp,mk,cut,aW⟩,st,j1,k_,rY,i_⟩:=s;change sp.length<=2000000 at cp;change mk.length<=2000000 at c8;change aW.length<=2000000 at eX;change ∀ m∈mk,m.length<=2000000/\∀ s∈m,s.2.1.length<=2000000 at AV;change st.length<=2000000 at U;change j1.length<=2000000 at ag;change k_.length<=2000000 at a6;change rY.length<=2000000 at bM;change ∀ p∈j1,p.2.2.2.2.length<=2000000 at dn;change ∀ p∈k_,p.1.length<=2000000 at fT;have aQ:(fS kI).sh sp=A.pure sp:=yR cp;have aS:(fS k4).sh mk=A.pure mk:=yR c8;have bP:(fS jW).sh aW=A.pure aW:=yR eX;have gy:H.oV.sh st=A.pure st:=Jq U;have oA:(fS nq).sh j1=A.pure j1:=yR ag;have vx:(fS mJ).sh k_=A.pure k_:=yR a6;have Dz:(fS pR).sh rY=A.pure rY:=yR bM;unfold Io;simp only[aQ,aS,bP,A.iU,A.fC,A.bq];rw[A.du mk (λi (_:Unit)=>((mk.length:Int),(i:Int),cut,st,j1,k_,rY,i_,0,0,sp,mk,aW,())) (λp b=>.next b) (λ_=>.next (cut,st,j1,k_,rY,i_,0,0,sp,mk,aW,())) () ?_ ?_ ?_]
 ·rw[dQ,A.aG,A.bZ];simp only[gy,oA,vx,Dz,A.iU,A.fC,A.bq];rw[A.du j1 (λi (_:Unit)=>((j1.length:Int),(i:Int),cut,i_,0,0,sp,mk,aW,st,j1,k_,rY,())) (λp b=>.next b) (λ_=>.next (cut,i_,0,0,sp,mk,aW,st,j1,k_,rY,())) () ?_ ?_ ?_]
  ·rw[dQ,A.aG,A.bZ];rw[A.du k_ (λi (_:Unit)=>((k_.length:Int),(i:Int),cut,i_,0,0,sp,mk,aW,st,j1,k_,rY,())) (λp b=>.next b) (λ_=>.next (cut,i_,0,0,sp,mk,aW,st,j1,k_,rY,())) () ?_ ?_ ?_]
   ·rw[dQ,A.aG,A.bZ]
   ·rfl
   ·intro i G b;have hw:=bA (n:=(i:Int)+1) (by omega) (by omega);have hc:H.oV.sh k_[i].1=A.pure k_[i].1:=Jq (fT _ (List.getElem_mem G));have mV:k_.set i (k_[i].1,k_[i].2)=k_:=List.set_getElem_self G;simp only[bW,cV G,if_true,dh G,cN G,A.bq,cj,hw];simp only[hc,A.iU,A.fC,A.bq,Int.toNat_natCast,mV];rfl
   ·simp
  ·rfl
  ·intro i G b;have hw:=bA (n:=(i:Int)+1) (by omega) (by omega);have hc:H.oV.sh j1[i].2.2.2.2=A.pure j1[i].2.2.2.2:=Jq (dn _ (List.getElem_mem G));have mV:j1.set i (j1[i].1,j1[i].2.1,j1[i].2.2.1,j1[i].2.2.2.1,j1[i].2.2.2.2)=j1:=List.set_getElem_self G;simp only[bW,cV G,if_true,dh G,cN G,A.bq,cj,hw];simp only[hc,A.iU,A.fC,A.bq,Int.toNat_natCast,mV];rfl
  ·simp
 ·rfl
 ·intro i G b;have hw:=bA (n:=(i:Int)+1) (by omega) (by omega);obtain⟨hm,aE⟩:=AV _ (List.getElem_mem G);have hc:qJ (mk[i],())=A.pure (mk[i],()):=A.bS (by show mk[i].length<=3000000;omega) _;have arO:mk.set i mk[i]=mk:=List.set_getElem_self G;simp only[bW,cV G,if_true,dh G,cN G,A.bq,cj,hc,A.aG];simp only[Int.toNat_natCast];rw[A.du mk[i] (λj (_:Unit)=>(i,(mk.length:Int),(i:Int),(mk[i].length:Int),(j:Int),cut,st,j1,k_,rY,i_,0,0,sp,(mk,i),aW,mk[i],())) (λp b=>.next b) (λ_=>.next ((mk.length:Int),(i:Int),cut,st,j1,k_,rY,i_,0,0,sp,(mk,i),aW,mk[i],())) () ?_ ?_ ?_]
  ·rw[dQ,A.aG,A.bZ];simp only[hw,arO];rfl
  ·rfl
  ·intro j aF b;have hw:=bA (n:=(j:Int)+1) (by omega) (by omega);have hc:H.oV.sh mk[i][j].2.1=A.pure mk[i][j].2.1:=Jq (aE _ (List.getElem_mem aF));have mV:mk[i].set j (mk[i][j].1,mk[i][j].2.1,mk[i][j].2.2)=mk[i]:=List.set_getElem_self aF;simp only[Prod.da,Prod.ft,Prod.gP,bW,cV aF,if_true,dh aF,cN aF,A.bq,cj,hw];simp only[hc,A.iU,A.fC,A.bq,Int.toNat_natCast,mV];rfl
  ·simp
 ·simp
theorem arP(x):A.le (an1 (fS kI).sh (fS k4).sh (fS jW).sh qJ H.oV.sh (fS nq).sh (fS mJ).sh (fS pR).sh x) (wL x):=A.br λh=>aai h _
abbrev Jr:aL:=⟨k7,k7,yH,λs=>s⟩
theorem arQ(x):A.le (an0 (fS kI).sh (fS k4).sh (fS jW).sh qJ H.oV.sh (fS nq).sh (fS mJ).sh (fS pR).sh x) (Jr.sh x):=A.br λh=>aai h _
def wM(x:bG×bd×Unit):A (aU×bd×Unit):=A.dS (dm x.2.1/\e8 x.1) ((oe x.2.1 x.1).1,(oe x.2.1 x.1).2,())
theorem arR(x):A.le (YF pT.sh x) (wM x):=A.br λh=>by
 obtain⟨s,d,⟨⟩⟩:=x;obtain⟨aw,aE⟩:dm d/\e8 s:=h;unfold YF;rw[show pT.sh s=A.pure (iT s) from A.bS aE _,A.aG];show _=A.pure ((oe d s).1,(oe d s).2,());unfold oe;by_cases e:iT s=0<;>simp[e]
theorem arS{d:bd}(aw:dm d){s:bG}(aE:e8 s):wM (s,d,())=A.pure ((oe d s).1,(oe d s).2,()):=A.bS ⟨aw,aE⟩ _
theorem Js{d:bd}(aw:dm d)(s:bG)(aE:e8 s):A.bind (wM (s,d,())) (λy=>A.pure (y.1,y.2.1,()))=A.pure ((oe d s).1,(oe d s).2,()):=by rw[arS aw aE,A.aG]
theorem dm.copy{d:bd}(h:dm d):yH d.1:=aqP h.val
theorem E1{d:bd}(h:dm d):wL (d.1,())=A.pure (iQ d.1):=A.bS h.copy _
theorem arT(x):A.le (YC tb.sh wL hs.sh x) (fx 4 uY x):=A.br λh=>by
 obtain⟨l,d,⟨⟩⟩:=x;obtain⟨aw,aj⟩:dm d/\eE _ l:=h;have hc:=aw.copy;have aE:gg (mc d.1.1 (bo l 0,bo l 1,bo l 2,bo l 3)):=⟨aw.fL.1.1,aw.fL.1.2.1,by have:=hc.1.2.2.1;simp only[mc,List.length_append,List.length_cons,List.length_nil];omega,aw.fL.1.2.2.2⟩
 unfold YC;rw[A.bq,E1 aw,A.aG];simp (disch:=decide) only [nD aj,A.bq,nx,ny,nz,nA,nB,nC];rw[A.bu (by have:=hc.1.2.2.1;simp only[hY,bQ,iQ];omega)];show A.bind (hs.sh (mc d.1.1 (bo l 0,bo l 1,bo l 2,bo l 3))) _=A.pure ((uY d l).1,(uY d l).2,());rw[show hs.sh (mc d.1.1 (bo l 0,bo l 1,bo l 2,bo l 3))=A.pure (cx (mc d.1.1 (bo l 0,bo l 1,bo l 2,bo l 3))) from A.bS aE _,A.aG];have hlen:tb.sh (mc d.1.1 (bo l 0,bo l 1,bo l 2,bo l 3),bo l 0)=A.pure (rM (mc d.1.1 (bo l 0,bo l 1,bo l 2,bo l 3)) (bo l 0)):=A.bS aE _;have Cw:tb.sh (((iQ d.1).1,(iQ d.1).2.1,(iQ d.1).2.2.1,(iQ d.1).2.2.2.2.1++[(bo l 0,bo l 1,bo l 2,bo l 3)]),bo l 0)=A.pure (rM (mc d.1.1 (bo l 0,bo l 1,bo l 2,bo l 3)) (bo l 0)):=hlen;simp only[Cw,A.iU,A.fC,A.bq];unfold uY;by_cases e:cx (mc d.1.1 (bo l 0,bo l 1,bo l 2,bo l 3))=0
 ·by_cases aO:(rM (mc d.1.1 (bo l 0,bo l 1,bo l 2,bo l 3)) (bo l 0)).2=0
  ·simp only[e,aO,ne_eq,not_true_eq_false,decide_false,Bool.false_eq_true,if_false];rfl
  grind
 grind
theorem arU(x):A.le (YE wL wM x) (fx 2 yK x):=A.br λh=>by
 obtain⟨l,d,⟨⟩⟩:=x;obtain⟨aw,aj⟩:dm d/\eE _ l:=h;have hc:=aw.copy;unfold YE;rw[A.bq,E1 aw,A.aG];simp (disch:=decide) only [nD aj,A.bq,nx,ny,nz,nA,nB,nC];show _=A.pure ((yK d l).1,(yK d l).2,());unfold yK;have aY:=aj.bo 0;have E:=aj.bo 1;by_cases e:bo l 0>=(d.1.2.1.length:Int)
 ·rw[if_pos (by simpa [iQ]using e),if_pos e]
 ·rw[if_neg (by simpa [iQ]using e),if_neg e];have aB:(bo l 0).toNat<d.1.2.1.length:=by omega
  rw[A.bu ⟨aY.1,by show bo l 0<(d.1.2.1.length:Int);omega⟩,A.bu ⟨aY.1,by show bo l 0<(d.1.2.1.length:Int);omega⟩];have ae:∀ n∈d.1.2.1,0<=n/\n<=10:=λn aB=>by
   have:=aw.val.s5.2;have fX:=aw.uZ;unfold iT at fX;grind [nr,b4]
  have W:=ae _ (List.getElem_mem aB);have aC:d.1.2.1.getD (bo l 0).toNat 0=d.1.2.1[(bo l 0).toNat]:=by grind
  have hw:=bA (n:=d.1.2.1.getD (bo l 0).toNat 0+bo l 1) (by omega) (by omega);have gX:IntKind.wrap .i64 (Add.add ((iQ d.1).2.2.2.2.2.1.getD (bo l 0).toNat 0) (bo l 1))=d.1.2.1.getD (bo l 0).toNat 0+bo l 1:=hw;rw[gX];exact Js aw (d.1.1,d.1.2.1.set (bo l 0).toNat (d.1.2.1.getD (bo l 0).toNat 0+bo l 1),d.1.2.2) ⟨aw.fL.1,by show (List.set d.1.2.1 _ _).length<_;rw[List.length_set];exact aw.fL.2.1,aw.fL.2.2⟩
theorem arV(x):A.le (YG wL wM x) (fx 3 Qj x):=A.br λh=>by
 obtain⟨l,d,⟨⟩⟩:=x;obtain⟨aw,aj⟩:dm d/\eE _ l:=h;have hc:=aw.copy;have bM:=hc.2.2.2.2.1;obtain⟨eH,dM,eJ,oJ,tk,tl,tm⟩:=aw.fL;unfold YG;rw[A.bq,E1 aw,A.aG];simp (disch:=decide) only [nD aj,A.bq,nx,ny,nz,nA,nB,nC];rw[A.bu (by simp only[hY,bQ,iQ];omega)];exact Js aw (d.1.1,d.1.2.1,d.1.2.2.1,d.1.2.2.2.1,d.1.2.2.2.2.1++[(bo l 0,bo l 1,bo l 2)],d.1.2.2.2.2.2) ⟨eH,dM,eJ,oJ,by grind,tl,tm⟩
theorem arW(x):A.le (YH wL wM x) (fx 4 Qk x):=A.br λh=>by
 obtain⟨l,d,⟨⟩⟩:=x;obtain⟨aw,aj⟩:dm d/\eE _ l:=h;have hc:=aw.copy;have bM:=hc.2.2.1;have hm:=aj.Jl;have hle:4<=l.length:=aj.Qq;obtain⟨eH,dM,eJ,oJ,tk,tl,tm⟩:=aw.fL;unfold YH;rw[A.bq,E1 aw,A.aG];simp (disch:=decide) only [nD aj,A.bq,nx,ny,nz,nA,nB,nC];rw[A.bu ⟨by decide,by grind,Int.le_refl _⟩,A.bu (by simp only[hY,bQ,iQ];omega)];simp only[bW,Int.toNat_natCast,List.take_length];exact Js aw (d.1.1,d.1.2.1,d.1.2.2.1++[(bo l 0,bo l 1,bo l 2,bo l 3,l.drop 4)],d.1.2.2.2) ⟨eH,dM,by grind,oJ,tk,λp ao=>by
  grind,tm⟩
theorem arX(x):A.le (YI wL wM x) (fx 5 Ql x):=A.br λh=>by
 obtain⟨l,d,⟨⟩⟩:=x;obtain⟨aw,aj⟩:dm d/\eE _ l:=h;have hc:=aw.copy;have bM:=hc.2.2.2.1;have hm:=aj.Jl;have hle:5<=l.length:=aj.Qq;obtain⟨eH,dM,eJ,oJ,tk,tl,tm⟩:=aw.fL;unfold YI;rw[A.bq,E1 aw,A.aG];simp (disch:=decide) only [nD aj,A.bq,nx,ny,nz,nA,nB,nC];rw[A.bu ⟨by decide,by grind,Int.le_refl _⟩,A.bu (by simp only[hY,bQ,iQ];omega)];simp only[bW,Int.toNat_natCast,List.take_length];exact Js aw (d.1.1,d.1.2.1,d.1.2.2.1,d.1.2.2.2.1++[(l.drop 5,(bo l 0,bo l 1),bo l 2,bo l 3,bo l 4)],d.1.2.2.2.2) ⟨eH,dM,eJ,by grind,tk,tl,λp ao=>by
  grind⟩
abbrev Jt:dB:=([],(0,0),0,0,0)
theorem arY(x):A.le (YJ (fS mJ).sh (Jp Jt) x) (fx 1 yL x):=A.br λh=>by
 obtain⟨l,d,⟨⟩⟩:=x;obtain⟨aw,aj⟩:dm d/\eE _ l:=h;have hc:=aw.copy.2.2.2.1;have aY:=aj.bo 0;unfold YJ;simp (disch:=decide) only [nD aj,A.bq,nx,ny,nz,nA,nB,nC];show _=A.pure ((yL d l).1,(yL d l).2,());unfold yL;by_cases e:bo l 0>=(d.1.2.2.2.1.length:Int)
 ·grind
 ·rw[if_neg (by grind),if_neg e];have lR:(fS mJ).sh d.1.2.2.2.1=A.pure d.1.2.2.2.1:=yR hc;have hw:=bA (n:=bo l 0+1) (by omega) (by omega);simp only[lR,A.iU,A.fC,A.bq,cj,hw];rw[show Jp Jt (bo l 0,bo l 0+1,d.1.2.2.2.1,())=A.pure _ from A.bS ⟨aY.1,rfl,by grind,by grind⟩ _,A.aG];grind
theorem aaj{c:H.a1}{m:List H.ba}{v:z1'}(h:(H.od c m v).2=0):H.cx c=0/\H.cx (H.od c m v).1=0/\(H.od c m v).1=H.nw c (H.gY (c.2.1++m)) (H.rU c.2.2.1 v):=by
 unfold H.od at h ⊢;split at h
 ·omega
 split at h
 ·omega
 split at h
 ·omega
 split at h
 ·omega
 rename_i b9 a2 a3 a4;rw[if_neg b9,if_neg a2,if_neg a3,if_neg a4];have dO:H.cx c=0:=by omega
 have e1:H.cx (H.nw c m v)=0:=by omega
 refine⟨dO,?_,rfl⟩;have g1:H.jT c=true:=by unfold H.cx at dO;grind
 have ey:H.jT (H.nw c m v)=true:=by unfold H.cx at e1;grind
 have aB:H.k1 (H.gY (c.2.1++m))=false:=by
  rw[H.AP];have:=(H.AP (c.2.1++m)).1 (by grind);exact λa bb b W=>this a (H.Ef bb) b (H.Ef W)
 have lV:H.jT (H.nw c (H.gY (c.2.1++m)) (H.rU c.2.2.1 v))=true:=by
  unfold H.jT H.sV at g1 ey ⊢;simp only[Bool.and_eq_true,List.all_eq_true,Bool.not_eq_true',Bool.or_eq_false_iff,H.nw]at g1 ey ⊢;obtain⟨⟨⟨⟨⟨⟨⟨⟨ow,z2⟩,z3⟩,z4⟩,z5⟩,aQ⟩,aS⟩,bP⟩,gy⟩:=g1;obtain⟨⟨⟨⟨_,_⟩,arZ⟩,ayQ⟩,_⟩:=ey;simp only[Bool.or_eq_true,not_or,bW,Bool.not_eq_true]at a4;refine⟨⟨⟨⟨⟨⟨⟨⟨ow,a4.1⟩,a4.2⟩,z4⟩,z5⟩,aQ⟩,λs aE=>?_⟩,λn aB=>?_⟩,gy⟩
  ·rcases List.mem_append.1 (H.Ef aE) with h | h
   ·exact aS s h
   ·exact arZ s h
  ·have:=(List.mem_filter.1 aB).2;grind
 unfold H.cx;rw[if_pos lV,if_neg (by show ¬H.k1 (H.gY (c.2.1++m))=true;grind)]
theorem Qw{d:bd}(aw:dm d)(m:List H.ba)(v:z1'):dm (tj d m v).2:=by
 unfold tj;split
 ·exact aw
 ·rename_i h;obtain⟨E,U,ag⟩:=aaj (c:=d.2) (m:=m) (v:=v) (by omega);exact⟨aw.fL,aw.uZ,U,by rw[ag];exact aw.yN⟩
theorem Ju{d:bd}(aw:dm d){s:bG}(aE:e8 s):dm (oe d s).2:=by
 unfold oe;split
 ·exact aw
 ·rename_i h;exact⟨aE,by grind,aw.wJ,aw.yN⟩
theorem ar0{d:bd}(aw:dm d){l:z1'}(aj:l.length<=10000)(j:Nat):dm (yM j d l).2:=by
 have hc:=aw.copy;obtain⟨eH,dM,eJ,oJ,tk,tl,tm⟩:=aw.fL;obtain⟨bF,c2,c3,c4,c5,lQ,ov⟩:=aw.copy;unfold yM;split<;>try exact aw
 ·exact Qw aw _ _
 ·exact Qw aw _ _
 ·exact Qw aw _ _
 ·unfold uY;split
  ·exact aw
  split
  ·exact aw
  rename_i h _;have h:cx (mc d.1.1 (bo l 0,bo l 1,bo l 2,bo l 3))=0:=by omega
  refine⟨⟨⟨eH.1,eH.2.1,by have:=hc.1.2.2.1;simp only[mc,List.length_append,List.length_cons,List.length_nil];omega,eH.2.2.2⟩,dM,eJ,oJ,tk,tl,tm⟩,?_,aw.wJ,aw.yN⟩;have aE:=aw.uZ;unfold iT at aE ⊢;rw[if_neg (by omega)];have:nr (mc d.1.1 (bo l 0,bo l 1,bo l 2,bo l 3),d.1.2)=nr d.1:=rfl;grind
 ·unfold yK;split
  ·exact aw
  ·exact Ju aw ⟨eH,by grind,eJ,oJ,tk,tl,tm⟩
 ·exact Ju aw ⟨eH,dM,eJ,oJ,by grind,tl,tm⟩
 ·exact Ju aw ⟨eH,dM,by grind,oJ,tk,λp ao=>by
   grind,tm⟩
 ·exact Ju aw ⟨eH,dM,eJ,by grind,tk,tl,λp ao=>by
   grind⟩
 ·unfold yL;split
  ·exact aw
  ·refine⟨⟨eH,dM,eJ,by grind,tk,tl,λp ao=>tm p (List.mem_of_mem_eraseIdx ao)⟩,?_,aw.wJ,aw.yN⟩;have aE:=aw.uZ;unfold iT at aE ⊢;split at aE
   ·omega
   ·rename_i u';rw[if_neg u'];split at aE
    ·rename_i ae;rw[if_pos];unfold nr at ae ⊢;simp only[Bool.and_eq_true,List.all_eq_true,decide_eq_true_eq]at ae ⊢;obtain⟨⟨⟨⟨⟨⟨⟨⟨dz,dP⟩,ox⟩,uQ⟩,da⟩,ft⟩,gP⟩,ir⟩,jR⟩:=ae;exact⟨⟨⟨⟨⟨⟨⟨⟨dz,dP⟩,ox⟩,uQ⟩,by grind⟩,λx ah=>ft x (List.mem_of_mem_eraseIdx ah)⟩,gP⟩,ir⟩,jR⟩
    omega
theorem aak:∀ (s:aU) (n k:Nat),n<10 ^ k->k+s.length<=18->0<=gl s n->Go.Lib.parseUint10 n s=.ok (gl s n).toNat
 | [],n,k,_,_,_=>by rfl
 | c::s,n,k,E,U,ag=>by
  unfold gl at ag ⊢;split at ag
  ·omega
  ·rename_i hc;rw[if_neg hc];simp only[Bool.or_eq_true,decide_eq_true_eq,not_or]at hc;have Hg:48<=c.toNat/\c.toNat<=57:=by omega
   have an:(10:Nat) ^ (k+1)<=10 ^ 18:=Nat.pow_le_pow_right (by decide) (by grind);have Xj:(10:Nat) ^ (k+1)=10 ^ k*10:=Nat.pow_succ ..;have e:10*(n:Int)+((c.toNat:Int) - 48)=((n*10+(c.toNat - 48):Nat):Int):=by omega
   rw[e]at ag ⊢;unfold Go.Lib.parseUint10;rw[if_pos Hg,if_neg (by omega),if_neg (by omega)];exact aak s _ (k+1) (by omega) (by grind) ag
theorem Qx{s:aU}(h:0<=e0 s):Go.Lib.atoiAll s=.ok (e0 s):=by
 unfold e0 at h ⊢;split at h
 ·omega
 ·rename_i W;rw[if_neg W];simp only[Bool.or_eq_true,decide_eq_true_eq,not_or]at W;obtain⟨⟨aY,dn⟩,_⟩:=W;cases s with
  | nil=>grind
  | cons c r=>
   have ao:=aak (c::r) 0 0 (by decide) (by omega) h;have aj:=P6 (c::r) 0 0 (by decide) (by decide);have gw:(10:Int) ^ (0+(c::r).length)<=10 ^ 6:=by
    have:=Nat.pow_le_pow_right (n:=10) (by decide) (show 0+(c::r).length<=6 by omega);grind
   have aw:¬(decide ((c.toNat:Int)<48)||decide ((c.toNat:Int) > 57))=true:=by
    intro hc;unfold gl at h;grind
   simp only[Bool.or_eq_true,decide_eq_true_eq,not_or]at aw;unfold Go.Lib.atoiAll;simp only;rw[if_neg (by omega)];unfold Go.Lib.parseMag;grind
theorem ar1{s:aU}(h:0<=e0 s):ti s=e0 s:=by
 unfold ti;rw[Qx h]
abbrev E2:aL:=⟨.str,.az (.int .i64) .bool,λx=>x.length<=10000,rf⟩
abbrev Jv:aL:=⟨.az .str .str,wI,λx=>x.1.length<=10000/\x.2=[32],λx=>cI x.1⟩
abbrev ar2:ad:=.st (.az bw (.az .bool .eu))
def Jw:List (aU×Int×Bool)->Nat->List (aU×A_)
 | [],_=>[]
 | p::l,i=>(p.1,p.2.1,p.2.2,some (119+i))::Jw l (i+1)
def wN:List (aU×A_):=Jw kJ 0
abbrev Jx:aL:=⟨.cU,.map .str ar2,λ_=>True,λ_=>wN⟩
theorem ar3(x):A.le (anx x) (Jx.sh x):=A.br λ_=>congrArg A.pure (show _=wN by decide +kernel)
theorem aal(w:aU):∀ (l:List (aU×Int×Bool)) (i:Nat),((Jw l i).find? λp=>decide (w=p.1)).map (λx=>x.2)=(og w l i).map λr=>(r.1,r.2.1,some (119+r.2.2))
 | [],_=>rfl
 | p::l,i=>by
  unfold Jw og;rw[List.find?_cons];by_cases h:w=p.1
  ·simp[h]
  ·simp[h,aal w l (i+1)]
theorem aam{w:aU}:∀ {l:List (aU×Int×Bool)} {i:Nat} {r:Int×Bool×Nat},og w l i=some r->i<=r.2.2/\r.2.2<i+l.length/\l[r.2.2 - i]?=some (w,r.1,r.2.1)
 | [],_,_,h=>by simp[og]at h
 | p::l,i,r,h=>by
  unfold og at h;split at h
  ·grind
  ·have:=aam h;grind
def Jy(j:Nat):Nat:=(kJ.getD j ([],0,false)).2.1.toNat
def E3(k:Nat):z1'×bd×Unit->A (aU×bd×Unit):=fx (Jy (k - 119)) (yM (k - 119))
theorem ar4:∀ p∈kJ,0<=p.2.1:=by decide
def Jz(x:List (aU×A_)×aU×bd×Unit):A (aU×bd×Unit):=A.dS (x.1=wN/\x.2.1.length<=10000/\dm x.2.2.1) ((k9 x.2.2.1 x.2.1).1,(k9 x.2.2.1 x.2.1).2,())
theorem ar5{l:List aU}(h:l.all (λw=>decide (0<=e0 w))=true):l.map ti=l.map e0:=List.map_congr_left λw hw=>ar1 (by grind)
theorem aan{aJ:Type}(r:aJ)(fin:z1'->aJ):∀ (l:List aU) (b:z1'),eZ (λw b=>if (!decide (0<=e0 w))=true then .done r else .next (b++[ti w])) fin l b=if l.all (λw=>decide (0<=e0 w))=true then fin (b++l.map ti) else r
 | [],b=>by simp[eZ]
 | w::l,b=>by
  unfold eZ;rw[List.all_cons,List.map_cons];cases h:decide (0<=e0 w) with
  | true=>
   simp only[Bool.not_true,Bool.false_eq_true,if_false,Bool.true_and];rw[aan r fin l,List.append_assoc];rfl
  | false=>rfl
theorem ar6(x):A.le (Yo Jv.sh E2.sh E3 x) (Jz x):=A.br λh=>by
 obtain⟨ar7,s,d,⟨⟩⟩:=x;obtain⟨ae,aE,aw⟩:ar7=wN/\s.length<=10000/\dm d:=h;subst ae;unfold Yo;show _=A.pure ((k9 d s).1,(k9 d s).2,());rw[show Jv.sh (s,[32])=A.pure (cI s) from A.bS ⟨aE,rfl⟩ _,A.aG];have aj:=uX s;rw[A.bu ⟨by decide,by grind⟩];have aq:((wN.find? λp=>decide ((cI s).getD (Int.toNat 0) []=p.1)).map λx=>x.2)=(og ((cI s).getD 0 []) kJ 0).map λr=>(r.1,r.2.1,some (119+r.2.2)):=aal _ _ _;have hw:=bA (n:=((cI s).length:Int) - 1) (by omega) (by omega);simp only[aq,bW,hw];unfold k9 EY;cases GH:og ((cI s).getD 0 []) kJ 0 with
 | none=>simp
 | some r=>
  obtain⟨k,m,j⟩:=r;obtain⟨_,aF,an⟩:=aam GH;simp only[Option.map_some,Option.isSome_some,Option.getD_some,Bool.not_true,Bool.false_or];by_cases W:(decide (((cI s).length:Int) - 1<k)||decide (((cI s).length:Int) - 1 > k)&&!m)=true
  ·grind
  ·rw[if_neg W,if_neg W];rw[A.bu ⟨by decide,by omega,Int.le_refl _⟩];simp only[Int.toNat_natCast,List.take_length,show Int.toNat 1=1 from rfl];have vk:((cI s).drop 1).length=(cI s).length - 1:=by simp
   rw[A.f' ((cI s).drop 1) (λi (o:z1')=>((cI s).drop 1,(((cI s).drop 1).length:Int),(i:Int),(k,m,some (119+j)),o,d,())) (λw o=>if (!decide (0<=e0 w))=true then .done (.done ([63],d,())) else .next (o++[ti w])) (λo=>.next ((k,m,some (119+j)),o,d,())) (λi o=>o.length=i) [] ?_ rfl ?_ ?_]
   ·rw[aan,A.aG];unfold EX;by_cases bb:((cI s).drop 1).all (λw=>decide (0<=e0 w))=true
    ·rw[if_pos bb,if_pos bb,A.bZ,ar5 bb,List.nil_append];rw[A.bu]
     ·have y6:0<=k:=ar4 _ (List.mem_of_getElem? an);have cc:Jy j=k.toNat:=by
       unfold Jy;grind
      have cM:eE (Jy j) (((cI s).drop 1).map e0):=by
       simp only[Bool.or_eq_true,decide_eq_true_eq,not_or]at W;refine⟨by grind,by grind,λn aB=>?_⟩;obtain⟨w,hw,rfl⟩:=List.mem_map.1 aB;have:=List.all_eq_true.1 bb w hw;exact⟨by grind,(ari w).2⟩
      have ayR:E3 (119+j) (((cI s).drop 1).map e0,d,())=A.pure ((yM j d (((cI s).drop 1).map e0)).1,(yM j d (((cI s).drop 1).map e0)).2,()):=by
       unfold E3;rw[show 119+j - 119=j by omega];exact A.bS ⟨aw,cM⟩ _
      simp_all
     ·have:j<20:=by simpa [kJ]using aF
      exact⟨119+j,by
       have e:∀ j:Fin 20,(119+j.val)∈[119,120,121,122,123,124,125,126,127,128,129,130,131,132,133,134,135,136,137,138]:=by decide
       exact e ⟨j,this⟩,rfl⟩
    ·rw[if_neg bb,if_neg bb];rfl
   ·rfl
   ·intro i G o af;have hw:=bA (n:=(i:Int)+1) (by omega) (by omega);refine⟨?_,λbf dc=>?_⟩
    ·simp only[cV G,if_true,dh G,cN G,A.bq,cj,hw];rw[show E2.sh ((cI s).drop 1)[i]=A.pure (rf ((cI s).drop 1)[i]) from A.bS (Nat.le_trans (aac s (List.mem_of_mem_drop (List.getElem_mem G))) aE) _,A.aG];unfold rf;by_cases aB:0<=e0 ((cI s).drop 1)[i]
     ·simp only[aB,decide_true,Bool.not_true,Bool.false_eq_true,if_false];rw[A.bu (gf (by grind))];rfl
     simp_all
    grind
   simp
theorem aao{d:bd}(aw:dm d){s:aU}(aE:s.length<=10000):dm (k9 d s).2:=by
 unfold k9;split
 ·exact aw
 ·rename_i j l ao;refine ar0 aw ?_ j;unfold EY at ao;split at ao
  ·grind
  ·split at ao
   ·grind
   ·unfold EX at ao;have:=uX s;grind
abbrev rZ:aL:=⟨uW,.int .i64,λd=>e8 d.1/\H.iy d.2,ko⟩
theorem ar8(x):A.le (Yl pT.sh H.hs.sh x) (rZ.sh x):=A.br λh=>by
 obtain⟨E,U⟩:e8 x.1/\H.iy x.2:=h;unfold Yl;rw[show pT.sh x.1=A.pure (iT x.1) from A.bS E _,A.aG,show H.hs.sh x.2=A.pure (H.cx x.2) from A.bS U _,A.kF,A.aG];show _=A.pure (ko x);unfold ko;grind
theorem ar9(l:List H.ba):(H.gY l).length<=l.length:=by
 have q8:(H.gY l).map (·.1) ⊆ l.map (·.1):=by
  intro x ah;obtain⟨s,aE,rfl⟩:=List.mem_map.1 ah;exact List.mem_map_of_mem (H.Ef aE)
 have:=(H.XZ l).length_le_of_subset q8;grind
theorem ar_(l:z1'):(H.rU l []).length<=l.length:=by
 unfold H.rU;have aB:((ei 0 99).filter λid=>l.contains id||List.contains [] id).Nodup:=((H.aaa 0 99).imp λh=>by omega:(ei 0 99).Nodup).filter _;refine aB.length_le_of_subset λx ah=>?_;grind
theorem aap{c:H.a1}(h:H.cx c=0):H.od c [] []=(H.nw c (H.gY c.2.1) (H.rU c.2.2.1 []),0):=by
 have G:=H.Jk h;have g:H.jT c=true:=by unfold H.cx at h;grind
 have U:H.cx (H.nw c [] [])=0:=by
  have:H.jT (H.nw c [] [])=true:=by
   unfold H.jT H.sV at g ⊢;simp only[Bool.and_eq_true,List.all_eq_true,Bool.not_eq_true',Bool.or_eq_false_iff,H.nw]at g ⊢;grind
  unfold H.cx;rw[if_pos this];rfl
 have e2:=ar9 c.2.1;have oj:=ar_ c.2.2.1;have ef:=G.ef;have jm:=G.jm;unfold H.od;rw[if_neg (by simp[h]),if_neg (by omega),List.append_nil,if_neg (by rw[G.cl];decide),if_neg];grind
theorem ar'{d:bd}(h:dm d):ix d=(d.1,H.nw d.2 (H.gY d.2.2.1) (H.rU d.2.2.2.1 [])):=by
 unfold ix;rw[aap h.wJ]
theorem aaq{d:bd}(h:dm d):dm (ix d):=by
 have:=aaj (c:=d.2) (m:=[]) (v:=[]) (by rw[aap h.wJ]);exact⟨h.fL,h.uZ,this.2.1,by rw[ar' h];exact h.yN⟩
theorem aar{p:bd->Prop}{q:aU->Prop}(ao:∀ d s,p d->q s->p (k9 d s).2):∀ (l:List aU) (d:bd),p d->(∀ s∈l,q s)->p (gT d l).2
 | [],d,h,_=>h
 | s::l,d,h,bt=>aar ao l _ (ao d s h (bt s (by simp))) λt aI=>bt t (by grind)
theorem asa{d:bd}(h:dm d){l:List aU}(aj:∀ s∈l,s.length<=10000):dm (gT d l).2:=aar (p:=dm) (λd s h aE=>aao h aE) l d h aj
def uC(x:bd×Unit):A (bd×Unit):=A.dS (dm x.1) (ix x.1,())
theorem OL(x):A.le (Ym H.Bx.sh Jr.sh x) (uC x):=A.br λh=>by
 obtain⟨d,⟨⟩⟩:=x;have h:dm d:=h;unfold Ym;rw[show H.Bx.sh (d.2,[],[])=A.pure (H.od d.2 [] []) from A.bS ⟨h.iy,by simp,by simp⟩ _,A.aG];rw[show Jr.sh d.1=A.pure d.1 from A.bS h.copy _];simp only[A.iU,A.fC,A.bq];rfl
abbrev aas(x:bd×List aU):Prop:=e8 x.1.1/\H.gJ x.1.2/\x.2.length<2 ^ 63/\∀ s∈x.2,s.length<=10000
theorem Qy{d:bd}(E:e8 d.1)(U:H.gJ d.2)(h:ko d=0):dm d:=by
 unfold ko at h;split at h
 ·omega
 ·rename_i W;simp only[Bool.or_eq_true,decide_eq_true_eq,not_or,ne_eq,Decidable.not_not]at W;exact⟨E,W.1,W.2,U.2 W.2⟩
abbrev u0:aL:=⟨.az uW wI,.az wI (.az uW (.int .i64)),aas,λx=>EZ x.1 x.2⟩
theorem aat:∀ (l:List aU) (o:List aU) (d:bd),l.foldl (λ(p:List aU×bd) s=>(p.1++[(k9 p.2 s).1],(k9 p.2 s).2)) (o,d)=(o++(gT d l).1,(gT d l).2)
 | [],o,d=>by simp[gT]
 | s::l,o,d=>by
  rw[List.foldl_cons,aat l];simp[gT]
theorem asb(x):A.le (Yk rZ.sh uC Jx.sh Jz x) (u0.sh x):=A.br λh=>by
 obtain⟨d,l⟩:=x;obtain⟨E,U,ag,a6⟩:aas (d,l):=h;unfold Yk;show _=A.pure (EZ d l);unfold EZ;rw[show rZ.sh d=A.pure (ko d) from A.bS ⟨E,U.fL⟩ _,A.aG];by_cases e:ko d=0
 ·rw[if_neg (show ¬decide (ko d≠0)=true by grind),if_neg (show ¬ko d≠0 by omega)];have aw:=Qy E U e;by_cases aO:l.length > 40
  ·grind
  ·rw[if_neg (show ¬decide (Int.ofNat l.length > 40)=true by grind),if_neg aO];rw[show uC (d,())=A.pure (ix d,()) from A.bS aw _,A.aG,show Jx.sh ()=A.pure wN from rfl,A.aG];rw[A.f' l (λi (p:List aU×bd)=>(wN,l,(l.length:Int),(i:Int),p.1,0,0,0,0,0,0,0,0,0,p.2,())) (λs p=>.next (p.1++[(k9 p.2 s).1],(k9 p.2 s).2)) (λp=>.next (p.1,0,0,0,0,0,0,0,0,0,p.2,())) (λi p=>dm p.2/\p.1.length=i) ([],ix d) ?_ ⟨aaq aw,rfl⟩ ?_ ?_]
   ·rw[dQ,aat,A.aG,A.bZ,A.bq,List.nil_append]
   ·rfl
   ·rintro i G ⟨o,va⟩ ⟨w6,af⟩;have hw:=bA (n:=(i:Int)+1) (by omega) (by omega);have aE:=a6 _ (List.getElem_mem G);change dm va at w6;change o.length=i at af;refine⟨?_,λbf dc=>?_⟩
    ·simp only[bW,cV G,if_true,dh G,cN G,A.bq,cj,hw];rw[show Jz (wN,l[i],va,())=A.pure _ from A.bS ⟨rfl,aE,w6⟩ _,A.aG,A.bu (gf (by grind))];rfl
    ·simp only[V.next.injEq]at dc;subst dc;exact⟨aao w6 aE,by grind⟩
   simp
 grind
end Go.Fer.au
namespace Go.Fer.au
open A (V)
def qK:bd:=(Bw,[(0,0)],[],[],[],10,30,100,500,1000,2000,300)
def aau(asc:Unit->A bG)(x:Unit):A bd:=A.bind (asc ()) λy=>A.pure (y,[(0,0)],[],[],[],10,30,100,500,1000,2000,300)
abbrev JA:aL:=⟨.cU,uW,λ_=>True,λ_=>qK⟩
theorem asd(x):A.le (aau Ja.sh x) (JA.sh x):=A.br λ_=>by
 unfold aau;rw[show Ja.sh ()=A.pure Bw from rfl,A.aG];rfl
theorem ase:ko qK=0:=by decide +kernel
end Go.Fer.au
namespace Go.Fer.au
open A (V)
open H (gf)
theorem asf(x):A.le (Yj H.hs.sh pT.sh x) (rZ.sh x):=A.br λh=>by
 obtain⟨E,U⟩:e8 x.1/\H.iy x.2:=h;unfold Yj;rw[show pT.sh x.1=A.pure (iT x.1) from A.bS E _,A.aG,show H.hs.sh x.2=A.pure (H.cx x.2) from A.bS U _,A.kF,A.aG];show _=A.pure (ko x);unfold ko;grind
theorem aav(c:UInt8):c.1.1.1=c.toNat:=rfl
theorem aaw{n:Int}(h:0<=n)(U:n<=255):IntKind.wrap .u8 n=n:=by
 show (if (false&&decide (n % 2 ^ 8>=(2 ^ (8 - 1):Int)))=true then n % 2 ^ 8 - 2 ^ 8 else n % 2 ^ 8)=n;grind
theorem Qz{ak β aJ:Type}{p:ak->Bool}{r:aJ}{g:ak->β->β}{fin:β->aJ}:∀ (l:List ak) (b:β),eZ (λx b=>if p x=true then .done r else .next (g x b)) fin l b=if l.any p=true then r else fin (l.foldl (λb x=>g x b) b)
 | [],b=>rfl
 | x::l,b=>by
  unfold eZ;rw[List.any_cons,List.foldl_cons];cases h:p x with
  | true=>rfl
  | false=>
   simp only[Bool.false_eq_true,if_false,Bool.false_or];exact Qz l (g x b)
def yS(c:UInt8):Bool:=decide ((c.toNat:Int)<48)||decide ((c.toNat:Int) > 57)
theorem asg(c:UInt8)(s:aU)(n:Int):gl (c::s) n=if yS c=true then -1 else gl s (10*n+((c.toNat:Int) - 48)):=rfl
theorem aax{aJ:Type}{r:aJ}{fin:Int->aJ}:∀ (s:aU) (n:Int),0<=n->eZ (λc n=>if yS c=true then .done r else .next (10*n+((c.toNat:Int) - 48))) fin s n=if gl s n=-1 then r else fin (gl s n)
 | [],n,h=>by
  show fin n=if n=-1 then r else fin n
  grind
 | c::s,n,h=>by
  rw[asg];unfold eZ;by_cases hc:yS c=true
  ·grind
  ·have oL:=hc;unfold yS at oL;simp only[Bool.or_eq_true,decide_eq_true_eq,not_or]at oL;simp only[hc];exact aax s _ (by omega)
abbrev JB:aL:=⟨.str,.int .i64,λ_=>True,e0⟩
theorem ash(x):A.le (YW x) (JB.sh x):=A.br λ_=>by
 unfold YW;show _=A.pure (e0 x);unfold e0;simp only[bW,aav,show Int.toNat 0=0 from rfl];rw[A.bu (λW=>⟨⟨W,trivial⟩,⟨Int.le_refl _,by grind⟩,trivial⟩)];have e:(decide ((x.length:Int)=0)||decide ((x.length:Int) > 6)||decide ((x.length:Int) > 1)&&decide (((x.getD 0 0).toNat:Int)=48))=(decide (x.length=0)||decide (x.length > 6)||decide (x.length > 1)&&decide ((x.getD 0 0).toNat=48)):=by
  grind
 rw[e];by_cases W:(decide (x.length=0)||decide (x.length > 6)||decide (x.length > 1)&&decide ((x.getD 0 0).toNat=48))=true
 ·grind
 ·rw[if_neg W,if_neg W];have dn:x.length<=6:=by
   grind
  rw[A.f' x (λi (n:Int)=>(x,n,(i:Int),())) (λc n=>if yS c=true then .done (.done (-1)) else .next (10*n+((c.toNat:Int) - 48))) (λn=>.next (n,())) (λi n=>0<=n/\n<10 ^ i) 0 ?_ ⟨Int.le_refl _,by decide⟩ ?_ ?_]
  ·rw[aax _ _ (Int.le_refl _),A.aG];by_cases aw:gl x 0=-1
   ·rw[if_pos aw,aw];rfl
   ·rw[if_neg aw];rfl
  ·rfl
  ·rintro i G n ⟨aY,E⟩;have hw:=bA (n:=(i:Int)+1) (by omega) (by omega);have ao:(10:Int) ^ i<=10 ^ 5:=by
    have:=Nat.pow_le_pow_right (n:=10) (by decide) (show i<=5 by omega);grind
   have xP:(10:Int) ^ (i+1)=10 ^ i*10:=Int.pow_succ ..;refine⟨?_,λbf dc=>?_⟩
   ·simp only[cV G,if_true,dh G,cN G,A.bq,cj,hw];rw[A.bu (λh=>⟨⟨h,h⟩,trivial,trivial⟩)];by_cases hc:yS x[i]=true
    ·rw[if_pos hc];have oL:(decide ((x[i].toNat:Int)<48)||decide ((x[i].toNat:Int) > 57))=true:=hc;simp_all
    ·rw[if_neg hc];have oL:¬(decide ((x[i].toNat:Int)<48)||decide ((x[i].toNat:Int) > 57))=true:=hc;rw[if_neg oL];simp only[Bool.or_eq_true,decide_eq_true_eq,not_or]at oL;rw[aaw (by omega) (by omega),bA (n:=(x[i].toNat:Int) - 48) (by omega) (by omega),bA (n:=10*n) (by omega) (by omega),bA (n:=10*n+((x[i].toNat:Int) - 48)) (by omega) (by omega)];rfl
   ·split at dc
    ·grind
    ·rename_i hc;unfold yS at hc;grind
  simp
def BA(o:List aU)(c:UInt8):List aU:=if c=32 then o++[[]] else o.set (o.length - 1) (o.getD (o.length - 1) []++[c])
theorem QA:∀ (s:aU) (o:List aU) (w:aU),s.foldl BA (o++[w])=o++(match cI s with | []=>[w] | v::l=>(w++v)::l)
 | [],o,w=>by simp[cI]
 | c::s,o,w=>by
  rw[List.foldl_cons];unfold cI;by_cases hc:c=32
  ·rw[if_pos hc,show BA (o++[w]) c=o++[w]++[[]] from if_pos hc];have:=QA s (o++[w]) [];rw[this];have aj:=uX s;grind
  ·rw[if_neg hc,show BA (o++[w]) c=_ from if_neg hc];have e:(o++[w]).set ((o++[w]).length - 1) ((o++[w]).getD ((o++[w]).length - 1) []++[c])=o++[w++[c]]:=by
    simp
   rw[e];have:=QA s o (w++[c]);rw[this];have aj:=uX s;cases h:cI s with
   | nil=>exact absurd aj.1 (by rw[h];decide)
   | cons v l=>simp
abbrev JC:aL:=⟨.str,wI,λx=>x.length<=10000,cI⟩
theorem asi(x):A.le (YV x) (JC.sh x):=A.br λh=>by
 change x.length<=10000 at h;unfold YV;show _=A.pure (cI x);rw[A.f' x (λi (o:List aU)=>(x,(i:Int),o,())) (λc o=>.next (BA o c)) (λo=>.next (o,())) (λi o=>1<=o.length/\o.length<=i+1/\∀ w∈o,w.length<=i) [[]] ?_ ⟨by decide,by decide,by simp⟩ ?_ ?_]
 ·rw[dQ,A.aG,A.bZ];have:=QA x [] [];rw[List.nil_append]at this;rw[this];have aj:=uX x;grind
 ·rfl
 ·rintro i G o ⟨E,U,ag⟩;have hw:=bA (n:=(i:Int)+1) (by omega) (by omega);have gX:=bA (n:=(o.length:Int) - 1) (by omega) (by omega);have ax:((o.length:Int) - 1).toNat=o.length - 1:=by omega
  have aO:((i:Int)+1).toNat=i+1:=by omega
  have asj:o.length - 1<o.length:=by omega
  have aC:o.getD (o.length - 1) []=o[o.length - 1]:=by grind
  have ayS:=ag _ (List.getElem_mem asj);have aw:(x.take (i+1)).drop i=[x[i]]:=by rw[List.drop_take,List.drop_eq_getElem_cons G,Nat.add_sub_cancel_left];rfl
  refine⟨?_,λbf dc=>?_⟩
  ·simp only[bW,cV G,if_true,dh G,cN G,A.bq,cj,hw,gX,ax,aav];unfold BA;by_cases hc:x[i]=32
   ·have oL:decide ((x[i].toNat:Int)=32)=true:=by simp_all
    rw[if_pos oL,if_pos hc,A.bu (gf (by grind))];simp_all
   ·have oL:¬decide ((x[i].toNat:Int)=32)=true:=by
     intro h;apply hc;simp only[decide_eq_true_eq]at h;exact UInt8.toNat_inj.1 (show x[i].toNat=32 by omega)
    rw[if_neg oL,if_neg hc];rw[A.bu (by omega),A.bu (by omega),aO,Int.toNat_natCast,aw,A.bu (gf (by grind)),A.bu (by omega)];simp_all
  ·simp only[V.next.injEq]at dc;subst dc;unfold BA;grind
 simp
def pV:List aU×z1'×z1':=(kJ.map (·.1),kJ.map (·.2.1),kJ.map λp=>if p.2.2=true then -1 else p.2.1)
abbrev JD:aL:=⟨.cU,.az wI (.az fF fF),λ_=>True,λ_=>pV⟩
theorem asl(x):A.le (anQ x) (JD.sh x):=A.br λ_=>congrArg A.pure (show _=pV by rfl)
def JE(k:Int)(m:Bool)(n:Nat):Bool:=decide ((n:Int)>=k)&&(decide ((if m=true then -1 else k)<(0:Int))||decide ((n:Int)<=if m=true then -1 else k))
def u1(s:aU):aU×z1'×Bool:=
 if ((cI s).drop 1).any (λw=>decide (e0 w<0))=true then ([],[],false) else
 match og ((cI s).getD 0 []) kJ 0 with
 | none=>([],[],false)
 | some (k,m,_)=>((cI s).getD 0 [],((cI s).drop 1).map e0,JE k m ((cI s).drop 1).length)
theorem aay{aJ:Type}{w:aU}{g:Int->Bool->aJ}{r:aJ}:∀ (l:List (aU×Int×Bool)) (i:Nat),eZ (λp (_:Unit)=>if decide (p.1=w)=true then .done (g p.2.1 p.2.2) else .next ()) (λ_=>r) l ()=match og w l i with | none=>r | some q=>g q.1 q.2.1
 | [],_=>rfl
 | p::l,i=>by
  unfold eZ og;by_cases h:p.1=w
  ·simp[h]
  ·have U:¬w=p.1:=λe=>h e.symm;simp only[h,decide_false,Bool.false_eq_true,if_false,U];exact aay l (i+1)
abbrev JF:aL:=⟨.str,.az .str (.az fF .bool),λx=>x.length<=10000,u1⟩
theorem asm(x):A.le (YU JC.sh JB.sh JD.sh x) (JF.sh x):=A.br λh=>by
 change x.length<=10000 at h;unfold YU;show _=A.pure (u1 x);unfold u1;rw[show JC.sh x=A.pure (cI x) from A.bS h _,A.aG];have aj:=uX x;have ah:List.length x<=10000:=h;have vk:((cI x).drop 1).length=(cI x).length - 1:=by simp
 rw[A.f' ((cI x).drop 1) (λi (o:z1')=>(cI x,((1+i:Nat):Int),o,())) (λw o=>if decide (e0 w<0)=true then .done (.done ([],[],false)) else .next (o++[e0 w])) (λo=>.next (cI x,o,())) (λi o=>o.length=i) [] ?_ rfl ?_ ?_]
 ·rw[Qz,A.aG];by_cases bb:((cI x).drop 1).any (λw=>decide (e0 w<0))=true
  ·rw[if_pos bb,if_pos bb];rfl
  ·rw[if_neg bb,if_neg bb,A.bZ,uq,List.nil_append];rw[show JD.sh ()=A.pure pV from rfl,A.aG];generalize ng:((cI x).drop 1).map e0=BB;have aB:BB.length=((cI x).drop 1).length:=by grind
   rw[<-aB];rw[A.f' kJ (λi (_:Unit)=>(cI x,pV.1,pV.2.1,pV.2.2,(i:Int),BB,())) (λp (_:Unit)=>if decide (p.1=(cI x).getD 0 [])=true then .done (.done ((cI x).getD 0 [],BB,JE p.2.1 p.2.2 BB.length)) else .next ()) (λ_=>.next ()) (λ_ _=>True) () ?_ trivial ?_ ?_]
   ·rw[aay (g:=λk m=>V.done ((cI x).getD 0 [],BB,JE k m BB.length)) kJ 0,A.aG];cases og ((cI x).getD 0 []) kJ 0<;>rfl
   ·rfl
   ·intro i G _ _;have ayT:i<20:=G;have hw:=bA (n:=(i:Int)+1) (by omega) (by omega);have e2:i<pV.1.length:=G;have oj:i<pV.2.1.length:=G;have EU:i<pV.2.2.length:=G;have g1:pV.1[i]'e2=(kJ[i]'G).1:=List.getElem_map ..;have ey:pV.2.1[i]'oj=(kJ[i]'G).2.1:=List.getElem_map ..;have g3:pV.2.2[i]'EU=if (kJ[i]'G).2.2=true then -1 else (kJ[i]'G).2.1:=List.getElem_map ..
    have ao:((0:Int)<=0/\(0:Int)<((cI x).length:Int))=True:=eq_true ⟨by decide,by omega⟩;refine⟨?_,λ_ _=>trivial⟩;simp only[bW,cV e2,if_true,dh e2,dh oj,dh EU,cN e2,cN oj,cN EU,ao,A.bq,cj,hw,g1,ey,g3,show Int.toNat 0=0 from rfl];by_cases hc:decide ((kJ[i]'G).1=(cI x).getD 0 [])=true
    ·rw[if_pos hc,if_pos hc];unfold JE;simp_all
    simp_all
   ·intro _ _;simp[pV]
 ·rfl
 ·intro i G o af;have dA:1+i<(cI x).length:=by omega
  have hw:=bA (n:=((1+i:Nat):Int)+1) (by omega) (by omega);have aC:(cI x)[1+i]=((cI x).drop 1)[i]:=by grind
  refine⟨?_,λbf dc=>?_⟩
  ·simp only[bW,cV dA,if_true,dh dA,cN dA,A.bq,cj,hw,aC];rw[show JB.sh ((cI x).drop 1)[i]=A.pure (e0 ((cI x).drop 1)[i]) from rfl,A.aG];by_cases aB:decide (e0 ((cI x).drop 1)[i]<0)=true
   ·simp_all
   ·rw[if_neg aB,if_neg aB,A.bu (gf (by grind))];rfl
  grind
 simp_all
theorem asn{s:aU}(h:s.length<=10000):JF.sh s=A.pure (u1 s):=A.bS h _
abbrev u2:aL:=⟨.az fF fF,.bool,λx=>x.1=x.2/\x.1.length<2 ^ 63,λ_=>true⟩
theorem aso(x):A.le (YR x) (u2.sh x):=A.br λh=>by
 obtain⟨a,b⟩:=x;obtain⟨rfl,h⟩:a=b/\a.length<2 ^ 63:=h;unfold YR;rw[if_neg (by simp)];rw[A.du a (λi (_:Unit)=>(a,a,(i:Int),())) (λ_ b=>.next b) (λ_=>.next ()) () ?_ ?_ ?_]
 ·rw[dQ,A.aG,A.bZ]
 ·rfl
 ·intro i G _;have hw:=bA (n:=(i:Int)+1) (by omega) (by omega);simp_all
 simp
theorem E4{a:z1'}(h:a.length<2 ^ 63):u2.sh (a,a)=A.pure true:=A.bS ⟨rfl,h⟩ _
abbrev JG:aL:=⟨.az H.iO H.iO,.bool,λx=>x.1=x.2/\H.iy x.1,λ_=>true⟩
theorem asp(x):A.le (YQ u2.sh x) (JG.sh x):=A.br λh=>by
 obtain⟨a,b⟩:=x;obtain⟨rfl,E,U,ag,a6⟩:a=b/\H.iy a:=h;unfold YQ;rw[E4 ag];simp only[A.kF,A.aG];rw[if_neg (by simp)];rw[A.du a.1 (λi (_:Unit)=>((i:Int),a,a,())) (λ_ b=>.next b) (λ_=>.next (a,a,())) () ?_ ?_ ?_]
 ·rw[dQ,A.aG,A.bZ];rw[A.du a.2.1 (λi (_:Unit)=>((i:Int),a,a,())) (λ_ b=>.next b) (λ_=>.next (a,a,())) () ?_ ?_ ?_]
  ·rw[dQ,A.aG,A.bZ];rw[A.du a.2.2.2.1 (λi (_:Unit)=>((i:Int),a,a,())) (λ_ b=>.next b) (λ_=>.next ()) () ?_ ?_ ?_]
   ·rw[dQ,A.aG,A.bZ]
   ·rfl
   ·intro i G _;have hw:=bA (n:=(i:Int)+1) (by omega) (by omega);simp_all
   simp
  ·rfl
  ·intro i G _;have hw:=bA (n:=(i:Int)+1) (by omega) (by omega);simp_all
  simp
 ·rfl
 ·intro i G _;have hw:=bA (n:=(i:Int)+1) (by omega) (by omega);simp_all
 simp
abbrev JH:aL:=⟨.az iv iv,.bool,λx=>x.1=x.2/\gg x.1,λ_=>true⟩
theorem asq(x):A.le (YS u2.sh x) (JH.sh x):=A.br λh=>by
 obtain⟨a,b⟩:=x;obtain⟨rfl,E,U,ag,a6⟩:a=b/\gg a:=h;unfold YS;rw[if_neg (by simp)];rw[A.du a.1 (λi (_:Unit)=>((i:Int),a,a,())) (λ_ b=>.next b) (λ_=>.next (a,a,())) () ?_ ?_ ?_]
 ·rw[dQ,A.aG,A.bZ];rw[A.du a.2.2.2 (λi (_:Unit)=>((i:Int),a,a,())) (λ_ b=>.next b) (λ_=>.next (a,a,())) () ?_ ?_ ?_]
  ·rw[dQ,A.aG,A.bZ];rw[A.du a.2.1 (λi (_:Unit)=>((i:Int),a,a,())) (λ_ b=>.next b) (λ_=>.next ()) () ?_ ?_ ?_]
   ·rw[dQ,A.aG,A.bZ]
   ·rfl
   ·intro i G _;have hw:=bA (n:=(i:Int)+1) (by omega) (by omega);obtain⟨hm,aE⟩:=a6 _ (List.getElem_mem G);simp only[bW,cV G,if_true,dh G,cN G,A.bq,cj,hw];rw[if_neg (by simp)];rw[A.du a.2.1[i] (λj (_:Unit)=>((i:Int),a.2.1[i],a.2.1[i],(j:Int),a,a,())) (λ_ b=>.next b) (λ_=>.next ((i:Int),a,a,())) () ?_ ?_ ?_]
    ·rw[dQ,A.aG,A.bZ];simp_all
    ·rfl
    ·intro j aF _;have hw:=bA (n:=(j:Int)+1) (by omega) (by omega);have bt:u2.sh (a.2.1[i][j].2.1,a.2.1[i][j].2.1)=A.pure true:=E4 (aE _ (List.getElem_mem aF));simp_all
    simp
   simp
  ·rfl
  ·intro i G _;have hw:=bA (n:=(i:Int)+1) (by omega) (by omega);simp_all
  simp
 ·rfl
 ·intro i G _;have hw:=bA (n:=(i:Int)+1) (by omega) (by omega);simp_all
 simp
abbrev E5:aL:=⟨.az uW uW,.bool,λx=>x.1=x.2/\e8 x.1.1/\H.iy x.1.2,λ_=>true⟩
theorem asr(x):A.le (YP JG.sh JH.sh u2.sh x) (E5.sh x):=A.br λh=>by
 obtain⟨a,b⟩:=x;obtain⟨rfl,⟨E,U,ag,a6,bM,dn,fT⟩,hc⟩:a=b/\e8 a.1/\H.iy a.2:=h;unfold YP;rw[show JG.sh (a.2,a.2)=A.pure true from A.bS ⟨rfl,hc⟩ _,show JH.sh (a.1.1,a.1.1)=A.pure true from A.bS ⟨rfl,E⟩ _,E4 U];simp only[A.kF,A.aG];rw[if_neg (by simp)];rw[A.du a.1.2.2.1 (λi (_:Unit)=>((i:Int),a.1,a.1,())) (λ_ b=>.next b) (λ_=>.next (a.1,a.1,())) () ?_ ?_ ?_]
 ·rw[dQ,A.aG,A.bZ];rw[A.du a.1.2.2.2.1 (λi (_:Unit)=>((i:Int),a.1,a.1,())) (λ_ b=>.next b) (λ_=>.next (a.1,a.1,())) () ?_ ?_ ?_]
  ·rw[dQ,A.aG,A.bZ];rw[A.du a.1.2.2.2.2.1 (λi (_:Unit)=>((i:Int),a.1,a.1,())) (λ_ b=>.next b) (λ_=>.next ()) () ?_ ?_ ?_]
   ·rw[dQ,A.aG,A.bZ]
   ·rfl
   ·intro i G _;have hw:=bA (n:=(i:Int)+1) (by omega) (by omega);simp_all
   simp
  ·rfl
  ·intro i G _;have hw:=bA (n:=(i:Int)+1) (by omega) (by omega);have bt:u2.sh (a.1.2.2.2.1[i].1,a.1.2.2.2.1[i].1)=A.pure true:=E4 (fT _ (List.getElem_mem G));simp_all
  simp
 ·rfl
 ·intro i G _;have hw:=bA (n:=(i:Int)+1) (by omega) (by omega);have bt:u2.sh (a.1.2.2.1[i].2.2.2.2,a.1.2.2.1[i].2.2.2.2)=A.pure true:=E4 (dn _ (List.getElem_mem G));simp_all
 simp
abbrev E6:Type:=Int×Int×Int×Int
def QB(s:aU)(c:E6):E6:=
 if (!(u1 s).2.2)=true then c else if decide ((u1 s).1=[119,105,115,104])=true then (IntKind.wrap .i64 (c.1+1),c.2)
 else if decide ((u1 s).1=[112,105,101,99,101])=true then (c.1,IntKind.wrap .i64 (c.2.1+1),c.2.2.1,IntKind.wrap .i64 (c.2.2.2+IntKind.wrap .i64 (((u1 s).2.1.length:Int) - 4)))
 else if decide ((u1 s).1=[99,111,109,101,115])=true then (c.1,c.2.1,IntKind.wrap .i64 (c.2.2.1+1),c.2.2.2) else c
def aaz(d:bd):E6:=((d.1.2.2.2.1.length:Int),(d.1.2.2.1.length:Int),(d.1.2.2.2.2.1.length:Int),d.1.2.2.1.foldl (λn p=>IntKind.wrap .i64 (n+(p.2.2.2.2.length:Int))) 0)
def ass(c:E6):Bool:=decide (c.1 > 3)||decide (c.2.1 > 4)||decide (c.2.2.1 > 3)||decide (c.2.2.2 > 4)
def u3(d:bd)(l:List aU):Bool:=
 if (rT d.1||H.k2 d.2||decide ((l.length:Int) > 60))=true then true else if (l.any λs=>decide ((s.length:Int) > 80))=true then true
 else decide (ko d=0)&&ass (l.foldl (λc s=>QB s c) (aaz d))
abbrev aaA(x:bd×List aU):Prop:=e8 x.1.1/\H.iy x.1.2/\x.2.length<2 ^ 63
abbrev E7:aL:=⟨.az uW wI,.bool,aaA,λx=>u3 x.1 x.2⟩
theorem ast(x):A.le (YT rZ.sh I'.sh H.wh.sh JF.sh x) (E7.sh x):=A.br λh=>by
 obtain⟨d,l⟩:=x;obtain⟨E,U,ag⟩:aaA (d,l):=h;have jh:d.1.2.2.1.length<2 ^ 63:=E.2.2.1;change l.length<2 ^ 63 at ag;unfold YT;show _=A.pure (u3 d l);unfold u3;rw[show I'.sh d.1=A.pure (rT d.1) from A.bS E _,A.aG,show H.wh.sh d.2=A.pure (H.k2 d.2) from A.bS U _,A.kF,A.aG];have e:(rT d.1||(if (!rT d.1)=true then H.k2 d.2 else false)||decide (Int.ofNat l.length > 60))=(rT d.1||H.k2 d.2||decide ((l.length:Int) > 60)):=by grind
 rw[e];by_cases aq:(rT d.1||H.k2 d.2||decide ((l.length:Int) > 60))=true
 ·grind
 ·rw[if_neg aq,if_neg aq];rw[A.du d.1.2.2.1 (λi (n:Int)=>(l,(d.1.2.2.2.1.length:Int),(d.1.2.2.1.length:Int),(d.1.2.2.2.2.1.length:Int),n,(i:Int),d,())) (λp n=>.next (IntKind.wrap .i64 (n+(p.2.2.2.2.length:Int)))) (λn=>.next (l,(d.1.2.2.2.1.length:Int),(d.1.2.2.1.length:Int),(d.1.2.2.2.2.1.length:Int),n,d,())) 0 ?_ ?_ ?_]
  ·rw[dQ,A.aG,A.bZ];rw[A.du l (λi (c:E6)=>(l,c.1,c.2.1,c.2.2.1,c.2.2.2,(i:Int),d,())) (λs c=>if decide ((s.length:Int) > 80)=true then .done (.done true) else .next (QB s c)) (λc=>.next (c.1,c.2.1,c.2.2.1,c.2.2.2,d,())) (aaz d) ?_ ?_ ?_]
   ·rw[Qz,A.aG];by_cases bb:(l.any λs=>decide ((s.length:Int) > 80))=true
    ·simp_all
    ·rw[if_neg bb,if_neg bb,A.bZ];rw[show rZ.sh d=A.pure (ko d) from A.bS ⟨E,U⟩ _,A.aG];rfl
   ·rfl
   ·intro i G c;have hw:=bA (n:=(i:Int)+1) (by omega) (by omega);simp only[Prod.da,Prod.ft,Prod.gP,bW,cV G,if_true,dh G,cN G,A.bq,cj];by_cases hc:decide ((l[i].length:Int) > 80)=true
    ·simp_all
    ·rw[if_neg hc,if_neg hc];rw[asn (by grind),A.aG];unfold QB;split
     ·simp_all
     ·split
      ·simp_all
      ·split
       ·simp_all
       ·split
        ·rw[A.aG,A.bZ];simp only[hw];rfl
        ·rw[A.aG,A.bZ];simp only[hw];rfl
   simp
  ·rfl
  ·intro i G n;have hw:=bA (n:=(i:Int)+1) (by omega) (by omega);simp_all
  simp
theorem asu{d:bd}{l:List aU}{n:Int}(E:e8 d.1)(U:H.iy d.2)(h:(!u3 d l&&decide (ko d=0)&&decide ((l.length:Int)<=n))=true):dm d/\(l.length:Int)<=n/\∀ s∈l,s.length<=80:=by
 simp only[Bool.and_eq_true,Bool.not_eq_true',decide_eq_true_eq]at h;obtain⟨⟨aq,he⟩,aB⟩:=h;unfold u3 at aq;split at aq
 ·grind
 ·rename_i bb;split at aq
  ·grind
  ·rename_i W;simp only[Bool.or_eq_true,not_or,Bool.not_eq_true]at bb;refine⟨Qy E (H.ans bb.1.2) he,aB,λs aE=>?_⟩;grind
theorem asv:e8 qK.1/\H.iy qK.2:=⟨aqU,by decide,by decide,by decide,by decide⟩
theorem asw:H.gJ qK.2:=⟨⟨by decide,by decide,by decide,by decide⟩,λ_=>by decide +kernel⟩
theorem aaB{d:bd}(aw:dm d){l:List aU}(ayU:l.length<=40)(aj:∀ s∈l,s.length<=10000):u0.sh (d,l)=A.pure ((gT (ix d) l).1,(gT (ix d) l).2,0):=by
 have e:u0.sh (d,l)=A.pure (EZ d l):=A.bS ⟨aw.fL,aw.gJ,by show l.length<2 ^ 63;omega,aj⟩ _;rw[e];unfold EZ;rw[if_neg (by rw[aw.aro];decide),if_neg (by omega)]
end Go.Fer.au
namespace Go.Proofs
open Go.Shelf
theorem cJ{P:Program}{k:Nat}{f g:Func}(h:P.funcs[k]?=some f)(e:f=g:=by kernel_rfl):P.funcs[k]?=some g:=h.trans (congrArg some e)
open Tryz
def Tryz.aaC:Go.Shelf.Ren:=⟨fun | 156=>258 | 165=>318 | 166=>319 | 169=>320 | 240=>358 | 241=>359 | 276=>386 | 277=>387 | n=>n,fun | 31=>48 | 9=>9 | 3=>3 | 4=>4 | 0=>0 | 20=>20 | 72=>345 | 76=>267 | 70=>343 | 37=>171 | 75=>266 | 127=>380 | 164=>405 | 5=>5 | 80=>347 | n=>n,fun | n=>n⟩
theorem Tryz.aaD : Go.Proofs.Lays.n156 Tryz.prog Tryz.aaC := {
  mixed:=by kernel_rfl
  f156:=cJ func258
  f165:=cJ func318
  f166:=cJ func319
  f169:=cJ func320
  f240:=cJ func358
  f241:=cJ func359
  f276:=cJ func386
  f277:=cJ func387
  t0:=underlying0
  a0:=isAgg0
  z0:=sizeOf0
  v0:=zeroValue0
  t3:=underlying3
  a3:=isAgg3
  z3:=sizeOf3
  v3:=zeroValue3
  t4:=underlying4
  a4:=isAgg4
  z4:=sizeOf4
  v4:=zeroValue4
  t9:=underlying9
  a9:=isAgg9
  z9:=sizeOf9
  v9:=zeroValue9
  t20:=underlying20
  a20:=isAgg20
  z20:=sizeOf20
  v20:=zeroValue20
  t31:=underlying48
  a31:=isAgg48
  z31:=sizeOf48
  v31:=zeroValue48
  t37:=underlying171
  a37:=isAgg171
  z37:=sizeOf171
  v37:=zeroValue171
  t70:=underlying343
  a70:=isAgg343
  z70:=sizeOf343
  v70:=zeroValue343
  t72:=underlying345
  a72:=isAgg345
  z72:=sizeOf345
  v72:=zeroValue345
  t75:=underlying266
  a75:=isAgg266
  z75:=sizeOf266
  v75:=zeroValue266
  t76:=underlying267
  a76:=isAgg267
  z76:=sizeOf267
  v76:=zeroValue267
  t127:=underlying380
  a127:=isAgg380
  z127:=sizeOf380
  v127:=zeroValue380
  t164:=underlying405
  a164:=isAgg405
  z164:=sizeOf405
  v164:=zeroValue405 }
theorem Tryz.aaE : Builder.Extra Tryz.prog Tryz.aaC := {
  sizeBuilder:=by kernel_rfl
  liesBuilder:=by kernel_rfl
  t5:=underlying5
  a5:=isAgg5
  z5:=sizeOf5
  v5:=zeroValue5
  infoByte:=by kernel_rfl
  cellsByte:=by kernel_rfl
  sizeByte:=by kernel_rfl
  neB5:=by decide }
def Tryz.asx:Go.Shelf.Ren:=⟨fun | 171=>204 | 243=>264 | 246=>330 | 283=>368 | 284=>369 | 285=>370 | 286=>371 | 129=>291 | 317=>392 | 318=>393 | 319=>394 | 320=>395 | 337=>399 | 338=>400 | n=>n,fun | 3=>3 | 9=>9 | 2=>2 | 4=>4 | 171=>386 | 0=>0 | 53=>285 | 37=>171 | 5=>5 | 173=>388 | 212=>418 | 51=>282 | 20=>20 | 213=>419 | 46=>228 | 232=>423 | 233=>424 | n=>n,fun | 17=>5 | 18=>6 | 19=>7 | n=>n⟩
theorem Tryz.aaF : Go.Proofs.LaysM.n171 Tryz.prog Tryz.asx := {
  mixed:=by kernel_rfl
  f129:=cJ func291
  f171:=cJ func204
  f243:=cJ func264
  f246:=cJ func330
  f283:=cJ func368
  f284:=cJ func369
  f285:=cJ func370
  f286:=cJ func371
  f317:=cJ func392
  f318:=cJ func393
  f319:=cJ func394
  f320:=cJ func395
  f337:=cJ func399
  f338:=cJ func400
  t0:=underlying0
  a0:=isAgg0
  z0:=sizeOf0
  v0:=zeroValue0
  t2:=underlying2
  a2:=isAgg2
  z2:=sizeOf2
  v2:=zeroValue2
  t3:=underlying3
  a3:=isAgg3
  z3:=sizeOf3
  v3:=zeroValue3
  t4:=underlying4
  a4:=isAgg4
  z4:=sizeOf4
  v4:=zeroValue4
  t5:=underlying5
  a5:=isAgg5
  z5:=sizeOf5
  v5:=zeroValue5
  t9:=underlying9
  a9:=isAgg9
  z9:=sizeOf9
  v9:=zeroValue9
  t20:=underlying20
  a20:=isAgg20
  z20:=sizeOf20
  v20:=zeroValue20
  t37:=underlying171
  a37:=isAgg171
  z37:=sizeOf171
  v37:=zeroValue171
  t46:=underlying228
  a46:=isAgg228
  z46:=sizeOf228
  v46:=zeroValue228
  t51:=underlying282
  a51:=isAgg282
  z51:=sizeOf282
  v51:=zeroValue282
  t53:=underlying285
  a53:=isAgg285
  z53:=sizeOf285
  v53:=zeroValue285
  t171:=underlying386
  a171:=isAgg386
  z171:=sizeOf386
  v171:=zeroValue386
  t173:=underlying388
  a173:=isAgg388
  z173:=sizeOf388
  v173:=zeroValue388
  t212:=underlying418
  a212:=isAgg418
  z212:=sizeOf418
  v212:=zeroValue418
  t213:=underlying419
  a213:=isAgg419
  z213:=sizeOf419
  t232:=underlying423
  a232:=isAgg423
  z232:=sizeOf423
  v232:=zeroValue423
  t233:=underlying424
  a233:=isAgg424
  z233:=sizeOf424
  v233:=zeroValue424
  g17:=by kernel_rfl
  g18:=by kernel_rfl
  g19:=by kernel_rfl
  i0:=by kernel_rfl
  i2:=by kernel_rfl
  i3:=by kernel_rfl
  i4:=by kernel_rfl
  i5:=by kernel_rfl
  i9:=by kernel_rfl
  i20:=by kernel_rfl
  i37:=by kernel_rfl
  i46:=by kernel_rfl
  i51:=by kernel_rfl
  i53:=by kernel_rfl
  i171:=by kernel_rfl
  i173:=by kernel_rfl
  i212:=by kernel_rfl
  i232:=by kernel_rfl
  i233:=by kernel_rfl
  m17:=by kernel_rfl
  m18:=by kernel_rfl
  m19:=by kernel_rfl }
def Tryz.asy:Go.Shelf.Ren:=⟨fun | 172=>203 | 244=>262 | 245=>263 | 247=>325 | 279=>326 | 280=>327 | 281=>328 | 282=>329 | 287=>365 | 316=>366 | 171=>204 | 205=>367 | 321=>390 | 322=>391 | 243=>264 | 246=>330 | 283=>368 | 284=>369 | 285=>370 | 286=>371 | 129=>291 | 317=>392 | 318=>393 | 319=>394 | 320=>395 | 337=>399 | 338=>400 | n=>n,fun | 9=>9 | 3=>3 | 75=>266 | 76=>267 | 4=>4 | 5=>5 | 167=>351 | 37=>171 | 0=>0 | 85=>352 | 2=>2 | 168=>354 | 53=>285 | 175=>381 | 46=>228 | 210=>384 | 127=>380 | 145=>416 | 143=>414 | 21=>21 | 171=>386 | 173=>388 | 212=>418 | 51=>282 | 20=>20 | 213=>419 | 232=>423 | 233=>424 | 80=>347 | n=>n,fun | 15=>1 | 16=>2 | 17=>5 | 18=>6 | 19=>7 | n=>n⟩
theorem Tryz.QC : Go.Proofs.LaysC.n172 Tryz.prog Tryz.asy := {
  mixed:=by kernel_rfl
  f129:=cJ func291
  f171:=cJ func204
  f172:=cJ func203
  f205:=cJ func367
  f243:=cJ func264
  f244:=cJ func262
  f245:=cJ func263
  f246:=cJ func330
  f247:=cJ func325
  f279:=cJ func326
  f280:=cJ func327
  f281:=cJ func328
  f282:=cJ func329
  f283:=cJ func368
  f284:=cJ func369
  f285:=cJ func370
  f286:=cJ func371
  f287:=cJ func365
  f316:=cJ func366
  f317:=cJ func392
  f318:=cJ func393
  f319:=cJ func394
  f320:=cJ func395
  f321:=cJ func390
  f322:=cJ func391
  f337:=cJ func399
  f338:=cJ func400
  t0:=underlying0
  a0:=isAgg0
  z0:=sizeOf0
  v0:=zeroValue0
  t2:=underlying2
  a2:=isAgg2
  z2:=sizeOf2
  v2:=zeroValue2
  t3:=underlying3
  a3:=isAgg3
  z3:=sizeOf3
  v3:=zeroValue3
  t4:=underlying4
  a4:=isAgg4
  z4:=sizeOf4
  v4:=zeroValue4
  t5:=underlying5
  a5:=isAgg5
  z5:=sizeOf5
  v5:=zeroValue5
  t9:=underlying9
  a9:=isAgg9
  z9:=sizeOf9
  v9:=zeroValue9
  t20:=underlying20
  a20:=isAgg20
  z20:=sizeOf20
  v20:=zeroValue20
  t21:=underlying21
  a21:=isAgg21
  z21:=sizeOf21
  v21:=zeroValue21
  t37:=underlying171
  a37:=isAgg171
  z37:=sizeOf171
  v37:=zeroValue171
  t46:=underlying228
  a46:=isAgg228
  z46:=sizeOf228
  v46:=zeroValue228
  t51:=underlying282
  a51:=isAgg282
  z51:=sizeOf282
  v51:=zeroValue282
  t53:=underlying285
  a53:=isAgg285
  z53:=sizeOf285
  v53:=zeroValue285
  t75:=underlying266
  a75:=isAgg266
  z75:=sizeOf266
  v75:=zeroValue266
  t76:=underlying267
  a76:=isAgg267
  z76:=sizeOf267
  v76:=zeroValue267
  t85:=underlying352
  a85:=isAgg352
  z85:=sizeOf352
  v85:=zeroValue352
  t127:=underlying380
  a127:=isAgg380
  z127:=sizeOf380
  v127:=zeroValue380
  t143:=underlying414
  a143:=isAgg414
  z143:=sizeOf414
  v143:=zeroValue414
  t145:=underlying416
  a145:=isAgg416
  z145:=sizeOf416
  v145:=zeroValue416
  t167:=underlying351
  a167:=isAgg351
  z167:=sizeOf351
  v167:=zeroValue351
  t168:=underlying354
  a168:=isAgg354
  z168:=sizeOf354
  v168:=zeroValue354
  t171:=underlying386
  a171:=isAgg386
  z171:=sizeOf386
  v171:=zeroValue386
  t173:=underlying388
  a173:=isAgg388
  z173:=sizeOf388
  v173:=zeroValue388
  t175:=underlying381
  a175:=isAgg381
  z175:=sizeOf381
  v175:=zeroValue381
  t210:=underlying384
  a210:=isAgg384
  z210:=sizeOf384
  v210:=zeroValue384
  t212:=underlying418
  a212:=isAgg418
  z212:=sizeOf418
  v212:=zeroValue418
  t213:=underlying419
  a213:=isAgg419
  z213:=sizeOf419
  t232:=underlying423
  a232:=isAgg423
  z232:=sizeOf423
  v232:=zeroValue423
  t233:=underlying424
  a233:=isAgg424
  z233:=sizeOf424
  v233:=zeroValue424
  g15:=by kernel_rfl
  g16:=by kernel_rfl
  g17:=by kernel_rfl
  g18:=by kernel_rfl
  g19:=by kernel_rfl
  t80:=underlying347
  a80:=isAgg347
  z80:=sizeOf347
  v80:=zeroValue347
  i0:=by kernel_rfl
  i2:=by kernel_rfl
  i3:=by kernel_rfl
  i4:=by kernel_rfl
  i5:=by kernel_rfl
  i9:=by kernel_rfl
  i20:=by kernel_rfl
  i21:=by kernel_rfl
  i37:=by kernel_rfl
  i46:=by kernel_rfl
  i51:=by kernel_rfl
  i53:=by kernel_rfl
  i75:=by kernel_rfl
  i76:=by kernel_rfl
  i80:=by kernel_rfl
  i85:=by kernel_rfl
  i127:=by kernel_rfl
  i143:=by kernel_rfl
  i145:=by kernel_rfl
  i167:=by kernel_rfl
  i168:=by kernel_rfl
  i171:=by kernel_rfl
  i173:=by kernel_rfl
  i175:=by kernel_rfl
  i210:=by kernel_rfl
  i212:=by kernel_rfl
  i232:=by kernel_rfl
  i233:=by kernel_rfl
  m15:=by kernel_rfl
  m16:=by kernel_rfl
  m17:=by kernel_rfl
  m18:=by kernel_rfl
  m19:=by kernel_rfl
  c0:=by kernel_rfl
  c2:=by kernel_rfl
  c3:=by kernel_rfl
  c4:=by kernel_rfl
  c5:=by kernel_rfl
  c9:=by kernel_rfl
  c20:=by kernel_rfl
  c21:=by kernel_rfl
  c37:=by kernel_rfl
  c46:=by kernel_rfl
  c51:=by kernel_rfl
  c53:=by kernel_rfl
  c75:=by kernel_rfl
  c76:=by kernel_rfl
  c80:=by kernel_rfl
  c85:=by kernel_rfl
  c127:=by kernel_rfl
  c143:=by kernel_rfl
  c145:=by kernel_rfl
  c167:=by kernel_rfl
  c168:=by kernel_rfl
  c171:=by kernel_rfl
  c173:=by kernel_rfl
  c175:=by kernel_rfl
  c210:=by kernel_rfl
  c212:=by kernel_rfl
  c213:=by kernel_rfl
  c232:=by kernel_rfl
  c233:=by kernel_rfl }
open Go.RowKit in
theorem Tryz.strconv_Atoi_ok(s:ByteArray)(zu:s.size<=9223372036854775806)(v:Int)(h:Lib.atoiAll s.data.toList=.ok v)(w:World) :
  Calls Tryz.prog 203 #[.string s] w λe w'=>e=.returned (.tuple #[.int .i64 v,.nilIface])/\(w'=w\/∃ t,w'=Lib.bytesWorld w 5 t):=Any.strconv_Atoi_ok Tryz.QC s zu v h w
open Go.RowKit in
theorem Tryz.strconv_Atoi_syntax(s:ByteArray)(se:s.size<=281474976710656)(h:Lib.atoiAll s.data.toList=Lib.atoiAll [])(ia:Value)(w:World)(ae:w.cell? ⟨1,0,none⟩=some ia)(pI:ia=.nilIface\/∃ lK mg,ia=.iface lK mg) :
  Calls Tryz.prog 203 #[.string s] w λe w'=>∃ N,e=.returned (.tuple #[.int .i64 (0),.iface 354 (.pointer (some ⟨N,0,none⟩))])/\w.heap.size<=N/\w'.heap[N]?=some (.cells #[.string ⟨#[65,116,111,105]⟩,.string s,ia] 384 (0,0))/\Below w.heap.size w w':=Any.strconv_Atoi_syntax Tryz.QC s se h ia w ae pI
open Go.RowKit in
theorem Tryz.strconv_Atoi_range(s:ByteArray)(se:s.size<=281474976710656)(h:Lib.atoiAll s.data.toList=.range)(ia:Value)(w:World)(ae:w.cell? ⟨2,0,none⟩=some ia)(pI:ia=.nilIface\/∃ lK mg,ia=.iface lK mg) :
  Calls Tryz.prog 203 #[.string s] w λe w'=>∃ N,e=.returned (.tuple #[.int .i64 (Lib.atoiSat s.data.toList),.iface 354 (.pointer (some ⟨N,0,none⟩))])/\w.heap.size<=N/\w'.heap[N]?=some (.cells #[.string ⟨#[65,116,111,105]⟩,.string s,ia] 384 (0,0))/\Below w.heap.size w w':=Any.strconv_Atoi_range Tryz.QC s se h ia w ae pI
def Tryz.asz:Go.Shelf.Ren:=⟨fun | 146=>139 | 221=>202 | 268=>259 | 138=>260 | 143=>261 | 195=>321 | 197=>322 | 218=>323 | 219=>324 | 260=>360 | 217=>361 | 225=>362 | 224=>363 | 267=>364 | 266=>388 | 314=>389 | n=>n,fun | 9=>9 | 31=>48 | 3=>3 | 4=>4 | 0=>0 | 105=>348 | 21=>21 | 5=>5 | 46=>228 | 119=>408 | 139=>411 | 138=>410 | 146=>283 | 51=>282 | n=>n,fun | 1=>0 | 3=>3 | 4=>4 | n=>n⟩
theorem Tryz.asA : Go.Proofs.Lays.n146 Tryz.prog Tryz.asz := {
  mixed:=by kernel_rfl
  f138:=cJ func260
  f143:=cJ func261
  f146:=cJ func139
  f195:=cJ func321
  f197:=cJ func322
  f217:=cJ func361
  f218:=cJ func323
  f219:=cJ func324
  f221:=cJ func202
  f224:=cJ func363
  f225:=cJ func362
  f260:=cJ func360
  f266:=cJ func388
  f267:=cJ func364
  f268:=cJ func259
  f314:=cJ func389
  t0:=underlying0
  a0:=isAgg0
  z0:=sizeOf0
  v0:=zeroValue0
  t3:=underlying3
  a3:=isAgg3
  z3:=sizeOf3
  v3:=zeroValue3
  t4:=underlying4
  a4:=isAgg4
  z4:=sizeOf4
  v4:=zeroValue4
  t5:=underlying5
  a5:=isAgg5
  z5:=sizeOf5
  v5:=zeroValue5
  t9:=underlying9
  a9:=isAgg9
  z9:=sizeOf9
  v9:=zeroValue9
  t21:=underlying21
  a21:=isAgg21
  z21:=sizeOf21
  v21:=zeroValue21
  t31:=underlying48
  a31:=isAgg48
  z31:=sizeOf48
  v31:=zeroValue48
  t46:=underlying228
  a46:=isAgg228
  z46:=sizeOf228
  v46:=zeroValue228
  t51:=underlying282
  a51:=isAgg282
  z51:=sizeOf282
  v51:=zeroValue282
  t105:=underlying348
  a105:=isAgg348
  z105:=sizeOf348
  v105:=zeroValue348
  t119:=underlying408
  a119:=isAgg408
  z119:=sizeOf408
  t138:=underlying410
  a138:=isAgg410
  z138:=sizeOf410
  v138:=zeroValue410
  t139:=underlying411
  a139:=isAgg411
  z139:=sizeOf411
  v139:=zeroValue411
  t146:=underlying283
  a146:=isAgg283
  z146:=sizeOf283
  v146:=zeroValue283
  g1:=by kernel_rfl
  g3:=by kernel_rfl
  g4:=by kernel_rfl }
def Tryz.asB:Go.Shelf.Ren:=⟨fun | 189=>161 | 125=>215 | 257=>214 | 128=>290 | 129=>291 | 294=>281 | 295=>282 | 296=>283 | 297=>284 | 298=>285 | 299=>286 | 216=>287 | 300=>288 | 301=>289 | 328=>340 | 329=>341 | 330=>342 | 331=>343 | 332=>344 | 215=>339 | 343=>383 | n=>n,fun | 28=>27 | 3=>3 | 46=>228 | 0=>0 | 51=>282 | 53=>285 | 4=>4 | 183=>314 | 182=>313 | 131=>193 | 5=>5 | 9=>9 | 218=>359 | 222=>363 | 228=>398 | 229=>331 | n=>n,fun | n=>n⟩
theorem Tryz.aaG : Go.Proofs.Lays.n189 Tryz.prog Tryz.asB := {
  mixed:=by kernel_rfl
  f125:=cJ func215
  f128:=cJ func290
  f129:=cJ func291
  f189:=cJ func161
  f215:=cJ func339
  f216:=cJ func287
  f257:=cJ func214
  f294:=cJ func281
  f295:=cJ func282
  f296:=cJ func283
  f297:=cJ func284
  f298:=cJ func285
  f299:=cJ func286
  f300:=cJ func288
  f301:=cJ func289
  f328:=cJ func340
  f329:=cJ func341
  f330:=cJ func342
  f331:=cJ func343
  f332:=cJ func344
  f343:=cJ func383
  t0:=underlying0
  a0:=isAgg0
  z0:=sizeOf0
  v0:=zeroValue0
  t3:=underlying3
  a3:=isAgg3
  z3:=sizeOf3
  v3:=zeroValue3
  t4:=underlying4
  a4:=isAgg4
  z4:=sizeOf4
  v4:=zeroValue4
  t5:=underlying5
  a5:=isAgg5
  z5:=sizeOf5
  v5:=zeroValue5
  t9:=underlying9
  a9:=isAgg9
  z9:=sizeOf9
  v9:=zeroValue9
  t28:=underlying27
  a28:=isAgg27
  z28:=sizeOf27
  v28:=zeroValue27
  t46:=underlying228
  a46:=isAgg228
  z46:=sizeOf228
  v46:=zeroValue228
  t51:=underlying282
  a51:=isAgg282
  z51:=sizeOf282
  v51:=zeroValue282
  t53:=underlying285
  a53:=isAgg285
  z53:=sizeOf285
  v53:=zeroValue285
  t131:=underlying193
  a131:=isAgg193
  z131:=sizeOf193
  v131:=zeroValue193
  t182:=underlying313
  a182:=isAgg313
  z182:=sizeOf313
  v182:=zeroValue313
  t183:=underlying314
  a183:=isAgg314
  z183:=sizeOf314
  v183:=zeroValue314
  t218:=underlying359
  a218:=isAgg359
  z218:=sizeOf359
  v218:=zeroValue359
  t222:=underlying363
  a222:=isAgg363
  z222:=sizeOf363
  v222:=zeroValue363
  t228:=underlying398
  a228:=isAgg398
  z228:=sizeOf398
  v228:=zeroValue398
  t229:=underlying331
  a229:=isAgg331
  z229:=sizeOf331
  v229:=zeroValue331 }
def Tryz.asC:Go.Shelf.Ren:=⟨fun | 4=>257 | n=>n,fun | 22=>27 | 25=>3 | 3=>3 | 4=>4 | 9=>9 | 20=>20 | 0=>0 | n=>n,fun | n=>n⟩
theorem Tryz.aaH : Go.Proofs.Lays8.n4 Tryz.prog Tryz.asC := {
  mixed:=by kernel_rfl
  f4:=⟨Tryz.f257.name,by decide,cJ func257⟩
  t0:=underlying0
  a0:=isAgg0
  z0:=sizeOf0
  v0:=zeroValue0
  t3:=underlying3
  a3:=isAgg3
  z3:=sizeOf3
  v3:=zeroValue3
  t4:=underlying4
  a4:=isAgg4
  z4:=sizeOf4
  v4:=zeroValue4
  t9:=underlying9
  a9:=isAgg9
  z9:=sizeOf9
  v9:=zeroValue9
  t20:=underlying20
  a20:=isAgg20
  z20:=sizeOf20
  v20:=zeroValue20
  t22:=underlying27
  a22:=isAgg27
  z22:=sizeOf27
  v22:=zeroValue27 }
def Tryz.asD:Go.Shelf.Ren:=⟨fun | 4=>256 | n=>n,fun | 22=>34 | 25=>125 | 3=>3 | 4=>4 | 9=>9 | 20=>20 | 0=>0 | n=>n,fun | n=>n⟩
theorem Tryz.aaI : Go.Proofs.Lays8.n4 Tryz.prog Tryz.asD := {
  mixed:=by kernel_rfl
  f4:=⟨Tryz.f256.name,by decide,cJ func256⟩
  t0:=underlying0
  a0:=isAgg0
  z0:=sizeOf0
  v0:=zeroValue0
  t3:=underlying3
  a3:=isAgg3
  z3:=sizeOf3
  v3:=zeroValue3
  t4:=underlying4
  a4:=isAgg4
  z4:=sizeOf4
  v4:=zeroValue4
  t9:=underlying9
  a9:=isAgg9
  z9:=sizeOf9
  v9:=zeroValue9
  t20:=underlying20
  a20:=isAgg20
  z20:=sizeOf20
  v20:=zeroValue20
  t22:=underlying34
  a22:=isAgg34
  z22:=sizeOf34
  v22:=zeroValue34 }
end Go.Proofs
namespace Go.Fer.au
theorem aaJ:∀ s:aU,(Go.Lib.index s [32]=-1/\cI s=[s])\/∃ t r,s=t++32::r/\Go.Lib.index s [32]=(t.length:Int)/\cI s=t::cI r
 | []=>.inl ⟨rfl,rfl⟩
 | b::l=>by
  unfold Go.Lib.index;by_cases W:b=32
  ·subst W;exact .inr ⟨[],l,rfl,by rfl,by rfl⟩
  ·have ao:List.isPrefixOf [32] (b::l)=false:=by
    grind
   rw[ao];have aE:=uX l;rcases aaJ l with⟨E,U⟩ | ⟨t,r,E,U,ag⟩
   ·rw[E];refine .inl ⟨rfl,?_⟩;unfold cI;grind
   ·rw[U];refine .inr ⟨b::t,r,by grind,?_,?_⟩
    ·rfl
    ·conv=>lhs;unfold cI
     grind
theorem asE:∀ (n:Nat) (s:aU),s.length<=n->Go.Lib.splitK [32] 0 (Go.Lib.count s [32]) s=cI s:=by
 intro n;induction n with
 | zero=>
  intro s h;have:s=[]:=List.eq_nil_of_length_eq_zero (by omega);subst this;rfl
 | succ n aK=>
  intro s h;rcases aaJ s with⟨E,U⟩ | ⟨t,r,E,U,ag⟩
  ·rw[Go.Lib.count_miss E,U];rfl
  ·rw[Go.Lib.count_hit (by simp) U,ag,Nat.add_comm,Go.Lib.splitK,U];have:((t.length:Int) == -1)=false:=by rfl
   rw[this];have e:((t.length:Int)).toNat=t.length:=rfl;have Ei:s.drop (t.length+1)=r:=by simp_all
   grind
end Go.Fer.au
namespace Go.Fer.oi
open Go Go.Proofs Go.RowKit
section
variable {P:Program} {F:Nat->Prop} {w:World}
theorem QD(x:List UInt8):(ByteArray.mk x.toArray).data.toList=x:=by simp
theorem JI(x:List UInt8):(ByteArray.mk x.toArray).size=x.length:=by rfl
theorem QE{args:List Value}{x:List UInt8}(h:fq P .str F w args x):args=[.string ⟨x.toArray⟩]/\x.length<2 ^ 63:=by
 obtain⟨v,rfl,ae⟩:=(r4 rfl).1 h;obtain⟨rfl,aj⟩:=mh.1 ae;grind
theorem asF{args:List Value}{x y:List UInt8}(h:fq P (.az .str .str) F w args (x,y)):args=[.string ⟨x.toArray⟩,.string ⟨y.toArray⟩]/\x.length<2 ^ 63/\y.length<2 ^ 63:=by
 obtain⟨v,us,rfl,ae,hu⟩:=Fs h;obtain⟨rfl,aj⟩:=mh.1 ae;obtain⟨rfl,gw⟩:=QE hu;grind
theorem asG(w:World)(k:Nat)(os:Array Obj):Below w.heap.size w (Go.Sort.grow (w.drewN k) os):=by
 refine⟨rfl,rfl,rfl,?_,λj aF=>?_⟩
 ·simp
 ·show (w.heap++os)[j]?=_;grind
theorem JJ(h:nJ Tryz.prog F w){b:Nat}(W:b<6):F b/\Rk b λi=>w.cell? ⟨b,i,none⟩:=h b (Nat.lt_of_lt_of_le W (of_decide_eq_true (by rfl)))
end
theorem aaK(sep:ByteArray):∀ (k:Nat) (s:ByteArray),∀ x∈Lib.splitB sep 0 k s,x.size<=s.size
 | 0,s,x,ah=>by
  unfold Lib.splitB at ah;grind
 | k+1,s,x,ah=>by
  unfold Lib.splitB at ah;split at ah
  ·grind
  ·simp only[List.mem_cons]at ah;rcases ah with rfl | ah
   ·rw[ByteArray.size_extract];omega
   ·have:=aaK sep k _ x ah;rw[ByteArray.size_extract]at this;omega
def qg(s sep:List UInt8):List (List UInt8):=(Lib.splitB ⟨sep.toArray⟩ 0 (Lib.countB ⟨s.toArray⟩ ⟨sep.toArray⟩) ⟨s.toArray⟩).map (·.data.toList)
theorem asH(s:List UInt8):qg s [32]=au.cI s:=by
 unfold qg;rw[Lib.splitB_data];exact au.asE s.length s (Nat.le_refl _)
abbrev asI:Code:=Tryz.f139.body.getD .skip
theorem asJ:h2 Tryz.prog 139 (.az .str .str) (.slice .str) au.Jv.sh where
 enter:=um Tryz.func139 (show Tryz.f139.body=some asI by rfl) (by rfl)
 iV:=λF w args x bp gu bb aE=>by
  obtain⟨s,sep⟩:=x;obtain⟨aE,E⟩:s.length<=10000/\sep=[32]:=aE;subst E;obtain⟨rfl,aj,gw⟩:=asF bb;obtain⟨_,m,hm⟩:=JJ gu (b:=0) (by decide);have cf:1<=(ByteArray.mk [32].toArray).size:=by decide
  refine (Any.strings_Split Tryz.asA (by kernel_rfl) ⟨s.toArray⟩ ⟨[32].toArray⟩ m w (by rw[JI];omega) hm cf).mono ?_;rintro e w' ⟨rfl,rfl⟩;have hlen:=Lib.splitB_all ⟨[32].toArray⟩ cf 0 _ ⟨s.toArray⟩ rfl;have rr:=Lib.countB_le ⟨[32].toArray⟩ cf _ ⟨s.toArray⟩ (Nat.le_refl _);rw[JI]at rr;have kc:=aaK ⟨[32].toArray⟩ (Lib.countB ⟨s.toArray⟩ ⟨[32].toArray⟩) ⟨s.toArray⟩;rw[JI]at kc;have xg:(qg s [32]).length=Lib.countB ⟨s.toArray⟩ ⟨[32].toArray⟩+1:=by unfold qg;grind
  refine⟨_,qg s [32],rfl,asH s,⟨[_],rfl,(r4 rfl).2 ⟨_,rfl,(dV rfl).2 ⟨rfl,some ⟨w.heap.size,0,none⟩,Lib.countB ⟨s.toArray⟩ ⟨[32].toArray⟩+1,by rw[xg],by omega,by omega,nofun,λp ao hc=>?_⟩⟩⟩,?_⟩
  ·cases ao;refine⟨.inr ⟨Nat.le_refl _,by simp⟩,rfl,λi G=>?_⟩;have dA:i<(Lib.splitB ⟨[32].toArray⟩ 0 (Lib.countB ⟨s.toArray⟩ ⟨[32].toArray⟩) ⟨s.toArray⟩).length:=by omega
   generalize aT:Lib.splitB ⟨[32].toArray⟩ 0 (Lib.countB ⟨s.toArray⟩ ⟨[32].toArray⟩) ⟨s.toArray⟩=B at dA kc hlen;have jw:(qg s [32])[i]=B[i].data.toList:=by
    have U:qg s [32]=B.map (·.data.toList):=by unfold qg;rw[aT]
    grind
   have bH:Value.string B[i]=.string ⟨(B[i].data.toList).toArray⟩:=by simp
   refine⟨[.string B[i]],⟨.inr ⟨Nat.le_refl _,by simp⟩,rfl,λj aF=>?_⟩,?_,?_⟩
   ·have aF:j=0:=by grind
    subst aF;rw[vg (p4 w _)];have ax:0+i*ad.size .str+0=i:=by show 0+i*1+0=i;omega
    grind
   ·simp_all
   ·have:=kc _ (List.getElem_mem dA);have e:(B[i]).data.toList.length=(B[i]).size:=Array.length_toList;grind
  ·exact (Below.refl _ _).alloc (Nat.le_refl _) _
theorem aaL{F : Nat -> Prop}{w : World}(h : nJ Tryz.prog F w) : Lib.TabIs Tryz.prog w "internal/strconv.uint64pow10" .u64 Lib.pow10Tab := by
 have bM:∀ i,w.cell? ⟨5,i,none⟩=if i<20 then some (.int .u64 (10 ^ i)) else none:=(JJ h (b:=5) (by decide)).2
 unfold Lib.TabIs World.var?;rw[show Tryz.prog.globalNamed "internal/strconv.uint64pow10" = some 5 by rfl];show (match w.heap[5]? with | some (.cells cs _ _)=>some cs | _=>none)=_;have aY:=bM 0;cases af:w.heap[5]? with
 | none=>simp[World.cell?,af]at aY
 | some o=>
  cases o with
  | cells cs T sW=>
   simp only[Option.some.injEq];apply Array.ext_getElem?;intro i;have G:=bM i;simp only[World.cell?,af,Option.isSome_none,Bool.false_eq_true,if_false]at G;rw[G];split
   ·rename_i BC;simp only[List.getElem?_toArray,List.getElem?_map,Lib.pow10Tab];grind
   ·rename_i BC;rw[Array.getElem?_eq_none];simp[Lib.pow10Tab];omega
  | _=>simp[World.cell?,af]at aY
abbrev asK:Code:=Tryz.f204.body.getD .skip
theorem asL{P:Program}{F:Nat->Prop}{w:World}{args:List Value}{x:Int}(h:fq P (.int .i64) F w args x):args=[.int .i64 x]/\fV .i64 x:=by
 obtain⟨v,rfl,ae⟩:=(r4 rfl).1 h;obtain⟨rfl,aj⟩:=gV.1 ae;grind
theorem asM{n:Int}(h:fV .i64 n):-9223372036854775808<=n/\n<=9223372036854775807:=h
theorem asN:h2 Tryz.prog 204 (.int .i64) .str au.Jm.sh where
 enter:=um Tryz.func204 (show Tryz.f204.body=some asK by rfl) (by rfl)
 iV:=λF w args x bp gu bb aE=>by
  change Int at x;obtain⟨rfl,M⟩:=asL bb;obtain⟨aY,E⟩:=asM M;refine (Any.strconv_Itoa Tryz.aaF x aY E w (aaL gu)).mono ?_;rintro e w' ⟨rfl,k,os,rfl⟩;have ah:au.rV x=Lib.itoa x:=by unfold au.rV;rw[bA aY (by omega)]
  refine⟨_,au.rV x,rfl,rfl,⟨[_],rfl,(r4 rfl).2 ⟨_,rfl,mh.2 ⟨by rw[ah],Nat.lt_of_le_of_lt (au.P7 x) (by decide)⟩⟩⟩,asG w k os⟩
abbrev asO:Code:=Tryz.f258.body.getD .skip
theorem asP:h2 Tryz.prog 258 (.az (.slice .str) .str) .str au.E0.sh where
 enter:=um Tryz.func258 (show Tryz.f258.body=some asO by rfl) (by rfl)
 iV:=λF w args x bp gu bb aE=>by
  obtain⟨l,sep⟩:=x;obtain⟨aB,hw,E⟩:l.length<=60000/\(∀ w∈l,w.length<=21)/\sep.length=1:=aE;have z':=au.aag l sep 21 hw;have E:sep.length=1:=E;have aB:l.length<=60000:=aB;rw[E]at z';have aF:(Lib.join l sep).length<2 ^ 63:=by omega
  obtain⟨v,us,rfl,ae,hu⟩:=Fs bb;obtain⟨rfl,_⟩:=QE hu;obtain⟨_,p,cap,ig,c2,c3,c4,c5⟩:=(dV rfl).1 ae;obtain rfl:v=.slice p l.length cap:=by grind
  change l.length<=cap at c2;have fin:∀ w',Below w.heap.size w w'->∃ v y,Ending.returned (.string ⟨(Lib.join l sep).toArray⟩)=.returned v/\(au.E0.sh (l,sep)).bL y/\tx Tryz.prog .str (u7 F w w') w' v y/\Below w.heap.size w w':=λw' W=>
   ⟨_,Lib.join l sep,rfl,rfl,⟨[_],rfl,(r4 rfl).2 ⟨_,rfl,mh.2 ⟨rfl,aF⟩⟩⟩,W⟩
  by_cases aj:l=[]
  ·subst aj;refine (Any.strings_Join_none Tryz.aaD Tryz.aaE p cap ⟨sep.toArray⟩ w).mono ?_;rintro e w' ⟨rfl,rfl⟩;exact fin _ (Below.refl _ _)
  ·have ll:0<l.length:=List.length_pos_iff.2 aj;obtain⟨q,rfl⟩:∃ q,p=some q:=by
    cases p with
    | none=>grind
    | some q=>simp
   obtain⟨d1,d2,d3⟩:=c5 q rfl (by omega);obtain⟨asQ,o,sp⟩:=q;obtain rfl:sp=none:=d2;have hlen:(l.map λx:List UInt8=>ByteArray.mk x.toArray).length=l.length:=List.length_map ..;have Kq:(l.map λx:List UInt8=>ByteArray.mk x.toArray).map (·.data.toList)=l:=by rw[List.map_map];exact (List.map_congr_left λx _=>QD x).trans (List.map_id _)
   have:=Any.strings_Join Tryz.aaD Tryz.aaE asQ o cap (l.map λx:List UInt8=>ByteArray.mk x.toArray) ⟨sep.toArray⟩ w (λj x ah=>by
    rw[List.getElem?_map]at ah;obtain⟨y,aR,rfl⟩:=Option.map_eq_some_iff.1 ah;obtain⟨z',rfl⟩:=List.getElem?_eq_some_iff.1 aR;obtain⟨bk,⟨_,_,cF⟩,ee⟩:=d3 j z';obtain⟨rfl,_⟩:=ee;have:=cF 0 (by simp);simpa [ad.size]using this) (bp _ d1) (by omega) (by omega) (by grind)
   rw[hlen,Kq,QD]at this;refine this.mono ?_;simp_all
end Go.Fer.oi
namespace Go.Proofs
open Go.RowKit
theorem Tryz.asR{P:Program}{w w':World}{n:String}{k:IntKind}{zs:z1'}(h:Lib.TabIs P w n k zs)(W:Below w.heap.size w w'):Lib.TabIs P w' n k zs:=by
 unfold Lib.TabIs World.var? at *
 cases aC:P.globalNamed n with
 | none=>rw[aC]at h;cases h
 | some g=>
  rw[aC]at h;simp only[Option.bind_some]at h ⊢;by_cases cc:g<w.heap.size
  ·rw[W.block g cc];exact h
  ·rw[Array.getElem?_eq_none (by omega)]at h;cases h
set_option maxHeartbeats 4000000 in
set_option maxRecDepth 1000000 in
theorem Tryz.asS(s:ByteArray)(w:World)(v:Int)(zu:s.size<=9223372036854775806)(h:Lib.atoiAll s.data.toList=.ok v)(aY:-9223372036854775808<=v)(E:v<=9223372036854775807)
  (asT : Lib.TabIs Tryz.prog w "internal/strconv.uint64pow10" .u64 Lib.pow10Tab) :
  Calls Tryz.prog 140 #[.string s] w λe w'=>e=.returned (.tuple #[.int .i64 v,.bool (decide (s.size<=6)&&decide (0<=v)&&decide (Lib.itoa v=s.data.toList))])/\Below w.heap.size w w':=by
 go_enter Tryz.func140,Tryz.ntmps140;go_wp2_with fail;refine (Tryz.strconv_Atoi_ok s zu v h w).mono ?_;rintro e cp ⟨rfl,lU⟩;have mx:Below w.heap.size w cp:=by
  rcases lU with rfl | ⟨t,rfl⟩
  ·exact Below.refl _ _
  ·exact Lib.bytesWorld_below w 5 t
 have asU:=Tryz.asR asT mx;clear lU;by_cases aQ:(s.size:Int)<=6
 ·by_cases aS:v>=0
  ·go_wp2_with fail;refine (Any.strconv_Itoa Tryz.aaF v aY E cp asU).mono ?_;rintro e c8 ⟨rfl,k,os,rfl⟩;have q3:Below w.heap.size w (Go.Sort.grow (cp.drewN k) os):=mx.trans ⟨rfl,rfl,rfl,by show _<=(cp.heap++os).size;simp,λj aF=>by
    have:=mx.size;show (cp.heap++os)[j]?=_;rw[Array.getElem?_append_left (by omega)]⟩
   generalize Go.Sort.grow (cp.drewN k) os=c8 at q3;go_wp2;go_returns;refine⟨congrArg Ending.returned (congrArg Value.tuple ?_),q3⟩;show #[Value.int IntKind.i64 v,Value.bool (Lib.itoa v == s.toList)]=_;rw[Go.ByteArray.toList_eq,show decide (s.size<=6)=true from decide_eq_true (by omega),show decide (0<=v)=true from decide_eq_true aS,Bool.true_and,Bool.true_and,show (Lib.itoa v == s.data.toList)=decide (Lib.itoa v=s.data.toList) by rw[Bool.eq_iff_iff];simp]
  ·go_wp2;go_returns;refine⟨congrArg Ending.returned (congrArg Value.tuple ?_),mx⟩;show #[Value.int IntKind.i64 v,Value.bool false]=_;rw[show decide (0<=v)=false from decide_eq_false (by omega),Bool.and_false,Bool.false_and]
 ·go_wp2;go_returns;refine⟨congrArg Ending.returned (congrArg Value.tuple ?_),mx⟩;show #[Value.int IntKind.i64 v,Value.bool false]=_;rw[show decide (s.size<=6)=false from decide_eq_false (by omega),Bool.false_and,Bool.false_and]
set_option maxHeartbeats 4000000 in
set_option maxRecDepth 1000000 in
theorem Tryz.asV(s:ByteArray)(w:World)(se:s.size<=281474976710656)(h:Lib.atoiAll s.data.toList=Lib.atoiAll [])(ia:Value)(ae:w.cell? ⟨1,0,none⟩=some ia)(pI:ia=.nilIface\/∃ lK mg,ia=.iface lK mg) :
  Calls Tryz.prog 140 #[.string s] w λe w'=>e=.returned (.tuple #[.int .i64 0,.bool false])/\Below w.heap.size w w':=by
 go_enter Tryz.func140,Tryz.ntmps140;go_wp2_with fail;refine (Tryz.strconv_Atoi_syntax s se h ia w ae pI).mono ?_;rintro e cp ⟨N,rfl,_,_,mx⟩;go_wp2;go_returns;exact⟨rfl,mx⟩
set_option maxHeartbeats 4000000 in
set_option maxRecDepth 1000000 in
theorem Tryz.asW(s:ByteArray)(w:World)(se:s.size<=281474976710656)(h:Lib.atoiAll s.data.toList=.range)(ia:Value)(ae:w.cell? ⟨2,0,none⟩=some ia)(pI:ia=.nilIface\/∃ lK mg,ia=.iface lK mg) :
  Calls Tryz.prog 140 #[.string s] w λe w'=>e=.returned (.tuple #[.int .i64 (Lib.atoiSat s.data.toList),.bool false])/\Below w.heap.size w w':=by
 go_enter Tryz.func140,Tryz.ntmps140;go_wp2_with fail;refine (Tryz.strconv_Atoi_range s se h ia w ae pI).mono ?_;rintro e cp ⟨N,rfl,_,_,mx⟩;go_wp2;go_returns;exact⟨rfl,mx⟩
end Go.Proofs
namespace Go.Fer.au
open A (V)
theorem aaM:∀ (s:aU) (n:Int),0<=n->gl s n≠-1->n<=gl s n
 | [],n,_,_=>Int.le_refl _
 | c::s,n,h,E=>by
  unfold gl at E ⊢;split at E
  ·omega
  ·rename_i hc;rw[if_neg hc];simp only[Bool.or_eq_true,decide_eq_true_eq,not_or]at hc;have:=aaM s _ (by omega) E;omega
theorem QF(d:UInt8):∀ (s:aU) (n:Int),0<=n->gl (s++[d]) n=if gl s n=-1 then -1 else if (decide ((d.toNat:Int)<48)||decide ((d.toNat:Int) > 57))=true then -1 else 10*gl s n+((d.toNat:Int) - 48)
 | [],n,h=>by
  show gl [d] n=if n=-1 then _ else _
  rw[if_neg (by omega)];rfl
 | c::s,n,h=>by
  rw[List.cons_append];conv=>lhs;unfold gl
  by_cases hc:(decide ((c.toNat:Int)<48)||decide ((c.toNat:Int) > 57))=true
  ·rw[if_pos hc,show gl (c::s) n=-1 by unfold gl;grind,if_pos rfl]
  ·rw[if_neg hc,show gl (c::s) n=gl s (10*n+((c.toNat:Int) - 48)) from (if_neg hc:(if (decide ((c.toNat:Int)<48)||decide ((c.toNat:Int) > 57))=true then (-1:Int) else _)=_)];simp only[Bool.or_eq_true,decide_eq_true_eq,not_or]at hc;exact QF d s _ (by omega)
theorem JK(k:Nat)(h:k<10):((UInt8.ofNat (48+k)).toNat:Int)=48+k:=by
 have:(UInt8.ofNat (48+k)).toNat=(48+k) % 256:=UInt8.toNat_ofNat';omega
theorem aaN(u:Nat):gl (Go.Lib.decDigits u) 0=u:=by
 induction u using Nat.strongRecOn with
 | _ u aK=>
  unfold Go.Lib.decDigits;split
  ·rename_i h;have:=JK u h;unfold gl;rw[if_neg (by grind),this];show (10*0+(48+(u:Int) - 48))=u;omega
  ·rename_i h;have aw:=JK (u % 10) (by omega);rw[QF _ _ _ (Int.le_refl _),aK (u / 10) (by omega),if_neg (by omega),if_neg (by grind),aw];omega
theorem aaO(u:Nat):Go.Lib.decDigits u≠[]/\(1<(Go.Lib.decDigits u).length->((Go.Lib.decDigits u).getD 0 0).toNat≠48):=by
 induction u using Nat.strongRecOn with
 | _ u aK=>
  by_cases h:u<10
  ·rw[Go.Lib.decDigits_one h];simp
  ·obtain⟨E,U⟩:=aK (u / 10) (by omega);have e:Go.Lib.decDigits u=Go.Lib.decDigits (u / 10)++[UInt8.ofNat (48+u % 10)]:=by
    conv=>lhs;unfold Go.Lib.decDigits
    grind
   rw[e];refine⟨by simp,λ_=>?_⟩;have aj:0<(Go.Lib.decDigits (u / 10)).length:=List.length_pos_iff.2 E;rw[show (Go.Lib.decDigits (u / 10)++[UInt8.ofNat (48+u % 10)]).getD 0 0=(Go.Lib.decDigits (u / 10)).getD 0 0 by
    grind]
   by_cases ag:1<(Go.Lib.decDigits (u / 10)).length
   ·omega
   ·have p0:u / 10<10:=by
     refine Classical.byContradiction λaB=>ag ?_;have aO:Go.Lib.decDigits (u / 10)=Go.Lib.decDigits (u / 10 / 10)++[UInt8.ofNat (48+u / 10 % 10)]:=by
      conv=>lhs;unfold Go.Lib.decDigits
      grind
     grind
    rw[Go.Lib.decDigits_one p0];have:=JK (u / 10) p0;grind
theorem asX:∀ (n:Nat) (s:aU),s.length=n->s≠[]->(1<s.length->(s.getD 0 0).toNat≠48)->gl s 0≠-1->Go.Lib.decDigits (gl s 0).toNat=s:=by
 intro n;induction n with
 | zero=>simp
 | succ n aK=>
  intro s E U ag a6;obtain⟨a,d,rfl⟩:∃ a d,s=a++[d]:=⟨s.dropLast,s.getLast U,(List.dropLast_concat_getLast U).symm⟩
  rw[QF _ _ _ (Int.le_refl _)]at a6 ⊢;split at a6
  ·omega
  ·rename_i bb;split at a6
   ·omega
   ·rename_i aw;rw[if_neg bb,if_neg aw];simp only[Bool.or_eq_true,decide_eq_true_eq,not_or]at aw;have Ml:UInt8.ofNat (48+(d.toNat - 48))=d:=by
     apply UInt8.toNat_inj.1;rw[UInt8.toNat_ofNat'];omega
    by_cases aB:a=[]
    ·subst aB;have e:(10*gl [] 0+((d.toNat:Int) - 48)).toNat=d.toNat - 48:=by show (10*0+((d.toNat:Int) - 48)).toNat=_;omega
     rw[e,Go.Lib.decDigits_one (by omega),Ml];rfl
    ·have aj:0<a.length:=List.length_pos_iff.2 aB;have cW:(a.getD 0 0).toNat≠48:=by
      grind
     have ao:1<=gl a 0:=by
      cases a with
      | nil=>grind
      | cons c r=>
       unfold gl at bb ⊢;split at bb
       ·omega
       ·rename_i hc;rw[if_neg hc];simp only[Bool.or_eq_true,decide_eq_true_eq,not_or]at hc;have ayV:c.toNat≠48:=cW;have:=aaM r _ (by omega) bb;omega
     have G:=aK a (by grind) aB (λ_=>cW) bb;have ax:(10*gl a 0+((d.toNat:Int) - 48)).toNat / 10=(gl a 0).toNat:=by omega
     have aO:(10*gl a 0+((d.toNat:Int) - 48)).toNat % 10=d.toNat - 48:=by omega
     conv=>lhs;unfold Go.Lib.decDigits
     grind
theorem asY{s:aU}{v:Int}(h:Go.Lib.atoiAll s=.ok v):(decide (s.length<=6)&&decide (0<=v)&&decide (Go.Lib.itoa v=s))=decide (0<=e0 s):=by
 rw[Bool.eq_iff_iff];simp only[Bool.and_eq_true,decide_eq_true_eq];constructor
 ·rintro⟨⟨dn,ae⟩,G⟩;obtain⟨u,rfl⟩:∃ u:Nat,v=u:=⟨v.toNat,by omega⟩
  have e:Go.Lib.itoa (u:Int)=Go.Lib.decDigits u:=by rfl
  rw[e]at G;obtain⟨aQ,aS⟩:=aaO u;rw[G]at aQ aS;unfold e0;rw[if_neg]
  ·have:=aaN u;grind
  grind
 ·intro aB;have e:=Qx aB;rw[h]at e;obtain rfl:v=e0 s:=by grind
  refine⟨⟨?_,aB⟩,?_⟩
  ·unfold e0 at aB;grind
  ·have e:Go.Lib.itoa (e0 s)=Go.Lib.decDigits (e0 s).toNat:=by unfold Go.Lib.itoa;grind
   rw[e];unfold e0 at aB ⊢;split at aB
   ·omega
   ·rename_i W;rw[if_neg W];simp only[Bool.or_eq_true,Bool.and_eq_true,decide_eq_true_eq,not_or,not_and]at W;exact asX _ s rfl (λe=>W.1.1 (by grind)) W.2 (by omega)
theorem aaP{s:aU}(h:∀ v,Go.Lib.atoiAll s≠.ok v):decide (0<=e0 s)=false:=decide_eq_false λaB=>h _ (Qx aB)
end Go.Fer.au
namespace Go.Fer.oi
open Go Go.Proofs Go.RowKit
abbrev asZ:Code:=Tryz.f140.body.getD .skip
theorem as0:h2 Tryz.prog 140 .str (.az (.int .i64) .bool) au.E2.sh where
 enter:=um Tryz.func140 (show Tryz.f140.body=some asZ by kernel_rfl) (by kernel_rfl)
 iV:=λF w args x bp gu bb aE=>by
  change List UInt8 at x;have aE:x.length<=10000:=aE;obtain⟨rfl,aj⟩:=QE bb;have W:=QD x;have bl:=JI x;have fin:∀ (n:Int) (b:Bool) (w':World),fV .i64 n->au.rf x=(n,b)->Below w.heap.size w w'->∃ v y,Ending.returned (.tuple #[.int .i64 n,.bool b])=.returned v/\(au.E2.sh x).bL y/\tx Tryz.prog (.az (.int .i64) .bool) (u7 F w w') w' v y/\Below w.heap.size w w':=λn b w' M he yT=>
   ⟨_,(n,b),rfl,he.symm,⟨[.int .i64 n,.bool b],rfl,BW.2 ⟨gV.2 ⟨rfl,M⟩,(r4 rfl).2 ⟨_,rfl,fg.2 rfl⟩⟩⟩,yT⟩
  cases he:Lib.atoiAll x with
  | ok v=>
   have ae:=Lib.atoiAll_bounds he;refine (Tryz.asS ⟨x.toArray⟩ w v (by rw[bl];omega) (by rw[W];exact he) ae.1 ae.2 (aaL gu)).mono ?_;rintro e w' ⟨rfl,yT⟩;refine fin v _ w' ae ?_ yT;rw[W,bl,au.asY he];unfold au.rf au.ti;rw[he]
  | range=>
   obtain⟨_,ia,ae,pI⟩:=JJ gu (b:=2) (by decide);refine (Tryz.asW ⟨x.toArray⟩ w (by rw[bl];omega) (by rw[W];exact he) ia ae pI).mono ?_;rintro e w' ⟨rfl,yT⟩;rw[W]at *
   refine fin _ _ w' (Lib.atoiSat_bounds x) ?_ yT;unfold au.rf au.ti;rw[he,au.aaP λv h=>by rw[he]at h;cases h]
  | _=>
   obtain⟨_,ia,ae,pI⟩:=JJ gu (b:=1) (by decide);refine (Tryz.asV ⟨x.toArray⟩ w (by rw[bl];omega) (by rw[W];exact he) ia ae pI).mono ?_;rintro e w' ⟨rfl,yT⟩;refine fin 0 _ w' (by decide) ?_ yT;unfold au.rf au.ti;rw[he,au.aaP λv h=>by rw[he]at h;cases h]
end Go.Fer.oi
namespace Go.Fer
open Go.RowKit
abbrev mL:ad:=.int .i64
def QG(x:z1'×Unit):A (z1'×Unit):=A.dS (x.1.length<4611686018427387904) (x.1.mergeSort (λa b=>decide (a<=b)),())
def pW:cL:=⟨⟨[(0,.al 200001)],[(200001,.bj mL)]⟩,⟨[],[(200001,.bj mL)]⟩,[],1,QG⟩
section
variable {P:Program} {F:Nat->Prop} {w:World}
theorem aaQ{cs:Array Value}{off:Nat}{xs:z1'}(h:lL P mL F w cs off xs){i:Nat}(G:i<xs.length):cs[off+i]?=some (.int .i64 xs[i])/\fV .i64 xs[i]:=by
 obtain⟨bk,E,U,ag⟩:=h i G;subst U;have:=E 0 (by simp);refine⟨?_,ag⟩;have e:off+i*ad.size mL+0=off+i:=by show off+i*1+0=off+i;omega
 rw[e]at this;exact this
theorem as1{cs:Array Value}{off:Nat}{xs:z1'}(h:∀ i (h:i<xs.length),cs[off+i]?=some (.int .i64 xs[i])/\fV .i64 xs[i]):lL P mL F w cs off xs:=λi G=>by
 obtain⟨E,U⟩:=h i G;refine⟨[.int .i64 xs[i]],λj aF=>?_,rfl,U⟩;have aF:j=0:=by simpa using aF
 subst aF;have e:off+i*ad.size mL+0=off+i:=by show off+i*1+0=off+i;omega
 rw[e];exact E
theorem as2{cs:Array Value}{T:TypeId}{b off:Nat}{xs:z1'}(W:w.heap[b]?=some (.cells cs T (0,0)))(h:lL P mL F w cs off xs):Go.Sort.Holds (Value.int .i64) w b off xs.toArray:=λj aF=>by
 have fW:j<xs.length:=by simpa using aF
 obtain⟨E,_⟩:=aaQ h fW;refine⟨?_,by simp[World.frozen?,W]⟩;simp only[World.cell?,W];simp only[Option.isSome_none,Bool.false_eq_true,if_false];rw[E];simp[fW]
theorem as3{cs:Array Value}{off:Nat}{xs ys:z1'}(aj:ys.length=xs.length)(ih:∀ y∈ys,fV .i64 y)(cf:off+xs.length<=cs.size):lL P mL F w (Go.Sort.putCells (Value.int .i64) off ys.toArray cs) off ys:=by
 refine as1 λi G=>⟨?_,ih _ (List.getElem_mem G)⟩
 have E:off+i<cs.size:=by omega
 simp[Go.Sort.putCells,E,G]
end
section
variable {P:Program} {aP:dG}
theorem as4{k:FuncId}(he:∀ args w,(callFunc k args).run P w=.ok (.enter k args) w)
  (E:∀ (aa off cap:Nat) (zs:z1') (w:World),Go.Sort.Holds (Value.int .i64) w aa off zs.toArray->aa<w.heap.size->zs.length<4611686018427387904->Calls P k #[.slice (some ⟨aa,off,none⟩) zs.length cap] w λe w'=>
   e=.returned (.tuple #[])/\∃ n os,w'=Go.Sort.grow (Go.Sort.putRow (Value.int .i64) (Go.Sort.ahead w n) aa off (zs.mergeSort λx y=>decide (x<=y)).toArray) os)
  (aY:∀ (p:Option Addr) (cap:Nat) (w:World),Calls P k #[.slice p 0 cap] w λe w'=>e=.returned (.tuple #[])/\w'=w):cS P aP k pW where
 enter:=he
 iV C a w κ F D jr Am M aw rq tK h aE:=by
  obtain⟨xs,u⟩:=D;have hlen:xs.length<4611686018427387904:=aE;have cf:a.tmps.size=1:=h.dH.trans rq;have qk:=h.bU 0;have W:=h.bE 200001;change jC C.P _ κ F w (κ 200001) (.bj mL xs) at W;have ae:a.tmps.getD 0 undef=(κ 200001).slice xs.length:=qk.2 rfl rfl;have bb:a.tmps=#[(κ 200001).slice xs.length]:=by
   apply Array.ext (by simp[cf]);intro i G dL;have:i=0:=by omega
   subst this;rw[<-ae];simp[Array.getD,cf]
  have pt:∀ bn,bn=((xs.mergeSort (λx y=>decide (x<=y)),()):z1'×Unit)->(pW.sh (xs,u)).bL bn:=λbn e=>e;have nZ:∀ {w':World} {F':Nat->Prop} {ys:z1'},bm C (aA.mk (pW.cq.st (xs,u)).ay λi=>if i=200001 then ⟨0,.bj mL ys⟩ else (pW.cq.st (xs,u)).aa i) a w' κ F'->bm { C with nt:=0 } (pW.bL.st (ys,())) { tmps:=#[],defers:=[] } w' κ F':=λ{w' F' ys} jP=>by
   have e:(pW.bL.st (ys,())).aa=λi=>if i=200001 then (⟨0,.bj mL ys⟩:bK) else (pW.cq.st (xs,u)).aa i:=by
    funext i;show eQ [(200001,bR.bj mL ys)] i=if i=200001 then _ else eQ [(200001,bR.bj mL xs)] i
    simp only[eQ];by_cases G:i=200001
    ·rw[if_pos G,if_pos G]
    ·rw[if_neg G,if_neg G,if_neg G]
   refine { dH:=rfl,dfr:=aw.symm,bU:=λi=>trivial,bE:=λb=>?_,al:=λb=>?_,inj:=λb bf=>?_,db:=jP.db,hg:=jP.hg,hQ:=jP.hQ,ht:=jP.ht,eG:=jP.eG,size:=jP.size,ew:=jP.ew,gq:=Nat.zero_le _,kp:=jP.kp,jD:=λb r=>?_,j4:=jP.j4,kq:=λb k=>?_,eL:=λl aM L n st e=>(by cases e),jE:=jP.jE,iA:=jP.iA }
   ·rw[e];exact jP.bE b
   ·rw[e];exact jP.al b
   ·rw[e];exact jP.inj b bf
   ·rw[e];exact jP.jD b r
   ·rw[e];exact jP.kq b k
  subst jr;rw[bb];by_cases aB:(κ 200001).e9=true
  ·have ah:xs=[]:=W.1 aB;subst ah;have ig:(κ 200001).slice 0=.slice none 0 0:=by simp[bD.slice,aB]
   rw[show ([]:z1').length=0 from rfl,ig];refine (aY none 0 w).mono ?_;rintro e w' ⟨rfl,rfl⟩;refine⟨_,([],()),[],κ,F,rfl,pt _ (congrArg (λl=>(l,())) List.mergeSort_nil.symm),⟨[],rfl,rfl,rfl⟩,nZ ?_⟩;have e:(λi=>if i=200001 then (⟨0,.bj mL []⟩:bK) else (pW.cq.st ([],u)).aa i)=(pW.cq.st ([],u)).aa:=by
    funext i;by_cases G:i=200001
    ·subst G;rfl
    ·rw[if_neg G]
   rw[e];exact h
  ·have aB:(κ 200001).e9=false:=by simpa using aB
   obtain⟨cs,T,dO,e1,mM,r2,Fm⟩:=W.2 aB;have gr:((pW.cq.st (xs,u)).aa 200001).body.b1 (κ 200001)=true:=by show (!(κ 200001).e9)=true;rw[aB];rfl
   have af:=h.al 200001 gr;have ig:(κ 200001).slice xs.length=.slice (some ⟨(κ 200001).aa,(κ 200001).off,none⟩) xs.length (κ 200001).cap:=by simp[bD.slice,aB]
   rw[ig];refine (E (κ 200001).aa (κ 200001).off (κ 200001).cap xs w (as2 dO Fm) af.1 hlen).mono ?_;rintro e w' ⟨rfl,n,os,rfl⟩;have ao:(xs.mergeSort λx y=>decide (x<=y)).Perm xs:=List.mergeSort_perm _ _;generalize j9:(xs.mergeSort λx y=>decide (x<=y))=ys at ao pt;have aaR:ys.length=xs.length:=ao.length_eq;have FL:(κ 200001).off+xs.length<=cs.size:=by
    have:(κ 200001).cap*ad.size mL=(κ 200001).cap:=Nat.mul_one _;omega
   have ih:∀ y∈ys,fV .i64 y:=λy aR=>by
    have:=ao.mem_iff.1 aR;obtain⟨i,G,rfl⟩:=List.getElem_of_mem this;exact (aaQ Fm G).2
   have as5:(Go.Sort.putRow (Value.int .i64) (Go.Sort.ahead w n) (κ 200001).aa (κ 200001).off ys.toArray).heap[(κ 200001).aa]?=some (.cells (Go.Sort.putCells (Value.int .i64) (κ 200001).off ys.toArray cs) T (0,0)):=by
    simp[Go.Sort.putRow,Go.Sort.mapBlock,Go.Sort.ahead,Array.getElem?_modify,dO,Go.Sort.onCells]
   have wT:bm C ((pW.cq.st (xs,u)).cz 200001 ⟨0,.bj mL ys⟩) a (Go.Sort.putRow (Value.int .i64) (Go.Sort.ahead w n) (κ 200001).aa (κ 200001).off ys.toArray) κ F:=by
    refine h.o9 (b:=200001) (x:=⟨0,.bj mL ys⟩) gr ?_ ?_ nofun nofun (λr M=>?_) (by simp[Go.Sort.putRow,Go.Sort.mapBlock,Go.Sort.ahead]) ⟨rfl,rfl,rfl⟩ (λH mU iL lp=>⟨λhc=>absurd (aB.symm.trans hc) nofun,λ_=>?_⟩)
    ·show (!(κ 200001).e9)=true;rw[aB];rfl
    ·intro b;by_cases W:b=200001
     ·subst W;exact⟨Nat.le_refl _,λ_=>⟨nofun,λ_=>⟨rfl,rfl,aaR,rfl⟩,nofun,nofun⟩⟩
     ·show p3 _ (if b=200001 then _ else _) _ _;rw[if_neg W];exact p3.refl _ _
    ·simp[Go.Sort.putRow,Go.Sort.mapBlock,Go.Sort.ahead,Array.getElem?_modify,Ne.symm M]
    ·refine⟨_,T,as5,?_,?_,r2,as3 aaR ih FL⟩
     ·simpa [Go.Sort.putCells]using e1
     ·show ys.length<=_;omega
   refine⟨_,(ys,()),[],κ,_,rfl,pt _ rfl,⟨[],rfl,rfl,rfl⟩,nZ (wT.grow ?_)⟩;refine⟨rfl,rfl,rfl,by simp[Go.Sort.grow],λk an=>?_⟩;simp only[Go.Sort.grow];rw[Array.getElem?_append_left an]
end
end Go.Fer
namespace Go.Fer
open Go.RowKit
def as6(e:ad)(x:Int×Unit):A (List e.ai×Unit):=A.dS (0<=x.1/\x.1<60000) ([],())
def u4(e:ad):cL:=⟨⟨[(0,.cv),(1,.val (.int .i64))],[]⟩,⟨[(0,.al 50000)],[(50000,.bj e)]⟩,[none],2,as6 e⟩
section
variable {P:Program} {aP:dG} {e:ad}
theorem aaS{C:b'}{a:Act}{w w':World}{κ:Nat->bD}{F:Nat->Prop}{D:(u4 e).cq.ai}(h:bm C ((u4 e).cq.st D) a w κ F)(aw:C.dfr=[]){kb:bD}{v:Value}
  (ae:v=kb.slice 0) (cf:w.heap.size<=w'.heap.size) (hw:∀ r,r<w.heap.size->w'.heap[r]?=w.heap[r]?) (hc:dd w w') (ln:kb.e9=false->kb.aa=w.heap.size/\w.heap.size<w'.heap.size)
  (aT:kb.e9=false->∃ cs T,w'.heap[kb.aa]?=some (.cells cs T (0,0))/\kb.off+kb.cap*e.size<=cs.size/\kb.cap<2 ^ 63) :
  bm { C with nt:=1 } ((u4 e).bL.st ([],())) { tmps:=#[v],defers:=[] } w' (λi=>if i=50000 then kb else κ i) F:=by
 have W:∀ b,((u4 e).bL.st ([],())).aa b=if b=50000 then ⟨0,.bj e []⟩ else ⟨0,.fz⟩:=λb=>rfl
 have bb:∀ b,b≠50000->((u4 e).bL.st ([],())).aa b=⟨0,.fz⟩:=λb aB=>by rw[W,if_neg aB]
 have bM:((u4 e).bL.st ([],())).aa 50000=⟨0,.bj e []⟩:=rfl;have gr:∀ b,(((u4 e).bL.st ([],())).aa b).body.b1 (if b=50000 then kb else κ b)=true->b=50000/\kb.e9=false:=λb af=>by
  by_cases e:b=50000
  ·subst e;rw[bM,if_pos rfl]at af;exact⟨rfl,by simpa [bR.b1]using af⟩
  ·rw[bb b e]at af;cases af
 refine { dH:=rfl,dfr:=aw.symm,bU:=λi=>?_,bE:=λb=>?_,al:=λb af=>?_,inj:=λb bf E U _=>?_,db:=λr M=>Nat.lt_of_lt_of_le (h.db r M) cf,hg:=h.hg,hQ:=h.hQ,ht:=h.ht,eG:=λr M=>?_,size:=Nat.le_trans h.size cf,ew:=h.ew.trans hc,gq:=(by unfold eR;exact (by decide:1<=100000)),kp:=h.kp,jD:=λb r M i'=>?_,j4:=h.j4,kq:=λb k an _ G=>?_,eL:=λl aM L n st e=>(by cases e),jE:=h.jE,iA:=h.iA.mono (λ_ h=>h) ⟨cf,λr M=>hw r (h.db r M)⟩ }
 ·by_cases G:i=0
  ·subst G;refine⟨⟨Nat.le_refl _,?_⟩,λ_ _=>?_⟩
   ·show v.oneCell'=true;rw[ae];unfold bD.slice;split<;>rfl
   ·show v=_;rw[ae];show kb.slice 0=(if (50000:Nat)=50000 then kb else κ 50000).slice 0;rw[if_pos rfl]
  ·have:((u4 e).bL.st ([],())).ay i=.undef:=by
    show fs [(0,aH.al 50000 0)] i=.undef;simp[fs,G]
   rw[this];trivial
 ·unfold cG;by_cases ax:b=50000
  ·subst ax;rw[bM];show jC _ _ _ _ _ (if (50000:Nat)=50000 then kb else κ 50000) (.bj e []);rw[if_pos rfl];refine⟨λ_=>rfl,λaB=>?_⟩;obtain⟨cs,T,E,U,ag⟩:=aT aB;exact⟨cs,T,E,U,Nat.zero_le _,ag,λi G=>absurd G (Nat.not_lt_zero _)⟩
  ·rw[bb b ax];trivial
 ·obtain⟨rfl,aB⟩:=gr b af;obtain⟨E,U⟩:=ln aB;rw[if_pos rfl,E];refine⟨U,λaq=>?_,λan=>?_⟩
  ·have:=h.db _ aq;omega
  ·have:=h.ht _ an;have:=h.size;omega
 ·rw[(gr b E).1,(gr bf U).1]
 ·have E:=h.ht r M;rw[hw r (Nat.lt_of_lt_of_le E h.size)];exact h.eG r M
 ·by_cases ax:b=50000
  ·subst ax;rw[bM]at i';rcases i' with h | h<;>cases h
  ·rw[bb b ax]at i';rcases i' with h | h<;>cases h
 ·by_cases ax:b=50000
  ·subst ax;have:=h.j4 _ _ an;unfold w5 at this;omega
  ·rw[bb b ax]at G;cases G
theorem aaT{k:FuncId}(he:∀ args w,(callFunc k args).run P w=.ok (.enter k args) w)
  (aY:∀ w:World,Calls P k #[.slice none 0 0,.int .i64 0] w λe w'=>e=.returned (.slice none 0 0)/\w'=w)
  (E:∀ (n:Nat) (w:World),0<n->n<60000->Calls P k #[.slice none 0 0,.int .i64 (n:Int)] w λy w'=>∃ (ch:Nat) (T:TypeId) (cs:Array Value),y=.returned (.slice (some ⟨w.heap.size,0,none⟩) 0 ch)/\
   w'=w.drew.alloc (.cells cs T)/\ch<2 ^ 63/\ch*e.size<=cs.size):cS P aP k (u4 e) where
 enter:=he
 iV C a w κ F D jr Am M aw rq tK h aE:=by
  obtain⟨n,u⟩:=D;change Int at n;obtain⟨sk,qe⟩:0<=n/\n<60000:=aE;have cf:a.tmps.size=2:=h.dH.trans rq;have as7:a.tmps.getD 0 undef=.slice none 0 0:=h.bU 0;have p5:a.tmps.getD 1 undef=.int .i64 n:=(gV.1 (h.bU 1)).1;have bb:a.tmps=#[.slice none 0 0,.int .i64 n]:=by
   apply Array.ext (by simp[cf]);intro i G dL;have:i=0\/i=1:=by omega
   rcases this with rfl | rfl
   ·rw[<-as7];simp[Array.getD,cf]
   ·rw[<-p5];simp[Array.getD,cf]
  subst jr;rw[bb];by_cases bl:n=0
  ·subst bl;refine (aY w).mono ?_;rintro y w' ⟨rfl,rfl⟩;refine⟨_,([],()),[.slice none 0 0],_,F,rfl,rfl,⟨[.slice none 0 0],rfl,rfl,[],rfl,rfl⟩,aaS h aw (kb:=⟨0,0,0,true⟩) rfl (Nat.le_refl _) (λ_ _=>rfl) (dd.refl _) nofun nofun⟩
  ·obtain⟨m,rfl⟩:∃ m:Nat,n=m:=⟨n.toNat,by omega⟩
   refine (E m w (by omega) (by omega)).mono ?_;rintro y w' ⟨ch,T,cs,rfl,rfl,gu,pa⟩;refine⟨_,([],()),[.slice (some ⟨w.heap.size,0,none⟩) 0 ch],_,F,rfl,rfl,⟨[_],rfl,rfl,[],rfl,rfl⟩,aaS h aw (kb:=⟨w.heap.size,0,ch,false⟩) rfl (by simp) (λr M=>?_) ⟨rfl,rfl,rfl⟩ (λ_=>⟨rfl,by simp⟩) (λ_=>⟨cs,T,?_,by simpa using pa,gu⟩)⟩
   ·exact o8 w.drew _ M
   ·show (w.drew.heap.push _)[w.heap.size]?=_;exact Array.getElem?_push_size
theorem aaU{aJ:Go.Shelf.Ren}(L:Go.Proofs.Lays8.n4 P aJ)(w:World):Calls P (aJ.f 4) #[.slice none 0 0,.int .i64 0] w λe w'=>e=.returned (.slice none 0 0)/\w'=w:=
 Go.Proofs.Any8.slices_Grow_room L none 0 0 0 w (Nat.le_refl _) (by decide) (by decide) (Nat.le_refl _)
theorem aaV{aJ:Go.Shelf.Ren}(L:Go.Proofs.Lays8.n4 P aJ)(aI:b_ P e (aJ.t 25))(aE:e.size≠0)(n:Nat)(w:World)(aY:0<n)(E:n<60000) :
  Calls P (aJ.f 4) #[.slice none 0 0,.int .i64 (n:Int)] w λy w'=>∃ (ch:Nat) (T:TypeId) (cs:Array Value),y=.returned (.slice (some ⟨w.heap.size,0,none⟩) 0 ch)/\w'=w.drew.alloc (.cells cs T)/\ch<2 ^ 63/\ch*e.size<=cs.size:=by
 obtain⟨i0,z,oB,cf,W,KX,as8,_⟩:=kt aI.ks;have nf:0<i0.size:=by omega
 have tU:=(Ck (P:=P) e as8).2;refine (Go.Proofs.Any8.slices_Grow_grow L i0 z oB KX nf none 0 0 n [] w (Nat.le_refl _) (by omega) ?_ (by omega) (by simp) (λ_=>rfl) nofun).mono ?_
 ·have:(0+n)*i0.bytes<=(0+n)*1024:=Nat.mul_le_mul_left _ W;omega
 ·rintro y w' ⟨rfl,rfl⟩;refine⟨_,_,_,rfl,rfl,?_,?_⟩
  ·have:=grownCap_le_maxLen w (0+n) 0 (aJ.t 25) (by unfold maxLen;omega);unfold maxLen at this;omega
  ·have:=grownCap_ge w (0+n) 0 (aJ.t 25);generalize grownCap w (0+n) 0 (aJ.t 25)=ch at this;simp only[Array.size_append,size_zeroCells,tU];have ax:(0+n - 0)*e.size+(ch - (0+n))*e.size=ch*e.size:=by rw[<-Nat.add_mul];congr 1;omega
   have aO:(#[]:Array Value).size=0:=rfl;omega
end
end Go.Fer
namespace Go.Fer.oi
open Go.Proofs
def E8(aP:dG)(c:cL)(sh:Nat->c.cq.ai->A c.bL.ai):List Nat->Prop
 | []=>True
 | k::l=>cS Tryz.prog aP k { c with sh:=sh k }/\E8 aP c sh l
theorem E8.mem{aP:dG}{c:cL}{sh:Nat->c.cq.ai->A c.bL.ai}:∀ {l:List Nat},E8 aP c sh l->∀ k∈l,cS Tryz.prog aP k { c with sh:=sh k }
 | [],_,k,h=>by cases h
 | j::l,h,k,an=>by
  rcases List.mem_cons.1 an with rfl | an
  ·exact h.1
  ·exact E8.mem h.2 k an
theorem yU{k:Nat}{e:ad}{f:List e.ai×Unit->A (List e.ai×Unit)}{sh:(ad.slice e).ai->A (ad.slice e).ai}(h:cS Tryz.prog dE k ⟨⟨[(0,.val (.slice e))],[]⟩,⟨[(0,.al 60)],[(60,.bj e)]⟩,[none],1,f⟩)
  (ao:∀ x:List e.ai,(sh x).cm->(f (x,())).cm/\∀ bn,(f (x,())).bL bn->bn.1=(sh x).val (ad.slice e).df):nM (hH.kD ⟨.slice e,.slice e,sh,true⟩).aW=true/\Cy Tryz.prog k (hH.kD ⟨.slice e,.slice e,sh,true⟩):=
 ajp (by simp) h mC (b0:=60) (λx=>(x,())) (λx=>rfl) rfl (by show 1<=eR;decide) rfl (λbn=>bn.1) (λbn=>⟨rfl,rfl⟩) ao
abbrev as9:Code:=Tryz.f161.body.getD .skip
theorem as_(aP:dG):cS Tryz.prog aP 161 pW:=
 as4 (um Tryz.func161 (show Tryz.f161.body=some as9 by kernel_rfl) (by kernel_rfl)) (λaa off cap zs w E U ag=>calls_of_every_depth λca=>AnyS.slices_Sort_int_in Tryz.aaG ca aa off cap zs w E U ag)
  λp cap w=>Any.slices_Sort_int_none Tryz.aaG p cap w
theorem as':QG=H.ye:=by
 funext x;unfold QG H.ye;rw[show x.1.mergeSort (λa b=>decide (a<=b))=H.fu H.hr x.1 from (H.AH ((List.pairwise_mergeSort (le:=λa b:Int=>decide (a<=b)) (λa b c E U=>by simp at E U ⊢;omega) (λa b=>by simp;omega) x.1).imp λh=>by simpa using h) (List.mergeSort_perm _ _).symm).symm]
def QH:cL:=⟨⟨[(0,.al 200001)],[(200001,.bj t3)]⟩,⟨[],[(200001,.bj t3)]⟩,[],1,H.ye⟩
theorem aaW:cS Tryz.prog dE 161 QH:=by
 have:=as_ dE;unfold pW at this;rw[as']at this;exact this
abbrev ata:Code:=Tryz.f257.body.getD .skip
abbrev atb:Code:=Tryz.f256.body.getD .skip
def aaX:cL:=⟨⟨[(0,.cv),(1,.val t3)],[]⟩,⟨[(0,.al 50000)],[(50000,.bj t3)]⟩,[none],2,H.Jc⟩
def aaY:cL:=⟨⟨[(0,.cv),(1,.val t3)],[]⟩,⟨[(0,.al 50000)],[(50000,.bj H.hp)]⟩,[none],2,H.Jd⟩
theorem atc:cS Tryz.prog dE 257 aaX:=
 aaT (e:=t3) (um Tryz.func257 (show Tryz.f257.body=some ata by kernel_rfl) (by kernel_rfl)) (aaU Tryz.aaH) (aaV Tryz.aaH (l2.b7 (id:=3) rfl (by decide)) (by decide))
theorem atd:cS Tryz.prog dE 256 aaY:=
 aaT (e:=H.hp) (um Tryz.func256 (show Tryz.f256.body=some atb by kernel_rfl) (by kernel_rfl)) (aaU Tryz.aaI) (aaV Tryz.aaI (l2.b7 (id:=125) rfl (by decide)) (by decide))
def g1:=ajn.cons (n:=139) (c:=au.Jv.dw) ⟨asJ,λ_ _=>A.vO⟩
def ey:=g1.cons (n:=204) (c:=au.Jm.dw) ⟨asN,λ_ _=>A.vO⟩
def g3:=ey.cons (n:=258) (c:=au.E0.dw) ⟨asP,λ_ _=>A.vO⟩
def ate:=g3.cons (n:=140) (c:=au.E2.dw) ⟨as0,λ_ _=>A.vO⟩
end Go.Fer.oi
namespace Go.Fer.au
open A (V)
open H (gf)
def j2(n:Int):aU:=if n<0 then P8 else Go.Lib.decDigits n.toNat
theorem QI(u:Nat):Go.Lib.decDigits u=(if u<10 then [] else Go.Lib.decDigits (u / 10))++[UInt8.ofNat (48+u % 10)]:=by
 split
 ·rw[Go.Lib.decDigits_one (by omega),Nat.mod_eq_of_lt (by omega)];rfl
 ·conv=>lhs;unfold Go.Lib.decDigits
  rw[dif_neg (by omega)]
theorem aaZ(k:Nat):UInt8.ofNat (Int.toNat (IntKind.wrap .u8 (IntKind.wrap .i64 (Add.add 48 (Int.tmod (k:Int) 10)))))=UInt8.ofNat (48+k % 10):=by
 have e:Int.tmod (k:Int) 10=((k % 10:Nat):Int):=rfl;rw[e,cj,bA (by omega) (by omega),aaw (by omega) (by omega)];congr 1
theorem aa0:∀ (k u:Nat),u<10 ^ (k+1)->Go.Lib.nDigits u<=k+1
 | 0,u,h=>by rw[Go.Lib.nDigits_small (by omega)];omega
 | k+1,u,h=>by
  unfold Go.Lib.nDigits;split
  ·omega
  ·have:=aa0 k (u / 10) (by rw[Nat.pow_succ]at h;omega);omega
abbrev JL:aL:=⟨.int .i64,.str,λn=>n<2 ^ 63,j2⟩
theorem atf(x):A.le (YZ x) (JL.sh x):=A.br λh=>by
 change x<2 ^ 63 at h;unfold YZ;show _=A.pure (j2 x);unfold j2;by_cases ah:x<0
 ·rw[if_pos (decide_eq_true ah),if_pos ah]
 ·rw[if_neg (by simpa using ah),if_neg ah,A.bu (by decide)];obtain⟨u,rfl⟩:∃ u:Nat,x=u:=⟨x.toNat,by omega⟩
  have BC:=Go.Lib.nDigits_le20 u (by omega);rw[<-Go.Lib.decDigits_length]at BC;have e:=QI u;rw[A.acP (res:=V.next (Go.Lib.decDigits u,())) (λs=>∃ k:Nat,s.1=(k:Int)/\k<=u/\Go.Lib.decDigits u=(if k<10 then [] else Go.Lib.decDigits (k / 10))++s.2.1) (λs=>s.1.toNat) ?_ _ ⟨u,rfl,Nat.le_refl _,by rw[aaZ];exact e⟩,A.aG]
  ·rfl
  ·rintro⟨n,t,⟨⟩⟩ ⟨k,E,U,ag⟩;change n=(k:Int) at E;subst E;change _=_++t at ag;have atg:=congrArg List.length ag;rw[List.length_append]at atg;have Ei:Int.tdiv (k:Int) 10=((k / 10:Nat):Int):=rfl;by_cases an:k<10
   ·right;rw[if_pos an,List.nil_append]at ag;simp only[Ei];rw[if_neg (by simp;omega),A.aG,ag]
   ·left;rw[if_neg an,QI (k / 10),List.append_assoc]at ag;refine⟨(((k / 10:Nat):Int),[UInt8.ofNat (48+k / 10 % 10)]++t,()),?_,⟨k / 10,rfl,by omega,ag⟩,by show (((k / 10:Nat):Int)).toNat<((k:Int)).toNat;omega⟩;simp only[Ei];rw[if_pos (by simp;omega),A.bu (by decide),A.bu (by decide),A.bu (gf (by simp only[hY];omega)),bA (by omega) (by omega),aaZ]
theorem QJ{n:Int}(h:n<=999999):(j2 n).length<=6:=by
 unfold j2;split
 ·decide
 ·rw[Go.Lib.decDigits_length];exact aa0 5 _ (by omega)
def r0(w:aU)(l:z1'):aU:=l.foldl (λs n=>s++([32]++j2 n)) w
abbrev E9:aL:=⟨.az .str fF,.str,λx=>x.1.length<=1000/\x.2.length<=1000/\∀ n∈x.2,n<=999999,λx=>r0 x.1 x.2⟩
theorem ath(x):A.le (Y4 JL.sh x) (E9.sh x):=A.br λh=>by
 obtain⟨w,l⟩:=x;obtain⟨E,U,ag⟩:w.length<=1000/\l.length<=1000/\∀ n∈l,n<=999999:=h;unfold Y4;show _=A.pure (r0 w l);rw[A.f' l (λi (s:aU)=>(s,l,(i:Int),())) (λn s=>.next (s++([32]++j2 n))) (λs=>.next (s,())) (λi s=>s.length<=1000+7*i) w ?_ (by omega) ?_ ?_]
 ·rw[dQ,A.aG];rfl
 ·rfl
 ·intro i G s aE;have hw:=bA (n:=(i:Int)+1) (by omega) (by omega);have aB:=ag _ (List.getElem_mem G);have aI:=QJ aB;refine⟨?_,λbf dc=>?_⟩
  ·simp only[bW,cV G,if_true,dh G,cN G,A.bq,cj,hw];rw[show JL.sh l[i]=A.pure (j2 l[i]) from A.bS (show l[i]<2 ^ 63 by omega) _,A.aG,A.bu (gf (by simp only[hY];omega)),A.bu (gf (by simp only[hY];omega))];rfl
  ·simp only[V.next.injEq]at dc;subst dc;simp only[List.length_append,List.length_cons,List.length_nil];omega
 ·simp
theorem ati{w:aU}{l:z1'}(E:w.length<=1000)(U:l.length<=1000)(ag:∀ n∈l,n<=999999):E9.sh (w,l)=A.pure (r0 w l):=A.bS ⟨E,U,ag⟩ _
theorem aa1{n:Nat}:∀ {l:z1'} {w:aU},(∀ n∈l,n<=999999)->w.length<=n->(r0 w l).length<=n+7*l.length
 | [],w,_,h=>h
 | k::l,w,h,hw=>by
  have aI:=QJ (h k (by simp));have:=aa1 (n:=n+7) (l:=l) (w:=w++([32]++j2 k)) (λn aB=>h n (by simp[aB])) (by simp;omega);show (r0 (w++([32]++j2 k)) l).length<=_;simp only[List.length_cons];omega
theorem aa2:∀ (a b:aU),cI (a++32::b)=cI a++cI b
 | [],b=>by simp[cI]
 | c::a,b=>by
  have aK:=aa2 a b;have aj:=uX a;simp only[List.cons_append,cI];split
  ·rw[aK];rfl
  ·rw[aK];cases h:cI a with
   | nil=>exact absurd aj.1 (by rw[h];decide)
   | cons v l=>rfl
theorem aa3:∀ (w:aU),(∀ c∈w,c≠32)->cI w=[w]
 | [],_=>rfl
 | c::w,h=>by
  have aK:=aa3 w λd aw=>h d (by simp[aw]);simp only[cI];rw[if_neg (h c (by simp)),aK]
theorem atj(u:Nat):∀ c∈Go.Lib.decDigits u,c≠32:=by
 induction u using Nat.strongRecOn with
 | _ u aK=>
  intro c hc;rw[QI,List.mem_append]at hc;rcases hc with hc | hc
  ·split at hc
   ·cases hc
   ·exact aK (u / 10) (by omega) c hc
  ·rw[List.mem_singleton]at hc;subst hc;have:=JK (u % 10) (by omega);intro e;rw[e]at this;have:((32:UInt8).toNat:Int)=32:=by decide
   omega
theorem atk(n:Int):cI (j2 n)=[j2 n]:=by
 refine aa3 _ ?_;unfold j2;split
 ·decide
 ·exact atj _
theorem aa4:∀ (l:z1') (w:aU),cI (r0 w l)=cI w++l.map j2
 | [],w=>by simp[r0]
 | n::l,w=>by
  show cI (r0 (w++32::j2 n) l)=_;rw[aa4 l,aa2,atk];simp
theorem aa5{n:Int}(aY:0<=n)(E:n<=999999):e0 (j2 n)=n:=by
 have aj:=QJ E;unfold j2 at aj ⊢;rw[if_neg (by omega)]at aj ⊢;obtain⟨aQ,aS⟩:=aaO n.toNat;have ao:=List.length_pos_iff.2 aQ;unfold e0;rw[if_neg,aaN]
 ·omega
 ·simp only[Bool.or_eq_true,Bool.and_eq_true,decide_eq_true_eq,not_or,not_and];exact⟨⟨by omega,by omega⟩,aS⟩
theorem atl{l:z1'}(h:∀ n∈l,0<=n/\n<=999999):EX (l.map j2)=some l:=by
 unfold EX;have e:(l.map j2).map e0=l:=by
  rw[List.map_map];conv=>rhs;rw[<-List.map_id l]
  exact List.map_congr_left λn aB=>aa5 (h n aB).1 (h n aB).2
 rw[e,if_pos];rw[List.all_map,List.all_eq_true];intro n aB;have:=h n aB;have:=aa5 (h n aB).1 (h n aB).2;simp only[Function.comp,decide_eq_true_eq];omega
theorem atm{w:aU}{k:Int}{m:Bool}{j:Nat}{l:z1'}(hw:cI w=[w])(aq:og w kJ 0=some (k,m,j))(an:k<=(l.length:Int)/\((l.length:Int)<=k\/m=true))(aj:∀ n∈l,0<=n/\n<=999999):EY (r0 w l)=some (j,l):=by
 unfold EY;rw[aa4,hw];have ax:(([w]++l.map j2).getD 0 [])=w:=rfl;have aO:(([w]++l.map j2).drop 1)=l.map j2:=rfl;have cF:((([w]++l.map j2).length:Int) - 1)=(l.length:Int):=by simp
 rw[ax,aO,cF,aq,atl aj];simp only;rw[if_neg]
 ·rfl
 ·simp only[Bool.or_eq_true,Bool.and_eq_true,decide_eq_true_eq,Bool.not_eq_true',not_or,not_and,Bool.not_eq_false];refine⟨by omega,λh=>?_⟩;rcases an.2 with U | U
  ·omega
  ·exact U
theorem atn{w:aU}{k:Int}{m:Bool}{j:Nat}{l:z1'}(hw:cI w=[w])(aq:og w kJ 0=some (k,m,j))(an:k<=(l.length:Int)/\((l.length:Int)<=k\/m=true))(aj:∀ n∈l,0<=n/\n<=999999)(d:bd):k9 d (r0 w l)=yM j d l:=by
 unfold k9;rw[atm hw aq an aj]
theorem ato{ak:Type}{l:List ak}{f:ak->aU}{S:Nat->bd}(h:∀ (k:Nat) (an:k<l.length),k9 (S k) (f l[k])=(rW,S (k+1))):(∀ a∈(gT (S 0) (l.map f)).1,a=rW)/\(gT (S 0) (l.map f)).2=S l.length:=by
 have key:∀ k,k<=l.length->(∀ a∈(gT (S 0) ((l.take k).map f)).1,a=rW)/\(gT (S 0) ((l.take k).map f)).2=S k:=by
  intro k;induction k with
  | zero=>exact λ_=>⟨by simp[gT],rfl⟩
  | succ k aK=>
   intro an;obtain⟨E,U⟩:=aK (by omega);rw[List.take_succ_eq_append_getElem (by omega),List.map_append,arl,U];have e:=h k (by omega);simp only[List.map_cons,List.map_nil,gT,e,List.mem_append,List.mem_singleton];exact⟨λa bb=>bb.elim (E a) id,trivial⟩
 have:=key l.length (Nat.le_refl _);rwa [List.take_length]at this
def BD:List aU:=[[108,101,110,100,32,49,32,48,32,49,48,48,32,51,32,55],[98,97,99,107,32,50,32,48,32,49,55,49,32,51],[115,116,111,99,107,32,48,32,49]]
theorem aa6:dm qK:=Qy asv.1 asw ase
theorem atp:(gT (ix qK) BD).1.length=3/\H.AY (gT (ix qK) BD).2.2 1=((300,300),0)/\wF (gT (ix qK) BD).2.1=(1,0):=by decide +kernel
abbrev E_:aL:=⟨.cU,.bool,λ_=>True,λ_=>true⟩
theorem atq(x):A.le (YY u0.sh H.AZ.sh Bu.sh JA.sh x) (E_.sh x):=A.br λ_=>by
 unfold YY;rw[show JA.sh ()=A.pure qK from rfl,A.aG];show A.bind (u0.sh (qK,BD)) _=A.pure true;have aw:=asa (aaq aa6) (l:=BD) (by decide);obtain⟨aQ,aS,bP⟩:=atp;rw[aaB aa6 (by decide) (by decide),A.aG];generalize gT (ix qK) BD=r at *
 rw[show H.AZ.sh (r.2.2,1)=A.pure (H.AY r.2.2 1) from A.bS aw.gJ _,A.aG,show Bu.sh r.2.1=A.pure (wF r.2.1) from A.bS aw.fL _,A.aG,aS,bP];simp[aQ]
theorem atr:E_.sh ()=A.pure true:=rfl
abbrev E':aL:=⟨.az wI bw,.bool,λx=>(∀ a∈x.1,a=rW)/\x.2=(x.1.length:Int)/\x.1.length<2 ^ 63,λ_=>true⟩
theorem ats(x):A.le (Y3 x) (E'.sh x):=A.br λh=>by
 obtain⟨l,n⟩:=x;obtain⟨E,U,ag⟩:(∀ a∈l,a=rW)/\n=(l.length:Int)/\l.length<2 ^ 63:=h;subst U;unfold Y3;rw[A.du l (λi (_:Unit)=>(l,(l.length:Int),(i:Int),())) (λ_ b=>.next b) (λ_=>.next (l,(l.length:Int),())) () ?_ ?_ ?_]
 ·rw[dQ,A.aG,A.bZ];simp
 ·rfl
 ·intro i G _;have hw:=bA (n:=(i:Int)+1) (by omega) (by omega);have:=E _ (List.getElem_mem G);simp only[bW,cV G,if_true,dh G,cN G,A.bq,cj,hw,this];rfl
 ·simp
abbrev Fa:aL:=⟨uW,uW,λd=>yH d.1/\H.HV d.2,λd=>d⟩
theorem att(x):A.le (Y0 I_.sh H.vW.sh x) (Fa.sh x):=A.br λh=>by
 unfold Y0;rw[show I_.sh x.1=A.pure x.1 from A.bS h.1 _,show H.vW.sh x.2=A.pure x.2 from A.bS h.2 _];simp only[A.iU,A.bq,A.fC]
theorem dm.atu{d:bd}(h:dm d):H.HV d.2:=by
 have:=h.aaf;exact⟨by have:=this.ec;omega,by have:=this.ef;omega,by have:=this.jm;omega,by have:=this.n4;omega⟩
theorem atv{d:bd}(h:dm d):Fa.sh d=A.pure d:=A.bS ⟨h.copy,h.atu⟩ _
theorem atw{d:bd}(E:e8 d.1)(U:H.iy d.2):E7.sh (d,[])=A.pure (u3 d []):=A.bS ⟨E,U,by show 0<2 ^ 63;decide⟩ _
theorem atx{s:bG}(h:e8 s):E5.sh ((s,[],[],[],[],0,0,0,0,0,0,0),s,[],[],[],[],0,0,0,0,0,0,0)=A.pure true:=A.bS ⟨rfl,h,by show 0<2 ^ 63;decide,by show 0<2 ^ 63;decide,by show 0<2 ^ 63;decide,by show 0<2 ^ 63;decide⟩ _
theorem aty{d:bd}(E:e8 d.1)(U:H.iy d.2)(aq:u3 d []=false)(he:ko d=0):dm d/\d.1.1.1.length<=6/\d.1.1.2.2.2.length<=10/\d.1.2.2.2.1.length<=3/\d.1.2.2.1.length<=4/\d.1.2.2.2.2.1.length<=3:=by
 have aw:dm d:=(asu (l:=[]) (n:=40) E U (by rw[aq,he];rfl)).1;refine⟨aw,?_⟩;have aE:=aw.uZ;have hc:cx d.1.1=0:=(IQ aE).1;have aQ:rT d.1=false:=by
  unfold u3 at aq;split at aq
  ·cases aq
  ·grind
 unfold rT at aQ;split at aQ
 ·cases aQ
 ·rename_i b9;split at aQ
  ·cases aQ
  split at aQ
  ·cases aQ
  rw[if_neg (by omega)]at aQ;have aS:k2 d.1.1=false:=by grind
  unfold k2 at aS;split at aS
  ·cases aS
  split at aS
  ·cases aS
  rw[if_neg (by omega)]at aS;split at aS
  ·cases aS
  simp only[Bool.or_eq_false_iff,decide_eq_false_iff_not]at aQ aS;omega
def qL(t:k5):aU:=r0 [116,114,105,97,108] [t.1,t.2.1,t.2.2.1,t.2.2.2]
theorem atz{t:k5}(h:(0<=t.1/\t.1<=999999)/\(0<=t.2.1/\t.2.1<=999999)/\(0<=t.2.2.1/\t.2.2.1<=999999)/\0<=t.2.2.2/\t.2.2.2<=999999)(d:bd):k9 d (qL t)=uY d [t.1,t.2.1,t.2.2.1,t.2.2.2]:=
 atn (k:=4) (m:=false) (j:=9) (by decide) (by decide) (by simp) (by simpa using h) d
def h1(w:a_)(k:Nat):a_:=(w.1,w.2.1,w.2.2.1,w.2.2.2.take k)
theorem QK{w:a_}(h:cx w=0)(k:Nat):cx (h1 w k)=0:=by
 have hw:=Bd h;have aI:l2 w.2.2.2=true:=by
  unfold cx at h;grind
 have E:jX (h1 w k)=true:=by
  unfold jX s8 at hw ⊢;simp only[Bool.and_eq_true,List.all_eq_true,Bool.not_eq_true',Bool.or_eq_false_iff,decide_eq_false_iff_not]at hw ⊢;obtain⟨⟨⟨⟨⟨⟨b9,a2⟩,a3⟩,a4⟩,a5⟩,fH⟩,fI⟩:=hw;refine⟨⟨⟨⟨⟨⟨b9,a2⟩,a3⟩,?_⟩,a5⟩,fH⟩,λt hm=>fI t (List.mem_of_mem_take hm)⟩;show ¬(((w.2.2.2.take k).length:Int) > 30)
  rw[List.length_take];omega
 have U:l2 (w.2.2.2.take k)=true:=by
  unfold l2 at aI ⊢;simp only[List.all_eq_true,List.mem_range,List.length_take]at aI ⊢;intro i G j aF;have:=aI i (by omega) j aF;have g:∀ n,n<k->(w.2.2.2.take k).getD n o1=w.2.2.2.getD n o1:=λn aB=>by
   rw[List.getD_eq_getElem?_getD,List.getD_eq_getElem?_getD,List.getElem?_take_of_lt aB]
  rw[g i (by omega),g j (by omega)];exact this
 unfold cx;rw[if_pos E];exact if_pos U
theorem atA{w:a_}(h:pN w=true)(k:Nat):pN (h1 w k)=true:=by
 unfold pN at h ⊢;rw[List.all_eq_true]at h ⊢;intro i G;have:=h i G;simp only[Bool.not_eq_true',decide_eq_false_iff_not]at this ⊢;intro aY;apply this;have e:fo (h1 w k) (i:Int)=[]:=List.eq_nil_of_length_eq_zero (by omega);have:fo w (i:Int)=[]:=by
  refine List.eq_nil_iff_forall_not_mem.2 λn aB=>?_;have hm:n∈fo (h1 w k) (i:Int):=by
   unfold fo at aB ⊢;obtain⟨E,U⟩:=List.mem_filter.1 aB;refine List.mem_filter.2 ⟨E,?_⟩;unfold uK at U ⊢;rw[Bool.and_eq_true,List.all_eq_true]at U ⊢;exact⟨λt aI=>U.1 t (List.mem_of_mem_take aI),U.2⟩
  rw[e]at hm;cases hm
 rw[this];rfl
theorem aa7{w:a_}(h:cx w=0){t:k5}(aI:t∈w.2.2.2):fG w t.1=true/\(0<=t.1/\t.1<=999999)/\(0<=t.2.1/\t.2.1<=999999)/\(0<=t.2.2.1/\t.2.2.1<=999999)/\0<=t.2.2.2/\t.2.2.2<=999999:=by
 have hw:=Bd h;have cW:=wo hw;unfold jX s8 at hw;simp only[Bool.and_eq_true,List.all_eq_true,Bool.not_eq_true',Bool.or_eq_false_iff,decide_eq_false_iff_not]at hw;obtain⟨⟨⟨⟨⟨⟨b9,a2⟩,a3⟩,a4⟩,a5⟩,fH⟩,fI⟩:=hw;have ae:=fI t aI;unfold rL at ae;simp only[Bool.and_eq_true,decide_eq_true_eq]at ae;obtain⟨⟨aQ,aS⟩,bP,gy⟩:=ae;obtain⟨oA,vx,Dz⟩:=yq.1 aS;have Af:=qD.1 aQ;have hm:((iS w t.2.1).length:Int)<=4:=by
  unfold iS;have cc:t.2.1.toNat<w.2.1.length:=by omega
  have:=fH _ (List.getElem_mem cc);unfold pM at this;simp only[Bool.and_eq_true,Bool.not_eq_true',decide_eq_false_iff_not]at this;rw[List.getD_eq_getElem?_getD,List.getElem?_eq_getElem cc];have:=this.1;simp only[Option.getD_some];omega
 refine⟨aQ,?_⟩;omega
theorem atB{w:a_}(h:dN w true=0)(k:Nat)(b:Bool)(W:b=true):dN (h1 w k) b=0:=by
 obtain⟨E,_,U⟩:=uL h;unfold dN;rw[if_neg (by rw[QK E];decide),if_neg (by simp[W]),if_pos (atA U k)]
theorem atC{w:a_}(h:dN w true=0){k:Nat}(an:k<w.2.2.2.length)(s:_)(c:H.a1):k9 ((h1 w k,s),c) (qL w.2.2.2[k])=(rW,((h1 w (k+1),s),c)):=by
 obtain⟨aQ,aS⟩:=aa7 (uL h).1 (List.getElem_mem an);rw[atz aS];have e:mc (h1 w k) (bo [w.2.2.2[k].1,w.2.2.2[k].2.1,w.2.2.2[k].2.2.1,w.2.2.2[k].2.2.2] 0,bo [w.2.2.2[k].1,w.2.2.2[k].2.1,w.2.2.2[k].2.2.1,w.2.2.2[k].2.2.2] 1,bo [w.2.2.2[k].1,w.2.2.2[k].2.1,w.2.2.2[k].2.2.1,w.2.2.2[k].2.2.2] 2,bo [w.2.2.2[k].1,w.2.2.2[k].2.1,w.2.2.2[k].2.2.1,w.2.2.2[k].2.2.2] 3)=h1 w (k+1):=by
  unfold mc h1;simp only[List.take_succ_eq_append_getElem an];rfl
 unfold uY;simp only[e];rw[if_neg (by rw[QK (uL h).1];decide),if_neg];show ¬(rM (h1 w (k+1)) w.2.2.2[k].1).2≠0;have rD:=atB h (k+1) (fG (h1 w (k+1)) w.2.2.2[k].1) aQ;unfold rM;rw[rD];simp
theorem atD{w:a_}(h:dN w true=0)(s:_)(c:H.a1):(∀ a∈(gT ((h1 w 0,s),c) (w.2.2.2.map qL)).1,a=rW)/\(gT ((h1 w 0,s),c) (w.2.2.2.map qL)).2=((h1 w w.2.2.2.length,s),c):=
 ato (S:=λk=>((h1 w k,s),c)) λk an=>atC h an s c
theorem acN(x:bd×Int×Int×Int×Int)(E:e8 x.1.1)(U:H.iy x.1.2):Pf E7.sh rZ.sh Be.sh E_.sh E9.sh Fa.sh u0.sh E'.sh E5.sh uN.sh tb.sh x=A.pure true:=by
 obtain⟨d,f⟩:=x;change e8 d.1 at E;change H.iy d.2 at U;unfold Pf;rw[atw E U,A.aG,show rZ.sh d=A.pure (ko d) from A.bS ⟨E,U⟩ _,A.kF,A.aG,show Be.sh d.1.1=A.pure (dN d.1.1 true) from A.bS E.1 _,A.kF,A.aG,atr];by_cases hc:u3 d []=false/\ko d=0/\dN d.1.1 true=0
 ·obtain⟨aq,he,an⟩:=hc;obtain⟨aw,ayW,l10,_⟩:=aty E U aq he;rw[if_neg (by simp[aq,he,an])];have ih:=λt=>aa7 (t:=t) (uL an).1;rw[A.f' d.1.1.2.2.2 (λi (o:List aU)=>((i:Int),d,f,d.1.1,o,())) (λt o=>.next (o++[qL t])) (λo=>.next (d,f,d.1.1,o,())) (λi o=>o.length=i) [] ?_ rfl ?_ ?_]
  ·rw[dQ,uq,A.aG,A.bZ,List.nil_append];simp only;rw[atv aw,A.aG];obtain⟨⟨w,s⟩,c⟩:=d;have aE:=aw.uZ;obtain⟨ax,aO⟩:=IQ aE;have af:dm ((h1 w 0,s),c):=by
    refine⟨⟨⟨aw.fL.1.1,aw.fL.1.2.1,by show (h1 w 0).2.2.2.length<2 ^ 63;unfold h1;simp,aw.fL.1.2.2.2⟩,aw.fL.2⟩,?_,aw.wJ,aw.yN⟩;unfold iT;rw[if_neg (by rw[show cx (h1 w 0,s).1=0 from QK ax 0];decide),if_pos];exact aO
   have W:∀ t∈w.2.2.2.map qL,t.length<=10000:=λt aI=>by
    obtain⟨q,bt,rfl⟩:=List.mem_map.1 aI;have:=(ih q bt).2;have:=aa1 (n:=5) (l:=[q.1,q.2.1,q.2.2.1,q.2.2.2]) (w:=[116,114,105,97,108]) (by simp;omega) (by decide);unfold qL;simp at this;omega
   have atE:(w.2.2.2.map qL).length<=40:=by rw[List.length_map];show w.2.2.2.length<=40;have:w.2.2.2.length<=10:=l10;omega
   have M:u0.sh ((((w.1,w.2.1,w.2.2.1,[]),s),c),w.2.2.2.map qL)=_:=aaB af atE W;obtain⟨b5,cw⟩:=atD an s (ix ((h1 w 0,s),c)).2;have cF:((h1 w 0,s),(ix ((h1 w 0,s),c)).2)=ix ((h1 w 0,s),c):=rfl;have ee:h1 w w.2.2.2.length=w:=by unfold h1;rw[List.take_length]
   rw[cF]at b5 cw;rw[ee]at cw;rw[M,A.aG,cw];have aj:=arn (ix ((h1 w 0,s),c)) (w.2.2.2.map qL);generalize (gT (ix ((h1 w 0,s),c)) (w.2.2.2.map qL)).1=a at *
   rw[show E'.sh (a,Int.ofNat (w.2.2.2.map qL).length)=A.pure true from A.bS ⟨b5,by rw[aj];rfl,by show a.length<2 ^ 63;omega⟩ _,atx aw.fL];simp only[A.kF,A.aG];rw[if_neg (by simp)];rw[show ∀ y,uN.sh (w,y)=A.pure (pO w y.1 y.2.1 y.2.2) from λy=>A.bS aw.fL.1 _,show ∀ y,tb.sh (w,y)=A.pure (rM w y) from λy=>A.bS aw.fL.1 _];simp[A.kF]
  ·rfl
  ·intro i G o af;have hw:=bA (n:=(i:Int)+1) (by omega) (by omega);have dA:=(ih _ (List.getElem_mem G)).2;refine⟨?_,λbf dc=>?_⟩
   ·simp only[bW,cV G,if_true,dh G,cN G,A.bq,cj,hw];rw[ati (by decide) (by simp) (by simp;omega),A.aG,A.bu (gf (by simp only[hY];omega))];rfl
   ·simp only[V.next.injEq]at dc;subst dc;simp[af]
  ·simp
 ·rw[if_pos (by simp;grind),A.aG]
end Go.Fer.au
namespace Go.Fer.oi
open Go.Proofs Go.Proofs.Tryz
open A (V)
set_option maxRecDepth 100000
noncomputable section
abbrev L:cD:=.eN
abbrev S(a b:cD):cD:=.seq a b
abbrev ca:cD:=S L L
abbrev C(a b:cD):cD:=.cond a b
abbrev B(a:cD):cD:=.block a
abbrev J(s:List (Nat×bX))(b:List (Nat×b2))(x y:cD):cD:=.join ⟨s,b⟩ x y
abbrev au(s:List (Nat×bX))(b:List (Nat×b2))(x:cD):cD:=.loop ⟨s,b⟩ x
abbrev ch(s:List (Nat×bX))(b:List (Nat×b2))(t:List (Nat×bX))(c:List (Nat×b2))(u:List (Nat×bX))(d:List (Nat×b2))(x y:cD):cD:=.range ⟨s,b⟩ ⟨t,c⟩ ⟨u,d⟩ x y
abbrev v2:bX:=.val t2
abbrev a2:b2:=.bj t2
abbrev v4:bX:=.val t4
abbrev v9:bX:=.val t9
abbrev a9:b2:=.bj t9
abbrev v22:bX:=.val t22
abbrev pX:bX:=.val DK
abbrev qM:bX:=.val Hv
abbrev qN:b2:=.f_ n5
abbrev et:bX:=.val eY
abbrev Fb:b2:=.bj eY
abbrev v28:bX:=.val t28
abbrev BE:bX:=.val Hw
abbrev pY:bX:=.val Aq
abbrev wO:b2:=.f_ mf
abbrev nE:bX:=.val qt
abbrev pZ:bX:=.val n6
abbrev aa8:b2:=.f_ Nc
abbrev JM:b2:=.f_ tr
abbrev yV:b2:=.f_ wU
abbrev BF:b2:=.bj tt
abbrev aa9:b2:=.f_ tt
abbrev r1:bX:=.val UZ
abbrev JN:b2:=.bj x1
abbrev QL:b2:=.f_ x1
abbrev QM:b2:=.bj vK
abbrev wP:b2:=.bj ru
abbrev atF:b2:=.f_ ru
abbrev QN:b2:=.bj x2
abbrev aa_:b2:=.f_ x2
abbrev atG:bX:=.val Nf
abbrev Fc:b2:=.f_ qu
abbrev aa':bX:=.val U1
abbrev BG:bX:=.val DL
abbrev aba:bX:=.val jc
abbrev wQ:b2:=.bj jc
abbrev QO:bX:=.val vL
abbrev abb:bX:=.val U2
abbrev abc:bX:=.val px
abbrev Fe:b2:=.bj px
abbrev atH:bX:=.val U3
abbrev abd:bX:=.val Nh
abbrev abe:bX:=.val Ni
abbrev gU:b2:=.bj qv
abbrev yW:b2:=.f_ qv
abbrev QP:bX:=.val Nj
abbrev kK:bX:=.val oO
abbrev atI:bX:=.val U9
abbrev abf:b2:=.f_ Nd
abbrev BH:b2:=.bj Ao
abbrev abg:b2:=.f_ Ao
abbrev QQ:bX:=.val Hu
abbrev Ff:b2:=.bj vJ
abbrev abh:b2:=.bj Ap
abbrev abi:b2:=.f_ Ap
abbrev atJ:bX:=.val U_
abbrev QR:bX:=.val Nl
abbrev v228:bX:=.val t228
abbrev atK:bX:=.val Vb
abbrev atL:bX:=.val Vc
abbrev atM:bX:=.val Vd
abbrev BI:bX:=.val Ve
abbrev atN:bX:=.val Vf
abbrev atO:bX:=.val Vg
abbrev JO:bX:=.val DN
abbrev nu:List (Nat×bX):=[(6,.aX 17 0),(56,.hG [30000,30001,30002,30003,30004,30005,30006,30007,30008,30009]),(57,v2)]
abbrev nF:List (Nat×bX):=[(1,.aX 1 0)]
abbrev abj:List (Nat×bX):=[(1,.aX 1 0),(2,.aX 2 0),(3,.aX 1 0),(38,v2),(39,v2)]
abbrev abk:List (Nat×bX):=[(2,.aX 2 0),(7,.aX 22 0),(8,.aX 8 0),(9,.aX 9 0),(10,.al 10),(11,.aX 11 0),(24,v22),(25,v2),(26,v2)]
abbrev abl:List (Nat×bX):=[(2,.aX 2 0),(3,.aX 3 0),(4,.al 4),(5,.al 5),(7,QO),(8,v2),(9,v2),(23,v2),(29,QP),(30,v2),(31,v2)]
abbrev tn:List (Nat×bX):=[(1,.aX 1 0),(3,v2)]
abbrev abm:List (Nat×bX):=[(2,.aX 2 0),(7,.aX 30 0),(10,v2),(11,v2),(46,v2),(47,v2),(52,pX),(53,v2),(54,v2),(61,v2),(62,v2)]
abbrev atP:List (Nat×bX):=[(1,.aX 1 0),(2,.aX 2 0),(3,.aX 1 0),(5,.iW 22),(38,v2),(39,v2),(60,v2),(61,v2)]
abbrev abn:List (Nat×bX):=[(0,kK),(1,et),(2,v2),(3,.hf),(9,v2),(29,v28),(30,v2),(31,v2),(1000000,.aW eY)]
abbrev abo:List (Nat×bX):=[(0,kK),(1,.al 200001),(2,pY),(3,v2),(4,.fJ 100002),(16,nE),(17,v2),(18,v2)]
abbrev QS:List (Nat×bX):=[(1,.aX 1 0),(2,.aX 2 0)]
abbrev BJ:List (Nat×bX):=[(2,.aX 2 0),(3,.aX 3 0)]
abbrev abp:List (Nat×bX):=[(2,.aX 2 0),(3,.aX 3 0),(4,.al 4),(5,.al 5),(7,QO),(8,v2),(9,v2),(23,v2)]
abbrev abq:List (Nat×bX):=[(2,.aX 2 0),(7,.aX 30 0),(10,v2),(46,v2),(47,v2),(52,pX),(53,v2),(54,v2)]
abbrev abr:List (Nat×bX):=[(0,.hf),(2,.dW vL),(10,abe),(11,v2),(1000000,.aW (.az jc t2))]
abbrev QT:List (Nat×bX):=[(1,.aX 1 0),(2,.aX 2 0),(3,.aX 3 0),(4,v2)]
abbrev abt:List (Nat×bX):=[(2,v2),(6,.aX 6 0),(8,.aX 8 0),(9,v4),(17,abd),(18,v2),(19,v2)]
abbrev abu:List (Nat×bX):=[(4,.aX 4 0),(5,.aX 5 0),(10,.fJ 24),(28,QP),(29,v2),(30,v2)]
abbrev abv:List (Nat×bX):=[(2,.aX 2 0),(3,.aX 3 0),(4,.al 4),(5,.al 5),(7,QO),(23,v2)]
abbrev BK:List (Nat×bX):=[(1,.aX 1 0),(5,v2)]
abbrev abw:List (Nat×bX):=[(0,aa'),(1,v2),(2,v2),(3,v2),(9,v2),(18,et),(19,v2),(20,v2)]
abbrev abx:List (Nat×bX):=[(1,v2),(6,kK),(8,.al 8),(9,.al 50260),(29,v2),(30,v2)]
abbrev aby:List (Nat×bX):=[(1,r1),(2,.aX 2 0),(5,v2),(6,v2),(7,v2),(8,v2),(10,v2)]
abbrev JP:List (Nat×bX):=[(1,.aX 1 0),(3,v2),(4,v2)]
abbrev abz:List (Nat×bX):=[(1,atH),(4,.aX 4 0),(5,v4),(13,QP),(14,v2),(15,v2)]
abbrev abA:List (Nat×bX):=[(0,kK),(1,pY),(5,.al 50140),(6,v2),(16,v2),(17,v2)]
abbrev QU:List (Nat×bX):=[(2,.aX 2 0),(3,.aX 3 0),(7,v2)]
abbrev jA:List (Nat×b2):=[(17,.cells DM [et,.al 30000,.al 30001,.al 30002,.al 30003,.al 30004,.al 30005,.al 30006,.al 30007,.al 30008,.al 30009]),(30000,gU),(30001,gU),(30002,gU),(30003,gU),(30004,gU),(30005,gU),(30006,gU),(30007,gU),(30008,gU),(30009,gU),(100000,.cells rv [nE,pZ,et,nE,v2,v2,v2,v2,v2,v2,v2,pZ,.al 100002]),(100002,Fe)]
abbrev tp:List (Nat×b2):=[(12,yW),(17,.cells DM [et,.al 30000,.al 30001,.al 30002,.al 30003,.al 30004,.al 30005,.al 30006,.al 30007,.al 30008,.al 30009]),(30000,gU),(30001,gU),(30002,gU),(30003,gU),(30004,gU),(30005,gU),(30006,gU),(30007,gU),(30008,gU),(30009,gU),(100000,.cells rv [nE,pZ,et,nE,v2,v2,v2,v2,v2,v2,v2,pZ,.al 100002]),(100002,Fe)]
abbrev JQ:List (Nat×b2):=[(1,.cells mf [.al 17,.al 22,v2,.al 27,.al 84,.al 87,.al 90,.al 93,v2]),(2,.cells mf [.cv,.cv,v2,.cv,.cv,.cv,.cv,.cv,v2]),(17,BH),(22,Ff),(27,BF),(84,a2),(87,QN),(90,QM),(93,wP)]
abbrev abB:List (Nat×b2):=[(1,.cells mf [.al 17,.al 22,v2,.al 27,et,v28,BE,pY,v2]),(2,.cells mf [.cv,.cv,v2,.cv,.cv,.cv,.cv,.cv,v2]),(17,BH),(22,.gp vJ (.al 50530)),(27,BF),(50530,abh)]
abbrev wR:List (Nat×b2):=[(2,wO),(28,.mp ru t2),(30,.cells t222 [v22,pX,v2,qM,et,v28,BE,pY,v2,.cv,.fJ 28])]
abbrev abC:List (Nat×b2):=[(1,.cells mf [.al 17,.al 22,v2,.al 27,et,v28,BE,pY,v2]),(2,.cells mf [.cv,.cv,v2,.cv,.cv,.cv,.cv,.cv,v2]),(17,BH),(22,Ff),(27,BF)]
abbrev QV:List (Nat×b2):=[(1,wO),(2,.cells mf [.cv,.cv,v2,.cv,.cv,.cv,.cv,.cv,v2]),(3,.cells mf [v22,pX,v2,qM,.al 11,.al 16,.al 20,.al 24,v2]),(11,a2),(16,QN),(20,QM),(24,wP)]
abbrev abD:List (Nat×b2):=[(1,qN),(2,.cells n5 [.cv,.cv,v2,.cv]),(3,.cells n5 [.al 8,.al 59,v2,.al 12]),(5,.cells vJ [.al 26]),(8,BH),(12,BF),(26,abh),(59,Ff)]
abbrev abE:List (Nat×b2):=[(4,a9),(5,.cells wU [.cv,.cv,v2,.cv,.cv,.cv,.cv,.cv,v2,.cv,.cv,.cv,.cv,v2,v2,v2,v2,v2,v2,v2]),(50230,Fc)]
abbrev abF:List (Nat×b2):=[(1,qN),(2,.cells n5 [.cv,.cv,v2,.cv]),(3,.cells n5 [.al 8,.al 59,v2,.al 12]),(8,BH),(12,BF),(59,Ff)]
abbrev BL:List (Nat×b2):=[(2,JM),(3,.gK t2),(4,a2),(5,a2)]
abbrev abG:List (Nat×b2):=[(2,wO),(28,.mp ru t2),(30,.cells t222 [v22,pX,v2,qM,et,v28,BE,pY,v2,.al 109,.fJ 28]),(109,JN)]
abbrev abH:List (Nat×b2):=[(28,.mp ru t2),(30,.cells t222 [v22,pX,v2,qM,et,v28,BE,pY,v2,.al 109,.fJ 28]),(109,JN)]
abbrev abI:List (Nat×b2):=[(100000,.cells rv [nE,pZ,et,nE,v2,v2,v2,v2,v2,v2,v2,pZ,.al 100002]),(100002,Fe)]
abbrev nG:List (Nat×b2):=[(1,qN)]
abbrev oh:List (Nat×b2):=[(1,JM)]
abbrev abJ:List (Nat×b2):=[(2,.gK n5),(22,.cells x3 [v22,pX,v2,qM,.al 61]),(61,Fb)]
abbrev yX:List (Nat×b2):=[(2,qN),(3,qN)]
abbrev qO:List (Nat×b2):=[(1,wO)]
abbrev QW:List (Nat×b2):=[(100002,.mp t2 t2),(200001,a2)]
abbrev Fg:List (Nat×b2):=[(2,JM),(3,JM)]
abbrev Fh:List (Nat×b2):=[(5,wO),(6,wO)]
abbrev bH:cD:=S L (C ca L)
abbrev ej:cD:=C L L
abbrev ax:cD:=S L ej
abbrev aO:cD:=S L ca
abbrev me:cD:=S L bH
abbrev cF:cD:=S L (S ej (S (B me) L))
abbrev ee:cD:=S L (S ej (S (B ca) L))
abbrev dZ:cD:=S ax (S (B bH) L)
abbrev ld:cD:=S L (S L (S L (J QS abC (S L (B (au abj abC (S L (S ej (J abj abB (B (S L (S L (S (.nR 5 L) (S L (B (au atP abB ee))))))) (.Gz 22 L))))))) (S L (J QS JQ (S L (B (au [(1,.aX 1 0),(2,.aX 2 0),(100,v2),(101,v2)] JQ ee))) (J QS JQ (S L (B (au [(1,.aX 1 0),(2,.aX 2 0),(119,v2),(120,v2)] JQ ee))) ca))))))
abbrev tG:cD:=S L (J [(0,et),(1,v2)] [] ax (S L (J [(0,et),(6,v228)] [] ax (S L (S L (J [(7,.al 30)] [(30,a2)] (B (au [(7,.al 30),(8,v2)] [(30,a2)] (S ax (B L)))) ca))))))
abbrev abK:cD:=S L (S L (J [(4,.fJ 12)] [(12,.mp t2 jc)] (S L (B (au [(4,.fJ 12),(13,pZ),(14,v2),(15,v2)] [(12,.mp t2 jc)] (S L (S ej (S (B (S L (S me L))) L)))))) (S L (J [(9,.al 9)] [(9,wQ)] (S L (B (au [(4,.fJ 12),(9,.al 9),(39,et),(40,v2),(41,v2)] [(9,wQ),(12,.ji t2 jc)] ee))) ca))))
abbrev kL:cD:=S L (S bH ca)
abbrev wS:cD:=S ax (S (B me) L)
abbrev u5:cD:=S ax (S (B L) L)
abbrev tq:cD:=S L aO
abbrev qP:cD:=S L tq
abbrev BM:cD:=S L (S L (S bH aO))
abbrev yY:cD:=B (S L (S L ax))
abbrev abL:cD:=S L (J [] [] (S L (B (au [(0,et),(1,v2),(5,v2)] [] dZ))) ca)
abbrev abM:cD:=S L (J [] [] (S L (B (au [(0,et),(3,v2)] [] dZ))) ca)
abbrev yZ:cD:=B (S L ax)
abbrev abN:cD:=S L (B (au [(1,.aX 1 0),(4,v2)] qO dZ))
abbrev abO:cD:=S L (S (S L (B (S L (C ca bH)))) ca)
abbrev la:=cL.mk ⟨[(0,.aX 100000 0),(1,.val eY)],[(100000,.f_ qu)]⟩ ⟨[(0,.val t9)],[(100000,.f_ qu)]⟩ [none] 2
def atQ:=mk ate func208 cg aO an4
def atS:=mk atQ func148 H.cg aO H.ak8
def atT:=mk atS func147 H.vU aO H.ala
def atU:=mk atT func149 H.vV kL H.alc
def atV:=mk atU func67 H.vZ (S L (S bH (J nF oh (S L (B (au tn oh dZ))) (J nF oh (S L (B (au [(1,.aX 1 0),(4,v2)] oh dZ))) (J nF oh (S L (B (au BK oh dZ))) (J [] [] (S L (B (au [(1,.aX 1 0),(6,v2)] oh wS))) ca)))))) H.alJ
def atW:=mk atV func68 H.HU aO H.alg
def atX:=mk atW func26 H.hs (S L (S bH (J [] [] (S L (B (au tn oh (S ax (J tn oh (B (S L (B (au JP oh dZ)))) L))))) ca))) H.alL
def atY:=mk atX func251 o0 aO aoa
def atZ:=mk atY func316 uH abM aob
def at0:=mk atZ func252 s9 (S L (J nF [(1,abi)] (S L (B (au tn [(1,abi)] dZ))) ca)) aod
def at1:=mk at0 func253 pK aO an8
def at2:=mk at1 func317 Ba aO an_
def at3:=mk at2 func254 rJ aO an'
def at4:=mk at3 func179 s_ (S L (S bH (J nF nG (S L (B (au tn nG wS))) (J nF nG (S L (B (au BK nG (S ax (J BK nG (B (S bH (S L (B (au [(1,.aX 1 0),(5,v2),(6,v2)] nG dZ))))) L))))) (J [] [] (S L (B (au [(1,.aX 1 0),(7,v2)] nG wS))) ca))))) aof
def at5:=mk at4 func104 hs (S L (S bH (J [] [] (S L (B (au tn nG (S ax (J tn nG (B (S L (B (au JP nG wS)))) L))))) ca))) aoh
def at6:=mk at5 func105 cg aO apb
def at7:=mk at6 func180 IG abL apf
def aua:=mk at7 func106 II kL apq
def aub:=mk aua func107 IJ aO apr
def auc:=mk aub func48 pT (S L (S me (S bH (J nF qO abN (J nF qO (S L (B (au BK qO dZ))) (J nF qO (S L (B (au [(1,.aX 1 0),(6,v2)] qO dZ))) (J [] [] (S L (B (au [(1,.aX 1 0),(7,v2)] qO wS))) ca))))))) aps
def x':=mk auc func15 au.rZ kL au.asf
def aud:=mk x' func110 wh (S L (S bH (J nF nG (S L (B (au tn nG (S ax (J tn nG (B (S bH (S L (B (au JP nG dZ))))) L))))) (S bH (J nF nG (S L (B (au BK nG dZ))) ca))))) ao9
def aue:=mk aud func50 I' (S L (S bH (J nF qO (S L (B (au tn qO dZ))) (J nF qO abN (S bH (S L (J BK qO (S L (B (au [(1,.aX 1 0),(5,v2),(6,v2)] qO u5))) ca))))))) aqS
def auf:=mk aue func51 H.wh (S L (S bH (S bH (S L (J [(3,v2)] [] (S L (B (au JP oh u5))) ca))))) H.anr
def aug:=mk auf func111 au.JC (S L (S L (J [(3,.al 5)] [(5,a9)] (S L (B (au [(0,v9),(3,.al 5),(4,v2)] [(5,a9)] (S ax (J [(0,v9),(3,.al 5),(4,v2)] [(5,a9)] (B ax) L))))) ca))) au.asi
def auh:=mk aug func112 au.JB (S L (S bH (S L (J [(3,v2)] [] (S L (B (au [(0,v9),(3,v2),(4,v2)] [] (S ax (S (B (S bH L)) L))))) ca)))) au.ash
def aui:=mk auh func113 au.JD (S L qP) au.asl
def auj:=mk aui func52 au.JF (S L (S L (J [(3,.al 3),(5,r1)] [(3,a2)] (S L (B (au [(3,.al 3),(5,r1),(6,v2)] [(3,a2)] (S ax (S (B (S L (S bH L))) L))))) (S L (J [] [] (S L (B (au [(3,.al 3),(5,r1),(8,r1),(9,et),(10,et),(11,v2)] [(3,a2)] dZ))) ca))))) au.asm
def sO:=mk auj func14 au.E7 (S L (S bH (S L (J [(1,r1),(2,.aX 2 0),(5,v2),(6,v2),(7,v2),(8,v2)] [(2,yV)] (S L (B (au [(1,r1),(2,.aX 2 0),(5,v2),(6,v2),(7,v2),(8,v2),(9,v2)] [(2,yV)] u5))) (J [(2,.aX 2 0),(5,v2),(6,v2),(7,v2),(8,v2)] [(2,yV)] (S L (B (au aby [(2,yV)] (S ax (J aby [(2,yV)] (B (S bH (S L (B (S L (C L (S L (C L (S L (C ca ax)))))))))) L))))) ca))))) au.ast
def auk:=mk sO func235 mH abL an7
def aul:=mk auk func255 ta tq aom
def aum:=mk aul func182 EA (S L (J [(1,v2),(2,v2),(3,.aX 3 0)] [(3,qN)] (S L (B (au [(1,v2),(2,v2),(3,.aX 3 0),(7,v2)] [(3,qN)] wS))) ca)) aoo
def aun:=mk aum func114 EB (S L (S L (J [(5,.al 5)] [(5,a2)] (S L (B (au [(1,v2),(2,.aX 2 0),(5,.al 5),(6,v2)] [(2,qN),(5,a2)] (S ax (J [(1,v2),(2,.aX 2 0),(5,.al 5),(6,v2)] [(2,qN),(5,a2)] (B ax) L))))) ca))) aoq
def auo:=mk aun func53 It (S L (S me (S bH (J [] [] (S L (B (au [(2,.aX 2 0),(6,v2)] [(2,qN)] dZ))) ca)))) aos
def DZ:=mk auo func16 Be aO aot
def aup:=mk DZ func276 (k0 jW) (S L (J [] [] (S L (B (au [(0,qM),(1,atJ),(7,v2),(8,v2)] [] cF))) ca)) (sR jW)
def auq:=mk aup func206 (je jW) aO (sS jW)
def aur:=jQ auq [] func207 (wq jW) 1 aO (EC jW)
def aus:=l4 aur [(207,1)] func144 (jz jW) aO (ED jW)
def aut:=mk aus func145 cg aO aov
def auu:=mk aut func266 yt aO aox
def auv:=mk auu func267 o0 aO aow
def auw:=mk auv func265 Iy aO aoE
def auy:=mk auw func292 (k0 bw) (S L (J [] [] (S L (B (au [(0,et),(1,abb),(7,v2),(8,v2)] [] cF))) ca)) (sR bw)
def auz:=mk auy func227 (je bw) aO (sS bw)
def auA:=jQ auz [] func331 (wq bw) 1 aO (EC bw)
def auB:=l4 auA [(331,1)] func269 (jz bw) aO (ED bw)
def auC:=mk auB func270 uH abM aoA
def auD:=l4 auC [] func268 s9 aO aoF
def auE:=mk auD func372 (k0 qC) (S L (J [] [] (S L (B (au [(0,QQ),(1,atM),(7,v2),(8,v2)] [] cF))) ca)) (sR qC)
def auF:=mk auE func332 (je qC) aO (sS qC)
def auG:=jQ auF [] func333 (wq qC) 1 aO (EC qC)
def auH:=l4 auG [(333,1)] func272 (jz qC) aO (ED qC)
def auI:=jQ auH [] func271 Bf 1 aO aoG
def auJ:=mk auI func64 pK aO aoy
def auK:=mk auJ func65 rJ aO aoz
def auL:=jQ auK [] func273 Bg 1 aO aoH
def auM:=mk auL func373 (k0 kI) (S L (J [] [] (S L (B (au [(0,v22),(1,atN),(7,v2),(8,v2)] [] cF))) ca)) (sR kI)
def auN:=mk auM func334 (je kI) aO (sS kI)
def auO:=jQ auN [] func335 (wq kI) 1 aO (EC kI)
def auP:=l4 auO [(335,1)] func274 (jz kI) aO (ED kI)
def auQ:=mk auP func374 (k0 k4) (S L (J [] [] (S L (B (au [(0,pX),(1,atO),(7,v2),(8,v2)] [] cF))) ca)) (sR k4)
def auR:=mk auQ func336 (je k4) aO (sS k4)
def auS:=jQ auR [] func337 (wq k4) 1 aO (EC k4)
def auT:=l4 auS [(337,1)] func275 (jz k4) aO (ED k4)
def auU:=l4 auT [(271,1),(273,1)] func205 s_ (S L (S L qP)) aoI
def auV:=mk auU func141 hs (S L (S bH (S L (J [] [] (S L (B (au [(3,.fJ 12),(14,qM),(15,v2),(16,v2)] [(12,.mp ru t2)] (S L (S ej (S (B (S L (S L (S me L)))) L)))))) ca)))) aoM
def auW:=mk auV func164 cg aO apa
def auX:=mk auW func220 rO aO apc
def auY:=mk auX func221 IF (S L (J [] [] (S L (B (au [(0,et),(1,abb),(7,et),(8,v2),(9,v2)] [] cF))) ca)) ape
def auZ:=jQ auY [] func222 EG 1 aO api (hc:=λx h=>by obtain⟨w,p,aq,_⟩:=h;exact sJ ⟨⟨trivial,ry (congrArg (λo=>o.1) aq)⟩,ry (congrArg (λo=>o.2) aq)⟩)
def au0:=jQ auZ [(222,1)] func219 EH 1 aO apj (hc:=λx h=>by obtain⟨_,w,aq,_⟩:=h;exact sJ ⟨trivial,ry aq⟩)
def au1:=mk au0 func224 rO aO apd
def au2:=l4 au1 [] func223 EI aO apk
def au3:=jQ au2 [] func225 EJ 1 aO apl (hc:=λx h=>by obtain⟨w,aq,_⟩:=h;exact sJ ⟨trivial,ry aq⟩)
def au4:=mk au3 func226 EK aO apm
def au5:=mk au4 func293 (k0 nq) (S L (J [] [] (S L (B (au [(0,v28),(1,atK),(7,v2),(8,v2)] [] cF))) ca)) (sR nq)
def au6:=mk au5 func228 (je nq) aO (sS nq)
def au7:=mk au6 func294 (k0 mJ) (S L (J [] [] (S L (B (au [(0,BE),(1,atI),(7,v2),(8,v2)] [] cF))) ca)) (sR mJ)
def au8:=mk au7 func229 (je mJ) aO (sS mJ)
def au9:=mk au8 func295 (k0 pR) (S L (J [] [] (S L (B (au [(0,pY),(1,atL),(7,v2),(8,v2)] [] cF))) ca)) (sR pR)
def au_:=mk au9 func230 (je pR) aO (sS pR)
def au':=l4 au_ [(219,1),(225,1)] func171 Pw (S L (S L (S L qP))) apn
def QX:=mk au' func100 pT (S L (S me (S bH ca))) apo
def abP:cL:=⟨⟨[(0,.cv),(1,.val Nk)],[]⟩,⟨[(0,.al 50000)],[(50000,.bj t2)]⟩,[none],2,H.AJ⟩
theorem ava:cS Tryz.prog dE 213 abP:=d' QX [] trivial func213 (S L (S (S L (B (ch [(2,.aX 2 0)] [(2,.cells eY [.al 50000]),(50000,a2)] [(2,.aX 100002 0),(7,v2)] [(100002,.cells eY [.al 150000]),(150000,a2)] [] [(100002,.cells eY [.al 150000]),(150000,a2)] L (B L)))) ca)) H.alD
def abQ:cL:=⟨⟨[(0,.val Nk)],[]⟩,⟨[(0,.al 50040)],[(50040,.bj t2)]⟩,[none],1,H.AJ⟩
theorem avb:cS Tryz.prog dE 160 abQ:=d' QX [(213,.fb abP)] ⟨ava,trivial⟩ func160 aO H.alE
def QY:=pA QX mC [(160,.fb abQ),(161,.fb QH)] ⟨avb,aaW,trivial⟩ func86 H.sT qP H.alF
def abR:cL:=⟨⟨[(0,.hf),(1,.dW Hy),(1000000,.aW t2)],[]⟩,⟨[(1000000,.aW t2)],[]⟩,[],2,H.Og⟩
theorem avc:cS Tryz.prog dE 277 abR:=d' (S:=H.Og) QY [] trivial func277 (S L (B (au [(0,.hf),(5,.j3 5),(1000000,.aW t2)] [(5,.ct t2 jc)] (S L (S ej yZ))))) (λx=>A.le_refl _)
theorem avd:w1 Tryz.prog 277 ⟨[Hy],t2,H.jS⟩:=M_ (c:=abR) avc mC (λx l L=>(l,x.getD [],(l,L,[],false),())) rfl (by decide) (by simp[gn])
 (λx l L i ah=>by
  obtain⟨T,aV⟩:=ah;obtain⟨m,hm,_⟩:=aV;subst hm;by_cases aY:i=0
  ·subst aY;exact .inr (.inr (.inl ⟨rfl,rfl⟩))
  ·by_cases E:i=1
   ·subst E;exact .inr (.inl ⟨by decide,by decide,_,_,rfl,rfl⟩)
   by_cases U:i=b6
   ·subst U;exact .inr (.inr (.inr ⟨rfl,rfl⟩))
   ·refine .inl ?_;exact (if_neg aY).trans ((if_neg E).trans (if_neg U)))
 rfl (λbn=>⟨_,_,_,_,rfl⟩) (λx l ah=>by
  obtain⟨T,aV⟩:=ah;obtain⟨m,hm,_⟩:=aV;subst hm;have h:=H.amD l m;refine⟨h.1,λbn gj dI e7 p fm=>?_⟩;have e:aH.aW bn.1.1 t2 bn.1.2.1 bn.1.2.2.1 bn.1.2.2.2=.aW dI t2 e7 p false:=fm;injection e with ax aO cF ee dZ
  rw[<-ee];exact h.2 bn gj dZ)
def ave:=pA QY (QY.u [] [(277,⟨[Hy],t2,H.jS⟩)] ⟨avd,trivial⟩) [] trivial func210 H.yf aO H.alI
def avf:=mk ave func154 H.AQ abK H.alT
def avg:=mk avf func85 H.cg aO H.ak9
def avh:=mk avg func209 (H.k0 H.hp) (S L (J [] [] (S L (B (au [(0,pZ),(1,QR),(7,v2),(8,v2)] [] cF))) ca)) H.alh
def avi:=mk avh func151 (H.je H.hp) aO H.ali
def avj:=mk avi func231 H.vU (S L (J nF [(1,aa8)] (S L (B (au [(1,.aX 1 0),(13,.al 13),(14,v2),(15,v2)] [(1,aa8),(13,a2)] cF))) ca)) H.alb
def avk:=mk avj func76 H.vT aO H.ak'
def avl:=mk avk func233 H.vV tq H.ald
def avm:=jQ avl [] func232 H.Ea 1 aO H.ale
def avn:=mk avm func234 H.AG aO H.alf
def avo:=l4 avn [(232,1)] func172 H.vZ (S L (S bH (J nF oh (S L (B (au [(1,.aX 1 0),(38,nE),(39,v2),(40,v2)] oh cF))) (J nF oh (S L (B (au [(1,.aX 1 0),(57,nE),(58,v2),(59,v2)] oh cF))) tq)))) H.alK
def avp:=mk avo func101 H.hs (S L (S bH (S me ca))) H.alV
def avq:=mk avp func46 au.rZ kL au.ar8
def QZ:=pA avq mC [(256,.fb aaY)] ⟨atd,trivial⟩ func184 H.Jf (S L (S L (J [(0,BI),(3,v2)] [] (S L (B (au [(0,BI),(3,v2),(9,BI),(10,v2),(11,v2)] [] (S L (S ej (J [(0,BI),(3,v2),(9,BI),(10,v2),(11,v2)] [] yY L)))))) (S L (J [(6,.al 50240)] [(50240,wQ)] (S L (B (au [(6,.al 50240),(25,BI),(26,v2),(27,v2)] [(50240,wQ)] ee))) ca))))) H.aq1
def abS:cL:=⟨⟨[(0,.val DL)],[]⟩,⟨[(0,.al 50240)],[(50240,.bj t3)]⟩,[none],1,H.Jg⟩
theorem avr:cS Tryz.prog dE 185 abS:=d' QZ [(257,.fb aaX)] ⟨atc,trivial⟩ func185 (S L (S L (J [(0,BG),(3,v2)] [] (S L (B (au [(0,BG),(3,v2),(9,BG),(10,v2),(11,v2)] [] (S L (S ej (J [(0,BG),(3,v2),(9,BG),(10,v2),(11,v2)] [] yY L)))))) (S L (J [(6,.al 50240)] [(50240,a2)] (S L (B (au [(6,.al 50240),(25,BG),(26,v2),(27,v2)] [(50240,a2)] ee))) ca))))) H.aq2
def abT:cL:=⟨⟨[(0,.al 200001)],[(200001,.bj t3)]⟩,⟨[(0,.sub 200001)],[(200001,.bj t3)]⟩,[none],1,H.Ji⟩
theorem avt:cS Tryz.prog dE 186 abT:=d' QZ [] trivial func186 (S L (S bH (J [(0,.al 200001)] [(200001,a2)] (S L (B (au [(0,.al 200001),(3,v2)] [(200001,a2)] (S ax (J [(0,.al 200001),(3,v2)] [(200001,a2)] (B (S L (C (S L (J [(0,.al 200001),(3,v2)] [(200001,a2)] (S L (B (au [(0,.al 200001),(3,v2),(4,.sub 200001),(5,v2)] [(200001,a2)] (S ax (J [(0,.al 200001),(3,v2),(4,.sub 200001),(5,v2)] [(200001,a2)] (B bH) L))))) aO)) L))) L))))) ca))) H.aq8
def avu:=mk QZ func187 H.EW kL H.are
def u6:=pA avu mC [(161,.fb QH),(185,.fb abS),(186,.fb abT)] ⟨aaW,avr,avt,trivial⟩ func117 H.Bx (S L (S me (S L (S L (S me (S L (S bH (S L BM)))))))) H.arh
def avv:cL:=⟨⟨[(0,.val t22)],[]⟩,⟨[(0,.al 60)],[(60,.bj Ao)]⟩,[none],1,au.qJ⟩
theorem avw:cS Tryz.prog dE 188 avv:=d' u6 [] trivial func188 kL au.wK
abbrev Q0:e6:=.kD (hH.kD (au.fS kI).dw)
theorem abU:e6.hB Tryz.prog dE 188 Q0:=yU (sh:=(au.fS kI).sh) avw (λx h=>⟨h,λbn gj=>by have h:bn=_:=gj;subst h;exact (A.gA).symm⟩)
def avx:cL:=⟨⟨[(0,.val DK)],[]⟩,⟨[(0,.al 60)],[(60,.bj vJ)]⟩,[none],1,au.qJ⟩
theorem avy:cS Tryz.prog dE 189 avx:=d' u6 [] trivial func189 kL au.wK
abbrev Q1:e6:=.kD (hH.kD (au.fS k4).dw)
theorem abV:e6.hB Tryz.prog dE 189 Q1:=yU (sh:=(au.fS k4).sh) avy (λx h=>⟨h,λbn gj=>by have h:bn=_:=gj;subst h;exact (A.gA).symm⟩)
def avz:cL:=⟨⟨[(0,.val Hv)],[]⟩,⟨[(0,.al 60)],[(60,.bj tt)]⟩,[none],1,au.qJ⟩
theorem avA:cS Tryz.prog dE 190 avz:=d' u6 [] trivial func190 kL au.wK
abbrev Q2:e6:=.kD (hH.kD (au.fS jW).dw)
theorem abW:e6.hB Tryz.prog dE 190 Q2:=yU (sh:=(au.fS jW).sh) avA (λx h=>⟨h,λbn gj=>by have h:bn=_:=gj;subst h;exact (A.gA).symm⟩)
def Q3:cL:=⟨⟨[(0,.val Hu)],[]⟩,⟨[(0,.al 60)],[(60,.bj Ap)]⟩,[none],1,au.qJ⟩
theorem abX:cS Tryz.prog dE 191 Q3:=d' u6 [] trivial func191 kL au.wK
def abY:cL:=⟨⟨[(0,.val eY)],[]⟩,⟨[(0,.al 60)],[(60,.bj t3)]⟩,[none],1,au.Jo⟩
theorem abZ:cS Tryz.prog dE 192 abY:=d' u6 [] trivial func192 kL au.arM
abbrev Q4:e6:=.kD (hH.kD H.oV.dw)
theorem ab0:e6.hB Tryz.prog dE 192 Q4:=yU (sh:=H.oV.sh) abZ (λx h=>⟨h,λbn gj=>by have h:bn=_:=gj;subst h;exact (A.gA).symm⟩)
def avB:cL:=⟨⟨[(0,.val t28)],[]⟩,⟨[(0,.al 60)],[(60,.bj x2)]⟩,[none],1,au.qJ⟩
theorem avC:cS Tryz.prog dE 193 avB:=d' u6 [] trivial func193 kL au.wK
abbrev Q5:e6:=.kD (hH.kD (au.fS nq).dw)
theorem ab1:e6.hB Tryz.prog dE 193 Q5:=yU (sh:=(au.fS nq).sh) avC (λx h=>⟨h,λbn gj=>by have h:bn=_:=gj;subst h;exact (A.gA).symm⟩)
def avD:cL:=⟨⟨[(0,.val Hw)],[]⟩,⟨[(0,.al 60)],[(60,.bj vK)]⟩,[none],1,au.qJ⟩
theorem avE:cS Tryz.prog dE 194 avD:=d' u6 [] trivial func194 kL au.wK
abbrev JR:e6:=.kD (hH.kD (au.fS mJ).dw)
theorem Q6:e6.hB Tryz.prog dE 194 JR:=yU (sh:=(au.fS mJ).sh) avE (λx h=>⟨h,λbn gj=>by have h:bn=_:=gj;subst h;exact (A.gA).symm⟩)
def avF:cL:=⟨⟨[(0,.val Aq)],[]⟩,⟨[(0,.al 60)],[(60,.bj ru)]⟩,[none],1,au.qJ⟩
theorem avG:cS Tryz.prog dE 195 avF:=d' u6 [] trivial func195 kL au.wK
abbrev Q7:e6:=.kD (hH.kD (au.fS pR).dw)
theorem ab2:e6.hB Tryz.prog dE 195 Q7:=yU (sh:=(au.fS pR).sh) avG (λx h=>⟨h,λbn gj=>by have h:bn=_:=gj;subst h;exact (A.gA).symm⟩)
def ab3:=pA u6 mC [(188,Q0),(189,Q1),(190,Q2),(191,.fb Q3),(192,Q4),(193,Q5),(194,JR),(195,Q7)] ⟨abU,abV,abW,abX,ab0,ab1,Q6,ab2,trivial⟩ func118 au.Jr ld au.arQ
def ab4:cL:=⟨⟨[(0,.val wU)],[]⟩,⟨[(0,.aX 17 0)],[(17,.f_ qu)]⟩,[none],1,au.uC⟩
theorem avH:cS Tryz.prog dE 57 ab4:=d' ab3 [] trivial func57 tq au.OL
def Fi:=mk ab3 func58 au.Jx aO au.ar3
def JS:cL:=⟨⟨[(0,.aX 100000 0),(1,.val n6),(2,.val eY)],[(100000,.f_ qu)]⟩,⟨[(0,.val t9)],[(100000,.f_ qu)]⟩,[none],3,au.Bz⟩
theorem Q8:cS Tryz.prog dE 196 JS:=d' Fi [] trivial func196 BM au.art
def Q9:cL:=la (au.fx 5 au.P9)
theorem avI:cS Tryz.prog dE 119 Q9:=d' Fi [(196,.fb JS)] ⟨Q8,trivial⟩ func119 aO au.aru
def avJ:cL:=la (au.fx 4 au.P_)
theorem avK:cS Tryz.prog dE 120 avJ:=d' Fi [(196,.fb JS)] ⟨Q8,trivial⟩ func120 aO au.arv
def avL:cL:=la (au.fx 1 au.P')
theorem avM:cS Tryz.prog dE 121 avL:=d' Fi [(196,.fb JS)] ⟨Q8,trivial⟩ func121 aO au.OM
def avN:=mk Fi func339 H.HW aO H.alk
def avO:=mk avN func280 H.HX (S L (S L (S L (S (S L (C (S bH ca) L)) (S bH (S bH (S bH ca))))))) H.alm
def avP:=mk avO func279 H.l7 aO H.aln
def avQ:=mk avP func211 Ix (S L (J [] [] (S L (B (au [(0,et),(1,v2),(7,v2),(8,v2)] [] cF))) ca)) aoC
def avR:=mk avQ func157 mH aO aoD
def Fj:=jQ avR [] func156 H.A0 1 aO H.OM
abbrev y0:=Au (ajm Fj) [(156,1)] []
def ab5:cL:=⟨⟨[(0,.val n6)],[]⟩,⟨[(0,.al 9),(1,.val t4)],[(9,.bj jc)]⟩,[none,none],1,H.H5⟩
theorem avS:cS Tryz.prog y0 154 ab5:=d' Fj [] trivial func154 abK H.alU
def ab6:cL:=⟨⟨[(0,.al 200001),(1,.val Nl)],[(200001,.bj jc)]⟩,⟨[(0,.sub 200001)],[(200001,.bj jc)]⟩,[none],2,H.H7⟩
theorem avT:cS Tryz.prog y0 155 ab6:=d' Fj [] trivial func155 (S L (S L (S bH (J [(0,.al 200001),(5,v2)] [(200001,wQ)] (S L (B (au [(0,.al 200001),(1,QR),(5,v2),(6,v2)] [(200001,wQ)] (S ax (J [(0,.al 200001),(1,QR),(5,v2),(6,v2)] [(200001,wQ)] (B me) L))))) aO)))) H.alW
def avU:=mk Fj func192 H.oV kL H.alj
def avV:=mk avU func291 H.Om (S L (J [(0,v228),(2,v2)] [] bH (J [(0,v228),(2,v2)] [] bH (J [(0,v228),(2,v2)] [] bH ca)))) H.alo
def BN:=mk avV func215 H.On (S L (S (C ca L) ca)) (H.alp (λ_=>A.fail))
def ab7:cL:=⟨⟨[(0,.al 200001),(1,.val t2),(2,.val t2),(3,.val DN)],[(200001,.bj qv)]⟩,⟨[],[(200001,.bj qv)]⟩,[],4,H.HZ⟩
theorem avW:cS Tryz.prog y0 375 ab7:=d' BN [] trivial func375 (S L (B (au [(0,.al 200001),(1,v2),(2,v2),(3,JO),(8,v2)] [(200001,gU)] (S ax (J [(0,.al 200001),(1,v2),(2,v2),(3,JO),(8,v2)] [(200001,gU)] (B (S L (B (au [(0,.al 200001),(1,v2),(2,v2),(3,JO),(8,v2),(9,v2)] [(200001,gU)] u5)))) L))))) H.alz
def ab8:cL:=⟨⟨[(0,.al 200001),(1,.val t2),(2,.val t2),(3,.val t2),(4,.val DN)],[(200001,.bj qv)]⟩,⟨[],[(200001,.bj qv)]⟩,[],5,H.H2⟩
theorem avX:cS Tryz.prog y0 338 ab8:=d' BN [(375,.fb ab7)] ⟨avW,trivial⟩ func338 (S L (S L (B (au [(0,.al 200001),(1,v2),(2,v2),(3,v2),(4,JO),(10,v4),(11,v4)] [(200001,gU)] (B (S L (S bH L))))))) H.alA
def ab9:cL:=⟨⟨[(0,.al 200001),(1,.val DN)],[(200001,.bj qv)]⟩,⟨[],[(200001,.bj qv)]⟩,[],2,H.AI⟩
theorem avY:cS Tryz.prog y0 278 ab9:=d' BN [(338,.fb ab8)] ⟨avX,trivial⟩ func278 ca H.alC
def ab_:cL:=⟨⟨[(0,.aX 100000 0),(1,.val eY)],[(100000,.cells rv [.val qt,.val n6,.val eY,.val qt,.val t2,.val t2,.val t2,.val t2,.val t2,.val t2,.val t2,.val n6,.al 100002]),(100002,.bj px)]⟩,⟨[(0,.val px),(1,.val t4)],[(100000,.cells rv [.val qt,.val n6,.val eY,.val qt,.val t2,.val t2,.val t2,.val t2,.val t2,.val t2,.val t2,.val n6,.al 100002]),(100002,.bj px)]⟩,[none,none],2,H.uC⟩
theorem avZ:cS Tryz.prog y0 212 ab_:=d' BN [(278,.fb ab9)] ⟨avY,trivial⟩ func212 (S L (J [(0,.aX 100000 0),(1,et),(6,.aX 17 0)] [(17,.cells DM [et,.al 30000,.al 30001,.al 30002,.al 30003,.al 30004,.al 30005,.al 30006,.al 30007,.al 30008,.al 30009]),(100000,.cells rv [nE,pZ,et,nE,v2,v2,v2,v2,v2,v2,v2,pZ,.al 100002]),(100002,Fe),(30000,gU),(30001,gU),(30002,gU),(30003,gU),(30004,gU),(30005,gU),(30006,gU),(30007,gU),(30008,gU),(30009,gU)] L (J [(6,.aX 17 0)] jA (S L (B (au [(1,et),(6,.aX 17 0),(21,pZ),(22,v2),(23,v2)] jA (S L (S ej (J [(1,et),(6,.aX 17 0),(21,pZ),(22,v2),(23,v2)] jA (B (S L (.split 8 4 10 L))) L)))))) (J [(6,.aX 17 0)] jA (S L (B (.nW (.num 57 0 (S L (S ej (J nu jA (B (S L (S L (S L (B (au [(6,.aX 17 0),(10,.al 30000),(56,.hG [30000,30001,30002,30003,30004,30005,30006,30007,30008,30009]),(57,v2),(62,.al 30000),(63,v2),(64,v2)] jA (S L (S ej (S (B (S L (S L (J [(6,.aX 17 0),(10,.al 30000),(11,v2),(12,.aX 12 0),(13,v2),(56,.hG [30000,30001,30002,30003,30004,30005,30006,30007,30008,30009]),(57,v2),(62,.al 30000),(63,v2),(64,v2)] tp ax bH)))) L))))))))) L)))) (.nW (.num 57 1 (S L (S ej (J nu jA (B (S L (S L (S L (B (au [(6,.aX 17 0),(10,.al 30001),(56,.hG [30000,30001,30002,30003,30004,30005,30006,30007,30008,30009]),(57,v2),(62,.al 30001),(63,v2),(64,v2)] jA (S L (S ej (S (B (S L (S L (J [(6,.aX 17 0),(10,.al 30001),(11,v2),(12,.aX 12 0),(13,v2),(56,.hG [30000,30001,30002,30003,30004,30005,30006,30007,30008,30009]),(57,v2),(62,.al 30001),(63,v2),(64,v2)] tp ax bH)))) L))))))))) L)))) (.nW (.num 57 2 (S L (S ej (J nu jA (B (S L (S L (S L (B (au [(6,.aX 17 0),(10,.al 30002),(56,.hG [30000,30001,30002,30003,30004,30005,30006,30007,30008,30009]),(57,v2),(62,.al 30002),(63,v2),(64,v2)] jA (S L (S ej (S (B (S L (S L (J [(6,.aX 17 0),(10,.al 30002),(11,v2),(12,.aX 12 0),(13,v2),(56,.hG [30000,30001,30002,30003,30004,30005,30006,30007,30008,30009]),(57,v2),(62,.al 30002),(63,v2),(64,v2)] tp ax bH)))) L))))))))) L)))) (.nW (.num 57 3 (S L (S ej (J nu jA (B (S L (S L (S L (B (au [(6,.aX 17 0),(10,.al 30003),(56,.hG [30000,30001,30002,30003,30004,30005,30006,30007,30008,30009]),(57,v2),(62,.al 30003),(63,v2),(64,v2)] jA (S L (S ej (S (B (S L (S L (J [(6,.aX 17 0),(10,.al 30003),(11,v2),(12,.aX 12 0),(13,v2),(56,.hG [30000,30001,30002,30003,30004,30005,30006,30007,30008,30009]),(57,v2),(62,.al 30003),(63,v2),(64,v2)] tp ax bH)))) L))))))))) L)))) (.nW (.num 57 4 (S L (S ej (J nu jA (B (S L (S L (S L (B (au [(6,.aX 17 0),(10,.al 30004),(56,.hG [30000,30001,30002,30003,30004,30005,30006,30007,30008,30009]),(57,v2),(62,.al 30004),(63,v2),(64,v2)] jA (S L (S ej (S (B (S L (S L (J [(6,.aX 17 0),(10,.al 30004),(11,v2),(12,.aX 12 0),(13,v2),(56,.hG [30000,30001,30002,30003,30004,30005,30006,30007,30008,30009]),(57,v2),(62,.al 30004),(63,v2),(64,v2)] tp ax bH)))) L))))))))) L)))) (.nW (.num 57 5 (S L (S ej (J nu jA (B (S L (S L (S L (B (au [(6,.aX 17 0),(10,.al 30005),(56,.hG [30000,30001,30002,30003,30004,30005,30006,30007,30008,30009]),(57,v2),(62,.al 30005),(63,v2),(64,v2)] jA (S L (S ej (S (B (S L (S L (J [(6,.aX 17 0),(10,.al 30005),(11,v2),(12,.aX 12 0),(13,v2),(56,.hG [30000,30001,30002,30003,30004,30005,30006,30007,30008,30009]),(57,v2),(62,.al 30005),(63,v2),(64,v2)] tp ax bH)))) L))))))))) L)))) (.nW (.num 57 6 (S L (S ej (J nu jA (B (S L (S L (S L (B (au [(6,.aX 17 0),(10,.al 30006),(56,.hG [30000,30001,30002,30003,30004,30005,30006,30007,30008,30009]),(57,v2),(62,.al 30006),(63,v2),(64,v2)] jA (S L (S ej (S (B (S L (S L (J [(6,.aX 17 0),(10,.al 30006),(11,v2),(12,.aX 12 0),(13,v2),(56,.hG [30000,30001,30002,30003,30004,30005,30006,30007,30008,30009]),(57,v2),(62,.al 30006),(63,v2),(64,v2)] tp ax bH)))) L))))))))) L)))) (.nW (.num 57 7 (S L (S ej (J nu jA (B (S L (S L (S L (B (au [(6,.aX 17 0),(10,.al 30007),(56,.hG [30000,30001,30002,30003,30004,30005,30006,30007,30008,30009]),(57,v2),(62,.al 30007),(63,v2),(64,v2)] jA (S L (S ej (S (B (S L (S L (J [(6,.aX 17 0),(10,.al 30007),(11,v2),(12,.aX 12 0),(13,v2),(56,.hG [30000,30001,30002,30003,30004,30005,30006,30007,30008,30009]),(57,v2),(62,.al 30007),(63,v2),(64,v2)] tp ax bH)))) L))))))))) L)))) (.nW (.num 57 8 (S L (S ej (J nu jA (B (S L (S L (S L (B (au [(6,.aX 17 0),(10,.al 30008),(56,.hG [30000,30001,30002,30003,30004,30005,30006,30007,30008,30009]),(57,v2),(62,.al 30008),(63,v2),(64,v2)] jA (S L (S ej (S (B (S L (S L (J [(6,.aX 17 0),(10,.al 30008),(11,v2),(12,.aX 12 0),(13,v2),(56,.hG [30000,30001,30002,30003,30004,30005,30006,30007,30008,30009]),(57,v2),(62,.al 30008),(63,v2),(64,v2)] tp ax bH)))) L))))))))) L)))) (.nW (.num 57 9 (S L (S ej (J nu jA (B (S L (S L (S L (B (au [(6,.aX 17 0),(10,.al 30009),(56,.hG [30000,30001,30002,30003,30004,30005,30006,30007,30008,30009]),(57,v2),(62,.al 30009),(63,v2),(64,v2)] jA (S L (S ej (S (B (S L (S L (J [(6,.aX 17 0),(10,.al 30009),(11,v2),(12,.aX 12 0),(13,v2),(56,.hG [30000,30001,30002,30003,30004,30005,30006,30007,30008,30009]),(57,v2),(62,.al 30009),(63,v2),(64,v2)] tp ax bH)))) L))))))))) L)))) (.nW (.num 57 10 (S L (S ej L))) L))))))))))))) ca)))) H.OL
def Q_(f:Nat):cL:=⟨⟨[(0,.aX 100000 0),(1,.val eY)],[(100000,.cells rv [.val qt,.val n6,.val eY,.val qt,.val t2,.val t2,.val t2,.val t2,.val t2,.val t2,.val t2,.val n6,.al 100002]),(100002,.bj px)]⟩,⟨[],[(100000,.cells rv [.val qt,.val n6,.val eY,.val qt,.val t2,.val t2,.val t2,.val t2,.val t2,.val t2,.val t2,.val n6,.al 100002]),(100002,.bj px)]⟩,[],2,H.yj f⟩
theorem ab':∀f,cS Tryz.prog y0 158 (Q_ f)
 |0=>Nr func158 H.amt
 |f+1=>d' BN [(158,.fb (Q_ f)),(212,.fb ab_)] ⟨ab' f,avZ,trivial⟩ func158 (S L (S (S L (C (J [] abI (S L ax) L) L)) (S L (B (au [(0,.aX 100000 0),(1,et),(4,v2),(7,v2)] abI u5))))) (H.amw f)
def av0:=pA BN (Fj.u [(156,1)] [] trivial) [(154,.fb ab5),(155,.fb ab6),(158,.fb (Q_ 5))] ⟨avS,avT,ab' 5,trivial⟩ func74 H.wb (S L (S me (S L (S L (S L (J [(7,.aX 15 0)] [(15,.cells rv [nE,pZ,et,nE,v2,v2,v2,v2,v2,v2,v2,.sub 50200,.al 30000]),(50200,wQ),(30000,Fe)] bH kL)))))) H.amA
def av1:=mk av0 func77 H.A1 (S L (J [(4,.aX 4 0),(5,v4)] [(4,QL)] (S L (B (au abz [(4,QL)] (S L (S ej (J abz [(4,QL)] (B (S L (S L (B (S L (C L ax)))))) L)))))) ca)) H.amB
def av2:=jQ av1 [] func152 H.A6 1 aO H.amV
def av3:=jQ av2 [(152,1)] func150 H.OW 1 aO H.amW (hc:=λx h=>by obtain⟨_,f,aq,_⟩:=h;exact sJ ⟨trivial,ry aq⟩)
def Q':=mk av3 func89 H.v_ (S L (S L (J [(7,v2)] [] (S L (B (au [(1,v2),(2,v2),(7,v2),(14,nE),(15,v2),(16,v2)] [] ee))) ca))) H.al5
def aca:cL:=⟨⟨[(0,.hf),(1,.dW px),(2,.dW vL),(1000000,.aW (.az jc t2))],[]⟩,⟨[(1000000,.aW (.az jc t2))],[]⟩,[],3,(H.HP H.v_.sh)⟩
theorem av4:cS Tryz.prog dE 159 aca:=d' (S:=(H.HP H.v_.sh)) Q' [] trivial func159 (S L (B (au abr [] (S L (S ej (J abr [] (B (S L (S L (B (au [(0,.hf),(2,.dW vL),(5,abd),(6,v2),(10,abe),(11,v2),(1000000,.aW (.az jc t2))] [] (S ax (S (B ax) L))))))) L)))))) (λx=>A.le_refl _)
theorem av5:w1 Tryz.prog 159 ⟨[px,vL],(.az jc t2),H.s7⟩:=M_ (c:=aca) av4 mC (λx l L=>(l,x.1.getD none,x.2.getD none,(l,L,[],false),())) rfl (by decide) (by simp[gn])
 (λx l L i ah=>by
  obtain⟨T,aV⟩:=ah;obtain⟨t,b,E,U,ao,_⟩:=aV;obtain⟨xc,xb⟩:=x;change xc=some (some t) at E;change xb=some (some b) at U;subst E;subst U;by_cases aY:i=0
  ·subst aY;exact .inr (.inr (.inl ⟨rfl,rfl⟩))
  ·by_cases E:i=1
   ·subst E;exact .inr (.inl ⟨by decide,by decide,_,_,rfl,rfl⟩)
   by_cases ag:i=2
   ·subst ag;exact .inr (.inl ⟨by decide,by decide,_,_,rfl,rfl⟩)
   by_cases U:i=b6
   ·subst U;exact .inr (.inr (.inr ⟨rfl,rfl⟩))
   ·refine .inl ?_;exact (if_neg aY).trans ((if_neg E).trans ((if_neg ag).trans (if_neg U))))
 rfl (λbn=>⟨_,_,_,_,rfl⟩) (λx l ah=>by
  obtain⟨T,aV⟩:=ah;obtain⟨t,b,E,U,ao,_⟩:=aV;obtain⟨xc,xb⟩:=x;change xc=some (some t) at E;change xb=some (some b) at U;subst E;subst U;have h:=H.amG l t b ao;refine⟨h.1,λbn gj dI e7 p fm=>?_⟩;have e:aH.aW bn.1.1 (.az jc t2) bn.1.2.1 bn.1.2.2.1 bn.1.2.2.2=.aW dI (.az jc t2) e7 p false:=fm;injection e with ax aO cF ee dZ
  rw[<-ee];exact h.2 bn gj dZ)
def av6:=pA Q' (Q'.u [] [(159,⟨[px,vL],(.az jc t2),H.s7⟩)] ⟨av5,trivial⟩) [] trivial func79 H.A2 aO H.amK
def av7:=jQ av6 [] func153 H.OX 1 (S L (S (S L (B (ch [(2,.dW t2),(3,.dW Ng),(5,.aX 5 0),(6,.aX 6 0)] [(5,.cells t2 [v2]),(6,.cells t4 [v4])] [(2,.dW t2),(3,.dW Ng),(5,.aX 100005 0),(6,.aX 100006 0),(12,aba),(13,v2)] [(100005,.cells t2 [v2]),(100006,.cells t4 [v4])] [] [(100005,.cells t2 [v2]),(100006,.cells t4 [v4])] ca (B bH)))) ca)) H.amX (hc:=λx h=>by obtain⟨_,_,_,_,rfl,_⟩:=h;exact sJ ⟨⟨⟨trivial,rfl⟩,rfl⟩,rfl⟩)
def av8:=l4 av7 [(150,1),(153,1)] func70 H.A7 (S L (S L (S bH kL))) H.amY
def av9:=mk av8 func71 H.yl aO H.amZ
def av_:=l4 av9 [] func34 H.Ie aO H.am0
def awa:=mk av_ func199 au.yO (S L (S bH (S L (J [(3,.al 3)] [(3,a9)] (S L (B (au [(3,.al 3),(9,et),(10,v2),(11,v2)] [(3,a9)] ee))) ca)))) au.arp
def awb:=mk awa func198 au.qI abO au.arq
def acb:=mk awb func197 au.yP aO au.ars
def awc:cL:=la (au.fx 1 au.Qa)
theorem awd:cS Tryz.prog dE 122 awc:=d' acb [] trivial func122 aO au.arw
def awe:=mk acb func73 H.v' kL H.al7
def awf:=jQ awe [] func72 H.ym 1 aO H.am1
def acd:=l4 awf [(72,1)] func35 H.AZ aO H.am3
def awg:cL:=la (au.fx 1 au.Qb)
theorem awh:cS Tryz.prog dE 123 awg:=d' acd [] trivial func123 aO au.arx
def awi:=jQ acd [] func75 H.OY 1 aO H.am4
def awj:=jQ awi [] func78 H.OZ 1 (S L (S L (S (S L (B (ch [(2,.dW t2),(3,.dW tr),(7,.aX 7 0)] [(7,.cells t2 [v2])] [(2,.dW t2),(3,.dW tr),(7,.aX 100007 0),(13,aba),(14,v2)] [(100007,.cells t2 [v2])] [] [(100007,.cells t2 [v2])] ca (B ax)))) ca))) H.am5 (hc:=λx h=>by obtain⟨_,_,_,_,rfl,_⟩:=h;exact sJ ⟨⟨⟨trivial,rfl⟩,rfl⟩,rfl⟩)
def ace:=l4 awj [(75,1),(78,1)] func36 H.Ig BM H.am8
def awk:cL:=la (au.fx 1 au.Qc)
theorem awl:cS Tryz.prog dE 124 awk:=d' ace [] trivial func124 aO au.ary
def awm:=mk ace func81 H.yd aO H.ak_
def awn:=jQ awm [] func80 H.A8 1 aO H.Yd
def awo:=mk awn func83 H.yn (S L (S L (S L (J [(6,.aX 6 0),(8,.aX 8 0),(9,v4)] [(6,yW),(8,yW)] (S L (B (au abt [(6,yW),(8,yW)] (S L (S ej (J abt [(6,yW),(8,yW)] yZ L)))))) ca)))) H.am_
def awp:=jQ awo [] func82 H.O3 1 (S L (S L (J [(6,v2)] [] (S L (B (au [(0,abc),(1,.dW t2),(2,.dW tr),(6,v2),(10,v2)] [] (S L (S ej (J [(0,abc),(1,.dW t2),(2,.dW tr),(6,v2),(10,v2)] [] yY L)))))) ca))) H.anb (hc:=λx h=>by obtain⟨_,_,_,rfl,_⟩:=h;exact sJ ⟨⟨trivial,rfl⟩,rfl⟩)
def acf:=l4 awp [(80,1),(82,1)] func37 H.Ii BM H.ane
def awq:cL:=la (au.fx 1 au.Qd)
theorem awr:cS Tryz.prog dE 125 awq:=d' acf [] trivial func125 aO au.arz
def Ra:=jQ acf [] func84 H.O6 1 aO H.ani (hc:=λx h=>by obtain⟨a,b,aq⟩:=h;exact sJ ⟨⟨trivial,ry (congrArg (λo=>o.1) aq)⟩,ry (congrArg (λo=>o.2) aq)⟩)
def acg:cL:=⟨⟨[(0,.hf),(1,.dW Hx),(1000000,.aW t2)],[]⟩,⟨[(1000000,.aW t2)],[]⟩,[],2,H.Of⟩
theorem aws:cS Tryz.prog dE 162 acg:=d' (S:=H.Of) Ra [] trivial func162 (S L (B (au [(0,.hf),(5,.j3 5),(1000000,.aW t2)] [(5,.ct t2 t2)] (S L (S ej yZ))))) (λx=>A.le_refl _)
theorem awt:w1 Tryz.prog 162 ⟨[Hx],t2,H.jS⟩:=M_ (c:=acg) aws mC (λx l L=>(l,x.getD [],(l,L,[],false),())) rfl (by decide) (by simp[gn])
 (λx l L i ah=>by
  obtain⟨T,aV⟩:=ah;obtain⟨m,hm,_⟩:=aV;subst hm;by_cases aY:i=0
  ·subst aY;exact .inr (.inr (.inl ⟨rfl,rfl⟩))
  ·by_cases E:i=1
   ·subst E;exact .inr (.inl ⟨by decide,by decide,_,_,rfl,rfl⟩)
   by_cases U:i=b6
   ·subst U;exact .inr (.inr (.inr ⟨rfl,rfl⟩))
   ·refine .inl ?_;exact (if_neg aY).trans ((if_neg E).trans (if_neg U)))
 rfl (λbn=>⟨_,_,_,_,rfl⟩) (λx l ah=>by
  obtain⟨T,aV⟩:=ah;obtain⟨m,hm,_⟩:=aV;subst hm;have h:=H.amC l m;refine⟨h.1,λbn gj dI e7 p fm=>?_⟩;have e:aH.aW bn.1.1 t2 bn.1.2.1 bn.1.2.2.1 bn.1.2.2.2=.aW dI t2 e7 p false:=fm;injection e with ax aO cF ee dZ
  rw[<-ee];exact h.2 bn gj dZ)
def awu:=pA Ra (Ra.u [] [(162,⟨[Hx],t2,H.jS⟩)] ⟨awt,trivial⟩) [] trivial func87 H.H3 aO H.alH
def ach:=l4 awu [(84,1)] func38 H.Ij (S L (S L (S bH (S L (J [(10,.fJ 24)] [(24,.mp t2 t2)] (S L (B (au abu [(4,.gK t2),(5,.gK t2),(24,.mp t2 t2)] (S L (S ej (J abu [(4,.gK t2),(5,.gK t2),(24,.mp t2 t2)] yY L)))))) ca))))) H.anj
def awv:cL:=la (au.fx 2 au.Qf)
theorem aww:cS Tryz.prog dE 126 awv:=d' ach [] trivial func126 (S L (S L (S bH (S bH ca)))) au.arC
def awx:=jQ ach [] func88 H.A8 1 aO H.ana
def aci:=l4 awx [(88,1)] func39 H.Ik (S L (S L (S bH (J [(4,.al 4),(5,.al 5)] [(4,a2),(5,a2)] (S L (B (au abv BL (S L (S ej (J abv BL (B (S L (S L (J abp BL (S L (B (au abl BL (S L (S ej (J abl BL yY L)))))) (J abp BL ax ax))))) L)))))) ca)))) H.anp
def awy:cL:=la (au.fx 1 au.Qh)
theorem awz:cS Tryz.prog dE 127 awy:=d' aci [] trivial func127 (S L kL) au.arE
def awA:=mk aci func143 ta tq aoO
def awB:=jQ awA [] func142 yu 1 aO aoP (hc:=λx h=>by obtain⟨i,w,n,aq,_⟩:=h;exact sJ ⟨⟨⟨trivial,ry (congrArg (λo=>o.1) aq)⟩,ry (congrArg (λo=>o.2.1) aq)⟩,ry (congrArg (λo=>o.2.2) aq)⟩)
def awC:=l4 awB [(142,1)] func63 Bh (S L (S me (S bH (S L (J [(7,.aX 22 0)] [(22,.cells x3 [v22,pX,v2,qM,.al 61]),(61,Fb)] (S L (B (au [(2,.aX 2 0),(7,.aX 22 0),(24,v22),(25,v2),(26,v2)] abJ (S L (S ej (J [(2,.aX 2 0),(7,.aX 22 0),(24,v22),(25,v2),(26,v2)] abJ (B (S L (S L (J [(2,.aX 2 0),(7,.aX 22 0),(10,.al 10),(24,v22),(25,v2),(26,v2)] [(2,.gK n5),(10,a2),(22,.cells x3 [v22,pX,v2,qM,.al 61]),(61,Fb)] (S L (B (au abk [(2,.gK n5),(8,.gK t2),(9,abg),(10,a2),(11,.cells t2 [v2]),(22,.cells x3 [v22,pX,v2,qM,.al 61]),(61,Fb)] (S ax (J abk [(2,.gK n5),(8,.gK t2),(9,abg),(10,a2),(11,.gK t2),(22,.cells x3 [v22,pX,v2,qM,.al 61]),(61,Fb)] yZ (S ca L)))))) (S bH L))))) L)))))) ca))))) aoS
def D3:=mk awC func24 tb BM ao0
def BO:cL:=⟨⟨[(0,.val mf)],[]⟩,⟨[(0,.val t22),(1,.val DK),(2,.val t2),(3,.al 28),(4,.al 11),(5,.al 16),(6,.al 20),(7,.al 24),(8,.val t2)],[(28,.bj tt),(11,.bj t2),(16,.bj x2),(20,.bj vK),(24,.bj ru)]⟩,[some 9],1,au.wL⟩
theorem Fk:cS Tryz.prog dE 118 BO:=d' D3 [(188,Q0),(189,Q1),(190,Q2),(191,.fb Q3),(192,Q4),(193,Q5),(194,JR),(195,Q7)] ⟨abU,abV,abW,abX,ab0,ab1,Q6,ab2,trivial⟩ func118 ld au.arP
def awD:cL:=la (au.fx 4 au.uY)
theorem awE:cS Tryz.prog dE 128 awD:=d' D3 [(118,.fb BO)] ⟨Fk,trivial⟩ func128 (S L (S L (S L (S L (S bH (S me aO)))))) au.arT
def awF:=mk D3 func146 Iv abO aoT
def awG:=mk awF func66 IC (S L (S L (J [(0,aa'),(1,v2),(9,v2)] [] (S L (B (au abw [] (S L (S ej (J abw [] yZ L)))))) ca))) aoY
def rC:=mk awG func23 uN (S L kL) ao2
def awH:cL:=la (au.fx 3 au.Qi)
theorem awI:cS Tryz.prog dE 129 awH:=d' rC [] trivial func129 (S L kL) au.arG
def Fl:cL:=⟨⟨[(0,.aX 100000 0),(1,.val mf)],[(100000,.f_ qu)]⟩,⟨[(0,.val t9)],[(100000,.f_ qu)]⟩,[none],2,au.wM⟩
theorem JT:cS Tryz.prog dE 200 Fl:=d' rC [] trivial func200 (S L (S bH aO)) au.arR
def awJ:cL:=la (au.fx 2 au.yK)
theorem awK:cS Tryz.prog dE 130 awJ:=d' rC [(118,.fb BO),(200,.fb Fl)] ⟨Fk,JT,trivial⟩ func130 BM au.arU
def awL:cL:=la (au.fx 3 au.Qj)
theorem awM:cS Tryz.prog dE 131 awL:=d' rC [(118,.fb BO),(200,.fb Fl)] ⟨Fk,JT,trivial⟩ func131 qP au.arV
def awN:cL:=la (au.fx 4 au.Qk)
theorem awO:cS Tryz.prog dE 132 awN:=d' rC [(118,.fb BO),(200,.fb Fl)] ⟨Fk,JT,trivial⟩ func132 qP au.arW
def awP:cL:=la (au.fx 5 au.Ql)
theorem awQ:cS Tryz.prog dE 133 awP:=d' rC [(118,.fb BO),(200,.fb Fl)] ⟨Fk,JT,trivial⟩ func133 qP au.arX
def acj:cL:=⟨⟨[(0,.al 200001),(1,.val t3),(2,.val t3)],[(200001,.bj vK)]⟩,⟨[(0,.sub 200001)],[(200001,.bj vK)]⟩,[none],3,(au.Jp au.Jt)⟩
theorem awR:cS Tryz.prog dE 201 acj:=d' rC [] trivial func201 (S L (S L (S bH qP))) (au.arN au.Jt)
def awS:cL:=la (au.fx 1 au.yL)
theorem awT:cS Tryz.prog dE 134 awS:=d' rC [(194,JR),(201,.fb acj)] ⟨Q6,awR,trivial⟩ func134 (S L (S bH (S .GA ca))) au.arY
def awU:=mk rC func217 tc (S L (S L (S L (S L (S L (S L (S L (S L qP)))))))) apu
def awV:=mk awU func165 tc (S L (S (C aO L) aO)) (apw (λ_=>A.fail))
def awW:=mk awV func163 IN (S L (J [(0,nE),(1,v2)] [] ax (S L (J [(0,nE),(6,v228)] [] ax (S L (S L (J [(7,.al 30)] [(30,JN)] (B (au [(7,.al 30),(8,v2)] [(30,JN)] (S ax (B L)))) ca))))))) apE
def awX:=mk awW func90 Bm (S L (S me (S bH (S L (J [(2,.aX 2 0),(7,.aX 30 0)] wR (S L (C me L)) (J [(2,.aX 2 0),(7,.aX 30 0)] wR (S L (B (au [(2,.aX 2 0),(7,.aX 30 0),(46,v2),(47,v2)] wR (S L (S ej (J [(2,.aX 2 0),(7,.aX 30 0),(46,v2),(47,v2)] wR (B (S L (S L (B (au abq wR (S L (S ej (J abq wR (B (S L (S L (B (au abm wR (S L (S ej (J abm wR yY L)))))))) L)))))))) L)))))) (J [(2,.aX 2 0),(7,.aX 30 0)] abG (S L (B (au [(2,.aX 2 0),(7,.aX 30 0),(92,et),(93,v2),(94,v2)] abG ee))) (J [(7,.aX 30 0)] abH (S L (B (au [(7,.aX 30 0),(114,pY),(115,v2),(116,v2)] abH ee))) ca)))))))) apS
def ack:=mk awX func91 Py aO apH
def acm:cL:=⟨⟨[(0,.val eY),(1,.val t3)],[]⟩,⟨[(0,.al 30)],[(30,.bj t3)]⟩,[none],2,wu⟩
theorem awY:cS Tryz.prog dE 92 acm:=d' ack [] trivial func92 tG ZB
def awZ:=mk ack func168 wv (S L (S (B (S L (C ca (S L (C ca bH))))) ca)) apJ
def acn:=mk awZ func96 IX (S L (S L (J [(6,.al 6)] [(6,wP)] (S L (B (au [(0,kK),(6,.al 6),(14,et),(15,v2),(16,v2)] [(6,wP)] (S L (S ej (J [(0,kK),(6,.al 6),(14,et),(15,v2),(16,v2)] [(6,wP)] (B (S L (S ax (S L (S L (J [(0,kK),(6,.al 6),(10,.aX 10 0),(11,v2),(14,et),(15,v2),(16,v2)] [(6,wP),(10,aa_)] (S L (B (S L (C ca ax)))) (S bH (S L (B (au [(0,kK),(6,.al 6),(10,.aX 10 0),(11,v2),(14,et),(15,v2),(16,v2),(58,et),(59,v2),(60,v2)] [(6,wP),(10,aa_)] ee)))))))))) L)))))) ca))) ap4
def aco:cL:=⟨⟨[(0,.val eY),(1,.val t2)],[]⟩,⟨[(0,.al 30)],[(30,.bj t2)]⟩,[none],2,wu⟩
theorem aw0:cS Tryz.prog dE 92 aco:=d' acn [] trivial func92 tG ZB
def acp:=mk acn func169 Br aO aqd
def Rb(f:Nat):cL:=⟨⟨[(0,.val oO),(1,.al 200001),(2,.val Aq),(3,.val t2),(4,.fJ 100002)],[(100002,.mp t2 t2),(200001,.bj t2)]⟩,⟨[(0,.val t4)],[(100002,.mp t2 t2),(200001,.bj t2)]⟩,[none],5,uU f⟩
theorem acq:∀f,cS Tryz.prog dE 170 (Rb f)
 |0=>Nr func170 aqm
 |f+1=>d' acp [(170,.fb (Rb f))] ⟨acq f,trivial⟩ func170 (S L (J [] QW (S L (B (au abo QW (S L (S ej (J abo QW (B (S L (S ax (S L (S L (C aO L)))))) L)))))) ca)) (aql f)
def aw1:=pA acp mC [(92,.fb aco),(170,.fb (Rb 201))] ⟨aw0,acq 201,trivial⟩ func98 I1 (S L (S L (S L (J [(6,v2)] [] (S L (B (au abA [(50140,a2)] (S L (S ej (J abA [(50140,a2)] yZ L)))))) ca)))) aqo
def aw2:=mk aw1 func93 wD tq aqp
def acr:=pA aw2 mC [(92,.fb acm)] ⟨awY,trivial⟩ func40 I8 (S L (S L (S bH (S L (S L (J [(8,.al 8)] [(8,a2)] (S L (B (au abx [(8,a2),(50260,a2)] (S L (S ej (J abx [(8,a2),(50260,a2)] yY L)))))) ca)))))) aqL
def aw3:cL:=la (au.fx 1 au.Qm)
theorem aw4:cS Tryz.prog dE 135 aw3:=d' acr [] trivial func135 tq au.arI
def aw5:=mk acr func181 Pz aO apI
def aw6:=mk aw5 func108 IP (S L (J [(1,et),(2,.aX 2 0)] [(2,wO)] (S L (B (au [(1,et),(2,.aX 2 0),(7,et),(8,v2),(9,v2)] [(2,wO)] cF))) ca)) apK
def aw7:=mk aw6 func109 tf (S L (J [(4,v2)] [] (S L (B (au [(0,kK),(4,v2),(7,et),(8,v2),(9,v2)] [] (S L (S ej (J [(0,kK),(4,v2),(7,et),(8,v2),(9,v2)] [] yZ L)))))) ca)) ap6
def acs:=mk aw7 func49 I9 (S L (S L (S bH (S bH ca)))) aqN
def aw8:cL:=la (au.fx 0 au.Qn)
theorem aw9:cS Tryz.prog dE 136 aw8:=d' acs [(192,.fb abY)] ⟨abZ,trivial⟩ func136 (S L (S L (J [(0,.aX 100000 0),(5,.al 50100)] [(50100,a2),(100000,Fc)] (S L (B (au [(0,.aX 100000 0),(5,.al 50100),(12,v2),(13,v2)] [(50100,a2),(100000,Fc)] ee))) aO))) au.arJ
def Rc:=mk acs func92 IL tG apD
def JU(f:Nat):cL:=⟨⟨[(0,.val oO),(1,.val eY),(2,.val t2),(3,.hf),(1000000,.aW eY)],[]⟩,⟨[(0,.val t4),(1000000,.aW eY)],[]⟩,[none],4,rS f⟩
theorem Re:∀f,cS Tryz.prog dE 167 (JU f)
 |0=>Nr func167 aqz
 |f+1=>d' Rc [(167,.fb (JU f))] ⟨Re f,trivial⟩ func167 (S L (S L (S bH (J [(0,kK),(1,et),(2,v2),(3,.hf),(9,v2),(1000000,.aW eY)] [] (S L (B (au abn [] (S L (S ej (J abn [] (B (S L (S ax bH))) L)))))) ca)))) (aqy f)
def acu:cL:=⟨⟨[(0,.val oO),(1,.hf),(1000000,.aW eY)],[]⟩,⟨[(1000000,.aW eY)],[]⟩,[],2,(HL (rS 10))⟩
theorem aw_:cS Tryz.prog dE 218 acu:=d' (S:=(HL (rS 10))) Rc [(167,.fb (JU 10))] ⟨Re 10,trivial⟩ func218 L (λx=>A.le_refl _)
def JV:zO:=⟨oO,eY,yF,I3⟩
theorem aw':Da Tryz.prog 218 JV:=UO (c:=acu) aw_ mC (ic:=JV) (λx l L=>(x,l,(l,L,[],false),())) rfl (by decide) (by simp[JV])
 (λx l L i=>by
  by_cases aY:i=0
  ·subst aY;exact .inr (.inl ⟨by decide,rfl⟩)
  ·by_cases E:i=1
   ·subst E;exact .inr (.inr (.inl ⟨rfl,rfl⟩))
   ·by_cases U:i=b6
    ·subst U;exact .inr (.inr (.inr ⟨rfl,rfl⟩))
    ·refine .inl ?_;exact (if_neg aY).trans ((if_neg E).trans (if_neg U)))
 rfl (λbn=>⟨_,_,_,_,rfl⟩) (λx l ao=>by
  obtain⟨s,aE,ae⟩:=ao;subst aE;have h:=aqA s ae l;refine⟨h.1,λbn gj dI e7 n fm=>?_⟩;have e:aH.aW bn.1.1 eY bn.1.2.1 bn.1.2.2.1 bn.1.2.2.2=.aW dI eY e7 n false:=fm;injection e with ax aO cF ee dZ
  exact ee.symm.trans ((h.2 bn gj).2.2 dZ))
def axa:=pA Rc mC [(218,.ct JV)] ⟨aw',trivial⟩ func166 P2 (S L (S L (S (S L (B (ch [(1,.aX 1 0),(3,.aX 3 0)] [(1,.cells oO [kK]),(3,.cells eY [et])] [(1,.aX 100001 0),(3,.aX 100003 0),(15,et)] [(100001,.cells oO [kK]),(100003,.cells eY [et])] [] [(100001,.cells oO [kK]),(100003,.cells eY [et])] L (B ax)))) ca))) aqG
def axb:=mk axa func94 P4 (S L kL) aqH
def Rf:=mk axb func41 I6 aO aqI
def axc:cL:=la (au.fx 0 au.Qo)
theorem axd:cS Tryz.prog dE 137 axc:=d' Rf [] trivial func137 tq au.arK
def acv:cL:=⟨⟨[(0,.val oO),(1,.hf),(1000000,.aW eY)],[]⟩,⟨[(1000000,.aW eY)],[]⟩,[],2,(HM (rS 10))⟩
theorem axe:cS Tryz.prog dE 95 acv:=d' (S:=(HM (rS 10))) Rf [(167,.fb (JU 10))] ⟨Re 10,trivial⟩ func95 L (λx=>A.le_refl _)
def JW:zO:=⟨oO,eY,yF,PY⟩
theorem axf:Da Tryz.prog 95 JW:=UO (c:=acv) axe mC (ic:=JW) (λx l L=>(x,l,(l,L,[],false),())) rfl (by decide) (by simp[JW])
 (λx l L i=>by
  by_cases aY:i=0
  ·subst aY;exact .inr (.inl ⟨by decide,rfl⟩)
  ·by_cases E:i=1
   ·subst E;exact .inr (.inr (.inl ⟨rfl,rfl⟩))
   ·by_cases U:i=b6
    ·subst U;exact .inr (.inr (.inr ⟨rfl,rfl⟩))
    ·refine .inl ?_;exact (if_neg aY).trans ((if_neg E).trans (if_neg U)))
 rfl (λbn=>⟨_,_,_,_,rfl⟩) (λx l ao=>by
  obtain⟨s,aE,ae⟩:=ao;subst aE;have h:=aqB s ae l;refine⟨h.1,λbn gj dI e7 n fm=>?_⟩;have e:aH.aW bn.1.1 eY bn.1.2.1 bn.1.2.2.1 bn.1.2.2.2=.aW dI eY e7 n false:=fm;injection e with ax aO cF ee dZ
  exact ee.symm.trans ((h.2 bn gj).2.2 dZ))
def axg:=mk Rf func97 PS (S L (J [] [] (S L (B (au [(0,kK),(9,pY),(10,v2),(11,v2)] [] (S L (S ej (J [(0,kK),(9,pY),(10,v2),(11,v2)] [] (B (S L (S L (J [(0,kK),(7,v4),(9,pY),(10,v2),(11,v2)] [] (S L (B (au [(0,kK),(6,.aX 6 0),(7,v4),(9,pY),(10,v2),(11,v2),(20,v2),(21,v2)] [(6,atF)] ee))) bH)))) L)))))) ca)) aqf
def Rg:=pA axg mC [(95,.ct JW)] ⟨axf,trivial⟩ func42 Bu (S L (S L (S bH (S L (S (S L (B (ch [(4,.aX 4 0),(6,.aX 6 0)] [(4,.cells oO [kK]),(6,.cells t2 [v2])] [(4,.aX 100004 0),(6,.aX 100006 0),(21,et)] [(100004,.cells oO [kK]),(100006,.cells t2 [v2])] [] [(100004,.cells oO [kK]),(100006,.cells t2 [v2])] L (B (S L (S ax (S L ax))))))) (S bH ca)))))) aqJ
def axh:cL:=la (au.fx 0 au.Qp)
theorem axi:cS Tryz.prog dE 138 axh:=d' Rg [] trivial func138 tq au.arL
theorem axj:∀ k∈[119,120,121,122,123,124,125,126,127,128,129,130,131,132,133,134,135,136,137,138],cS Tryz.prog dE k {Q9 with sh:=au.E3 k}:=E8.mem (l:=[119,120,121,122,123,124,125,126,127,128,129,130,131,132,133,134,135,136,137,138]) ⟨avI,avK,avM,awd,awh,awl,awr,aww,awz,awE,awI,awK,awM,awO,awQ,awT,aw4,aw9,axd,axi,trivial⟩
def acw:cL:=⟨⟨[(0,.aX 100000 0),(1,.val Nf),(2,.val t9)],[(100000,.f_ qu)]⟩,⟨[(0,.val t9)],[(100000,.f_ qu)]⟩,[none],3,au.Jz⟩
theorem axk:cS Tryz.prog dE 59 acw:=d' Rg [(999999,.Gj Q9 au.E3 [119,120,121,122,123,124,125,126,127,128,129,130,131,132,133,134,135,136,137,138])] ⟨axj,trivial⟩ func59 (S L (S L (S L (S me (S L (J [(0,.aX 100000 0),(8,.aX 8 0),(11,.al 48)] [(8,abf),(48,a2),(100000,Fc)] (S L (B (au [(0,.aX 100000 0),(8,.aX 8 0),(11,.al 48),(50,r1),(51,v2),(52,v2)] [(8,abf),(48,a2),(100000,Fc)] (S L (S ej (S (B (S L (S L (S bH L)))) L)))))) ca)))))) au.ar6
def N6:=pA Rg mC [(57,.fb ab4),(59,.fb acw)] ⟨avH,axk,trivial⟩ func20 au.u0 (S L (S me (S bH (S L (J [(4,.al 4),(5,.aX 5 0),(8,.aX 50230 0)] abE (S L (B (au [(4,.al 4),(5,.aX 5 0),(8,.aX 50230 0),(9,atG),(25,r1),(26,v2),(27,v2)] abE ee))) ca))))) au.asb
def axl:=mk N6 func183 Pu aO ao_
def axm:=mk axl func115 Ja aO aqT
def axn:=mk axm func54 au.JA aO au.asd
def D0:=mk axn func17 au.E_ (S L qP) au.atq
def axo:=mk D0 func45 au.JL (S L (S bH (S L (J [(3,v9)] [] (B (au [(0,v2),(3,v9)] [] (S ax (B ca)))) ca)))) au.atf
def D1:=mk axo func18 au.E9 (S L (J [(0,v9)] [] (S L (B (au [(0,v9),(1,et),(5,v2)] [] u5))) ca)) au.ath
def axp:=mk D1 func116 vW (S L (S L (S L (S L (J BJ [(2,.cells n5 [.cv,.cv,v2,.cv]),(3,.cells n5 [.al 8,.al 59,v2,.al 12]),(8,BH),(12,BF),(59,Ff)] (S L (B (au QT abF (S ax (J QT abF (B (S L (J [(1,.aX 1 0),(2,.aX 2 0),(3,.aX 3 0),(4,v2),(5,.aX 5 0)] abD (S L (B (au [(1,.aX 1 0),(2,.aX 2 0),(3,.aX 3 0),(4,v2),(5,.aX 5 0),(6,v2)] abD u5))) L))) L))))) ca))))) Ol
def axq:=mk axp func55 I_ (S L (S L (S L (S L (S L (J [(1,.aX 1 0),(2,.aX 2 0),(3,.aX 3 0)] QV (S L (B (au QT QV u5))) (J BJ [(2,.cells mf [.cv,.cv,v2,.cv,.cv,.cv,.cv,.cv,v2]),(3,.cells mf [v22,pX,v2,qM,.al 11,.al 16,.al 20,.al 24,v2]),(11,a2),(16,QN),(20,QM),(24,wP)] (S L (B (au [(1,.aX 1 0),(2,.aX 2 0),(3,.aX 3 0),(5,v2)] QV u5))) ca))))))) aqQ
def axr:=mk axq func56 H.vW qP H.Ol
def D2:=mk axr func19 au.Fa aO au.att
def N7:=mk D2 func21 au.E' (S L (J [(0,r1),(1,v2)] [] (S L (B (au [(0,r1),(1,v2),(5,v2)] [] dZ))) ca)) au.ats
def axs:=mk N7 func62 au.u2 (S L (S bH (J [] [] (S L (B (au [(0,et),(1,et),(5,v2)] [] dZ))) ca))) au.aso
def axt:=mk axs func60 au.JG (S L (S bH (J BJ Fg (S L (B (au [(2,.aX 2 0),(3,.aX 3 0),(5,v2)] Fg dZ))) (J BJ Fg (S L (B (au [(2,.aX 2 0),(3,.aX 3 0),(6,v2)] Fg dZ))) (J [] [] (S L (B (au QU Fg dZ))) ca))))) au.asp
def axu:=mk axt func61 au.JH (S L (S bH (J BJ yX (S L (B (au [(2,.aX 2 0),(3,.aX 3 0),(5,v2)] yX dZ))) (J BJ yX (S L (B (au [(2,.aX 2 0),(3,.aX 3 0),(6,v2)] yX dZ))) (J [] [] (S L (B (au QU yX (S ax (J QU yX (B (S L (S bH (S L (B (au [(2,.aX 2 0),(3,.aX 3 0),(7,v2),(8,QQ),(9,QQ),(10,v2)] yX dZ)))))) L))))) ca))))) au.asq
def N8:=mk axu func22 au.E5 (S L (S L (S bH (J [(5,.aX 5 0),(6,.aX 6 0)] Fh (S L (B (au [(5,.aX 5 0),(6,.aX 6 0),(7,v2)] Fh wS))) (J [(5,.aX 5 0),(6,.aX 6 0)] Fh (S L (B (au [(5,.aX 5 0),(6,.aX 6 0),(10,v2)] Fh wS))) (J [] [] (S L (B (au [(5,.aX 5 0),(6,.aX 6 0),(13,v2)] Fh dZ))) ca)))))) au.asr
theorem acM:h2 Tryz.prog 3 (.az wU tt) t4 (λx=>Pf au.E7.sh au.rZ.sh Be.sh au.E_.sh au.E9.sh au.Fa.sh au.u0.sh au.E'.sh au.E5.sh uN.sh tb.sh x):=HF N8 mC (sp:=[]) trivial func3 (ann:=(S L (S bH (S L (S L (J [(2,.aX 2 0),(3,.aX 3 0),(5,.aX 5 0),(6,.al 6)] [(2,yV),(3,aa9),(5,qN),(6,a9)] (S L (B (au [(2,.aX 2 0),(3,.aX 3 0),(5,.aX 5 0),(6,.al 6),(7,v2)] [(2,yV),(3,aa9),(5,qN),(6,a9)] (S ax (S (B ca) L))))) (S L (S L (S L (S bH (S L qP))))))))))) (λx=>A.le_refl _) (by kernel_rfl) λx=>by kernel_rfl
end
end Go.Fer.oi
namespace Go.Fer.oi
open Go Go.Proofs
theorem acJ{H:Type}{enc:TypeId×Value->H}{a:Assume}{C:Checked}{os:Os}{f:FuncId}{fn:Func}{s:ChangeSpec}{conds:List PathCond}{apart Gh handsOn again:Bool}{X:World->Array Value->Prop}
  (z6:∀ (w w':World) (args:Array Value),w.heap=w'.heap->X w args->X w' args)
  (al:ownKnob C.prog.godebug=none) (started:os.Started) (axv:C.prog.inits.idxOf? f=none) (tu:C.prog.funcs[f]?=some fn)
  (witness:∃ (w:World) (tape:Tape) (i:Input),w.os=os/\(w.forCall tape i).Shaped C.prog/\i.vars=[]/\Input.okWide C.prog (w.forCall tape i) .any w.heap.size f i/\
   ((s.pre enc C.prog fn conds apart (w.forCall tape i).memory i.args/\X (w.forCall tape i).memory i.args)/\sizedMet enc C.prog fn (OpenSpec.ofChange s) apart (w.forCall tape i).memory i.args)/\a.holds C.prog (lone (Frame.enter C.prog f i.args .normal) [] (w.forCall tape i)))
  (axw:∀ (au:World) (base:Nat) (args:Array Value) (bk gs:List (DataW H)) (before:List MemPlace),(∀ (j:Nat) t v,fn.params[j]?=some t->args[j]?=some v->Value.okWide C.prog au .any base t v)->
   DataW.Whole enc C.prog fn.params.toList s.vars apart au args.toList bk gs before->
   au.ShapedOpen C.prog->X au args->
   Calls C.prog f args au λe qo=>∃ v,e=.returned v/\s.post enc C.prog fn apart Gh handsOn again au args v qo) :
  ReturnsInHanded a C os f .any (λw args=>(s.pre enc C.prog fn conds apart w args/\X w args)/\sizedMet enc C.prog fn (OpenSpec.ofChange s) apart w args) (s.post enc C.prog fn apart Gh handsOn again):=by
 refine returnsInHanded_of_calls al started axv witness ?_;intro w tape i _ nH _ cM gN ayX;obtain⟨_,_,_,axx,axy,_,_,_,_,x0⟩:=cM;have e:axx=fn:=Option.some.inj (axy.symm.trans tu);subst e;obtain⟨⟨⟨bk,gs,before,hw,hc⟩,ah⟩,bl⟩:=gN;have C3:=DataW.Whole.of_heap (w':=w.forCall tape i) (by rfl) hw;refine (axw (w.forCall tape i) w.heap.size i.args bk gs before x0 C3 nH (z6 (w.forCall tape i).memory (w.forCall tape i) i.args rfl ah)).mono λe qo ⟨v,he,ao⟩=>?_;subst he;exact ChangeSpec.post_blind ao
theorem JY{P:Program}{w:World}:∀ {l:List (String×DataW Unit)} {ps:List MemPlace},DataW.LaidVars P w l ps->∀ n d,(n,d)∈l->∃ g t cs ck p,P.globalNamed n=some g/\(P.globals[g]?).map (·.type)=some t/\w.var? P n=some cs/\DataW.trod (λ_=>()) P w 0 (λ_=>true) false ck t cs.toList=some (d,p)
 | [],_,_,_,_,hm=>by cases hm
 | (iZ,va)::r,ps,h,n,d,hm=>by
  obtain⟨g,t,cs,ck,p,q,E,U,ag,a6,bM,_⟩:=h;rcases List.mem_cons.1 hm with e | e
  ·cases e;exact⟨g,t,cs,ck,p,E,U,ag,a6⟩
  ·exact JY bM n d e
theorem acI{P:Program}{w:World}{n:String}{g:Nat}{t:TypeId}{d:DataW Unit}{ck:Nat}{cs:Array Value}{p:List MemPlace}(aC:P.globalNamed n=some g)(ae:w.var? P n=some cs)(hu:∃ ms,P.underlying t=some (.interface ms))
  (h:DataW.trod (λ_=>()) P w 0 (λ_=>true) false ck t cs.toList=some (d,p)):∃ v,w.cell? ⟨g,0,none⟩=some v/\(v=.nilIface\/∃ lK mg,v=.iface lK mg):=by
 obtain⟨ms,hu⟩:=hu;have hc:w.cell? ⟨g,0,none⟩=cs[0]?:=by
  unfold World.var? at ae;rw[aC]at ae;simp only[Option.bind_some]at ae;cases af:w.heap[g]? with
  | none=>rw[af]at ae;cases ae
  | some o=>
   rw[af]at ae;cases o with
   | cells a T sW=>cases ae;simp[World.cell?,af]
   | _=>cases ae
 have aI:cs[0]?=cs.toList[0]?:=by simp
 rw[hc,aI];generalize cs.toList=l at h;cases ck with
 | zero=>simp[DataW.trod]at h
 | succ ck=>
  match l with
  | []=>simp[DataW.trod,hu]at h
  | [.nilIface]=>exact⟨_,rfl,.inl rfl⟩
  | [.iface u v]=>exact⟨_,rfl,.inr ⟨u,v,rfl⟩⟩
  | _::_::_=>simp[DataW.trod,hu]at h
  | [x]=>cases x<;>first | exact⟨_,rfl,.inl rfl⟩ | exact⟨_,rfl,.inr ⟨_,_,rfl⟩⟩ | (simp[DataW.trod,hu]at h;done)
theorem axz:((List.range 8).all λb=>(((begin Tryz.prog (λ_ _=>0) default).world.heap[b]?).bind Obj.row?).isSome)=true:=by kernel_rfl
theorem acO{au : World}(h : au.ShapedOpen Tryz.prog)(E : ∃ v, au.cell? ⟨1, 0, none⟩ = some v /\ (v = .nilIface \/ ∃ lK mg, v = .iface lK mg))(U : ∃ v, au.cell? ⟨2, 0, none⟩ = some v /\ (v = .nilIface \/ ∃ lK mg, v = .iface lK mg))(aI : Lib.TabIs Tryz.prog au "internal/strconv.uint64pow10" .u64 Lib.pow10Tab) : nJ Tryz.prog (qq au) au := λb W => by
 have jh:b<8:=Nat.lt_of_lt_of_le W (of_decide_eq_true (by kernel_rfl));refine⟨?_,?_⟩
 ·have M:=List.all_eq_true.1 axz b (List.mem_range.2 jh);obtain⟨⟨zero,t⟩,bl⟩:=Option.isSome_iff_exists.1 M;obtain⟨cs,cW,_⟩:=h.1 b zero t W bl;exact (Array.getElem?_eq_some_iff.1 cW).1
 ·match b,W,jh with
  | 0,W,_=>exact cell_of_shapedOpen_int (t:=3) (zero:=#[.int .i64 0]) h W (by kernel_rfl) rfl (by kernel_rfl) (by kernel_rfl) Tryz.underlying3
  | 1,_,_=>exact E
  | 2,_,_=>exact U
  | 3,_,_=>trivial
  | 4,_,_=>trivial
  | 5,_,_=>
   show ∀ i,au.cell? ⟨5,i,none⟩=if i<20 then some (.int .u64 (10 ^ i)) else none
   unfold Lib.TabIs World.var? at aI;rw[show Tryz.prog.globalNamed "internal/strconv.uint64pow10" = some 5 by kernel_rfl]at aI;change (match au.heap[5]? with | some (.cells cs _ _)=>some cs | _=>none)=_ at aI;intro i;cases af:au.heap[5]? with
   | none=>rw[af]at aI;cases aI
   | some o=>
    rw[af]at aI;cases o with
    | cells cs T sW=>
     simp only[Option.some.injEq]at aI;simp only[World.cell?,af,aI];simp only[Option.isSome_none,Bool.false_eq_true,if_false,List.getElem?_toArray,List.getElem?_map,Lib.pow10Tab];split
     ·rename_i BC;rw[List.getElem?_range BC];simp
     ·rename_i BC;rw[List.getElem?_eq_none (by simp;omega)];rfl
    | _=>cases aI
  | 6,_,_=>trivial
  | 7,_,_=>trivial
end Go.Fer.oi
