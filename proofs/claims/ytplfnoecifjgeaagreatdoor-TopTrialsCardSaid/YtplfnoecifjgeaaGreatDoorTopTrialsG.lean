/- Part 7 of the proof of TopTrials: shallow programs of Go functions, and what they compute. No condition. -/
import Derived.Test.YtplfnoecifjgeaaGreatDoorTopTrialsF
import Derived.Lib.AtoiAll
import Derived.Lib.ItoaLen
import Derived.Lib.Join
import Derived.Shelf.SlGeneric
import Derived.Shelf.Spec.SlicesGrow
import Derived.Shelf.Strings.OnBuilder
import Derived.Shelf.LaysM
import Derived.Shelf.Strconv.Itoa3
import Derived.Shelf.LaysC
import Derived.Shelf.Strconv.AtoiAll
import Derived.Shelf.Strings.Split
import Derived.Shelf.Slices.In.SortNone
import Derived.Test.YtplfnoecifjgeaaGreatDoorProg
import Derived.WalkKit
import Derived.WalkSpells
import Derived.Handy
import Derived.Shelf.Sort.AssemblyIn
import Derived.Sort.EveryDepth
import Derived.Handed
import Derived.Shelf.Vars
import Derived.Lib.LaidTab
import Derived.Lib.ItoaNum
noncomputable section
set_option linter.unusedVariables false
set_option linter.unusedSimpArgs false
namespace Go.Fer.H
open A (V)
def I_(x:Int×Unit):A (z1'×Unit):=A.dR (0<=x.1/\x.1<60000) ([],())
def I'(x:Int×Unit):A (List a_×Unit):=A.dR (0<=x.1/\x.1<60000) ([],())
section
variable {ak gC:Type}
def Ja(g:Int×Unit->A (List ak×Unit))(x:List (List ak))(k:List ak->A gC):A gC:=
 A.bind (A.loop (λ(D:List (List ak)×Int×List (List ak)×Int×Int×Unit)=>if decide (D.2.2.2.2.1<D.2.2.2.1)=true then A.bind (A.ab (0<=D.2.2.2.2.1/\
 D.2.2.2.2.1<Int.ofNat (List.length D.2.2.1)) (if decide (IntKind.wrap .i64 (Add.add D.2.1 (Int.ofNat (List.length (List.getD D.2.2.1 (Int.toNat D.2.2.2.2.1) [])))) <
 0)=true then A.ab False (A.ab False (A.pure (V.next (D.1,IntKind.wrap .i64 (Add.add D.2.1 (Int.ofNat (List.length (List.getD D.2.2.1 (Int.toNat D.2.2.2.2.1)
 [])))),D.2.2.1,D.2.2.2.1,D.2.2.2.2.1,())))) else A.pure (V.next (D.1,IntKind.wrap .i64 (Add.add D.2.1 (Int.ofNat (List.length (List.getD D.2.2.1 (Int.toNat
 D.2.2.2.2.1) [])))),D.2.2.1,D.2.2.2.1,D.2.2.2.2.1,())))) (V.bx λ(D:List (List ak)×Int×List (List ak)×Int×Int×Unit)=>A.pure (V.next (D.1,D.2.1,D.2.2.1,D.2.2.2.1,IntKind.wrap .i64 (Add.add D.2.2.2.2.1 1),()))) else A.bind (A.pure (V.next (D.1,D.2.1,()))) λr=>A.pure (V.done r)) (x,0,x,Int.ofNat
 (List.length x),0,())) (V.bx λ(D:List (List ak)×Int×Unit)=>A.bind (g (D.2.1,())) λy=>A.bind (A.loop (λ(D:List (List ak)×Int×Int×List ak×
 Unit)=>if decide (D.2.2.1<D.2.1)=true then A.ab (0<=D.2.2.1/\D.2.2.1<Int.ofNat (List.length D.1)) (A.ab (bP (Add.add (List.length D.2.2.2.1) (List.length
 (List.getD D.1 (Int.toNat D.2.2.1) [])))) (A.pure (V.next (D.1,D.2.1,IntKind.wrap .i64 (Add.add D.2.2.1 1),D.2.2.2.1++List.getD D.1 (Int.toNat D.2.2.1) [],())))) else A.bind (A.pure (V.next (D.2.2.2.1,()))) λr=>A.pure (V.done r)) (D.1,Int.ofNat (List.length D.1),0,y.1,())) (V.bx λ(D:List ak×Unit)
 =>k D.1))
theorem Z6:∀ (l:List (List ak)) (b:List ak),l.foldl (λb x=>b++x) b=b++l.flatten
 | [],b=>by simp
 | x::l,b=>by simp[Z6 l]
theorem Z7(g:Int×Unit->A (List ak×Unit))(aB:∀ n,0<=n->n<60000->g (n,())=A.pure ([],()))(x:List (List ak))(k:List ak->A gC)(E:x.length<=2)(U:∀ l∈x,l.length<=40):Ja g x k=k x.flatten:=by
 unfold Ja;rw[A.f_ x (λi (n:Int)=>(x,n,x,(x.length:Int),(i:Int),())) (λl n=>.next (n+(l.length:Int))) (λn=>.next (x,n,())) (λi n=>0<=n/\n<=40*(i:Int)) 0 ?_ ?_ ?_ ?_]
 ·rw[dP,A.aF,A.bY];have aD:∀ (l:List (List ak)) (n:Int),0<=n->(∀ y∈l,y.length<=40)->0<=l.foldl (λn y=>n+(y.length:Int)) n/\l.foldl (λn y=>n+(y.length:Int)) n<=n+40*(l.length:Int):=by
   intro l;induction l with
   | nil=>simp
   | cons y l aJ=>
    grind
  obtain⟨dN,e0⟩:=aD x 0 (Int.le_refl _) U;rw[aB _ dN (by omega),A.aF];rw[A.f_ x (λi (b:List ak)=>(x,(x.length:Int),(i:Int),b,())) (λl b=>.next (b++l)) (λb=>.next (b,())) (λi b=>b.length<=40*i) [] ?_ ?_ ?_ ?_]
  ·rw[dP,A.aF,A.bY,Z6];rfl
  ·rfl
  ·simp
  ·intro i G b W;have hw:=bz (n:=(i:Int)+1) (by omega) (by omega);have aj:=U _ (List.getElem_mem G);refine⟨?_,λbe db=>?_⟩
   ·simp only[bV,cU G,if_true,df G,cM G,A.bp,ch,hw];rw[A.bt (gb (by grind))];rfl
   grind
  simp
 ·rfl
 ·omega
 ·intro i G n aA;have hw:=bz (n:=(i:Int)+1) (by omega) (by omega);have aj:=U _ (List.getElem_mem G);have gW:=bz (n:=n+(x[i].length:Int)) (by omega) (by omega);have au:decide (n+(x[i].length:Int)<0)=false:=by grind
  refine⟨?_,λbe db=>?_⟩
  ·simp only[bV,cU G,if_true,df G,cM G,A.bp,ch,hw,gW,au,Bool.false_eq_true,if_false,A.aF,A.bY];rfl
  grind
 simp
end
abbrev Jb:aK:=⟨.slice (.slice ho),.slice ho,λx=>x.length<=2/\∀ l∈x,l.length<=40,λx=>x.flatten⟩
theorem aqX(x):A.le (Z4 I' x) (Jb.sh x):=A.bq λh=>
 (show Z4 I' x=Ja I' x A.pure from rfl).trans (Z7 _ (λn a b=>A.bR ⟨a,b⟩ _) x _ h.1 h.2)
def Jc(x:List (z1')×Unit):A (z1'×Unit):=A.dR (x.1.length<=2/\∀ l∈x.1,l.length<=40) (x.1.flatten,())
theorem aqY(x):A.le (Z5 I_ x) (Jc x):=A.bq λh=>
 (show Z5 I_ x=Ja I_ x.1 (λl=>A.pure (l,())) from rfl).trans (Z7 _ (λn a b=>A.bR ⟨a,b⟩ _) x.1 _ h.1 h.2)
def n'(l:z1')(j:Nat):Bool:=decide (j=0)||decide (l.getD j 0≠l.getD (j - 1) 0)
def fv(l:z1')(p:Nat):z1':=((List.range p).filter (n' l)).map λj=>l.getD j 0
theorem P1(l:z1')(p:Nat):fv l (p+1)=fv l p++if n' l p=true then [l.getD p 0] else []:=by
 unfold fv;rw[List.range_succ,List.filter_append,List.map_append];grind
theorem aqZ(l:z1')(p:Nat):(fv l p).length<=p:=by
 unfold fv;grind
def ER{R:Type}:Int×(Nat×Nat)×Int×z1'×Unit->A (V (Int×(Nat×Nat)×Int×z1'×Unit) (V (Int×z1'×Unit) R)):=
 (λ(D:Int×(Nat×Nat)×Int×z1'×Unit)=>if decide (D.2.2.1<Int.ofNat (D.2.1.2 - D.2.1.1))=true then A.bind (A.ab (0<=D.2.2.1/\D.2.2.1<Int.ofNat
 (D.2.1.2 - D.2.1.1)) (A.ab (0<=IntKind.wrap .i64 (D.2.2.1 - 1)/\IntKind.wrap .i64 (D.2.2.1 - 1)<Int.ofNat (D.2.1.2 - D.2.1.1)) (if decide (List.getD D.2.2.2.1
 (Add.add D.2.1.1 (Int.toNat D.2.2.1)) 0≠List.getD D.2.2.2.1 (Add.add D.2.1.1 (Int.toNat (IntKind.wrap .i64 (D.2.2.1 - 1)))) 0)=true then A.ab (0<=D.2.2.1/\D.2.2.1
 < Int.ofNat (D.2.1.2 - D.2.1.1)) (A.ab (0<=D.1/\D.1<Int.ofNat (List.length D.2.2.2.1)) (A.pure (V.next (IntKind.wrap .i64 (Add.add D.1 1),D.2.1,D.2.2.1,List.set D.2.2.2.1 (Int.toNat D.1) (List.getD D.2.2.2.1 (Add.add D.2.1.1 (Int.toNat D.2.2.1)) 0),())))) else A.pure (V.next (D.1,D.2.1,D.2.2.1,D.2.2.2.1,())))))
 (V.bx λ(D:Int×(Nat×Nat)×Int×z1'×Unit)=>A.pure (V.next (D.1,D.2.1,IntKind.wrap .i64 (Add.add D.2.2.1 1),D.2.2.2.1,()))) else A.bind
 (A.pure (V.next (D.1,D.2.2.2.1,()))) λr=>A.pure (V.done r))
def wB:Int×z1'×Unit->A (V (Int×z1'×Unit) (V (z1'×Unit) ((Nat×Nat)×z1'×Unit))):=
 (λ(D:Int×z1'×Unit)=>if decide (D.1<Int.ofNat (List.length D.2.1))=true then A.bind (A.ab (0<=D.1/\D.1<Int.ofNat (List.length D.2.1)) (A.ab (0<=
 IntKind.wrap .i64 (D.1 - 1)/\IntKind.wrap .i64 (D.1 - 1)<Int.ofNat (List.length D.2.1)) (if decide (List.getD D.2.1 (Int.toNat D.1) 0=List.getD D.2.1 (Int.toNat
 (IntKind.wrap .i64 (D.1 - 1))) 0)=true then A.ab (0<=D.1/\D.1<=Int.ofNat (List.length D.2.1)/\Int.ofNat (List.length D.2.1)<=Int.ofNat (List.length D.2.1))
 (A.bind (A.loop ER (D.1,(Int.toNat D.1,Int.toNat (Int.ofNat (List.length D.2.1))),1,D.2.1,())) (V.bx λ(D:Int×z1'×Unit)=>A.ab (0<=D.1/\D.1<=
 Int.ofNat (List.length D.2.1)/\Int.ofNat (List.length D.2.1)<=Int.ofNat (List.length D.2.1)) (A.ab True (A.ab ((0:Int)<=0/\0<=D.1/\D.1<=Int.ofNat (List.length
 (List.take (Int.toNat D.1) D.2.1++List.replicate (Int.toNat (Int.ofNat (List.length D.2.1)) - Int.toNat D.1) 0++List.drop (Add.add (Int.toNat D.1) (List.length
 (List.replicate (Int.toNat (Int.ofNat (List.length D.2.1)) - Int.toNat D.1) (0:Int)))) D.2.1))) (A.bind (A.bind (A.bind (A.pure ((Int.toNat 0,Int.toNat D.1),List.take
 (Int.toNat D.1) D.2.1++List.replicate (Int.toNat (Int.ofNat (List.length D.2.1)) - Int.toNat D.1) 0++List.drop (Add.add (Int.toNat D.1) (List.length (List.replicate
 (Int.toNat (Int.ofNat (List.length D.2.1)) - Int.toNat D.1) (0:Int)))) D.2.1,())) λr=>A.pure (V.done r)) λr=>A.pure (V.done r)) λr=>A.pure (V.done
 r)))))) else A.pure (V.next (D.1,D.2.1,()))))) (V.bx λ(D:Int×z1'×Unit)=>A.pure (V.next (IntKind.wrap .i64 (Add.add D.1 1),D.2.1,()))) else
 A.bind (A.pure (V.next (D.2.1,()))) λr=>A.pure (V.done r))
structure yE(l:z1')(p:Nat)(m:z1'):Prop where
 len:m.length=l.length
 Ci:m.take (fv l p).length=fv l p
 lt:(fv l p).length<p
 cm:∀ j,p<=j+1->m.getD j 0=l.getD j 0
theorem aq0{ak:Type}{l:List ak}{i j:Nat}{v d:ak}(h:i<l.length):(l.set i v).getD j d=if j=i then v else l.getD j d:=by
 grind
theorem yE.step{l m:z1'}{p:Nat}(h:yE l p m)(an:p<l.length):yE l (p+1) (if n' l p=true then m.set (fv l p).length (l.getD p 0) else m):=by
 have E:=h.lt;have U:=h.len;have hc:=P1 l p;by_cases al:n' l p=true
 ·rw[if_pos al]at hc ⊢;refine⟨by grind,?_,?_,λj aE=>?_⟩
  ·rw[hc,List.length_append,List.length_singleton];have aH:=h.Ci;generalize fv l p=c at aH E;apply List.ext_getElem?;intro j;rw[List.getElem?_take,List.getElem?_append,List.getElem?_set];grind
  ·grind
  ·rw[aq0 (by omega),if_neg (by omega)];exact h.cm j (by omega)
 ·rw[if_neg al,List.append_nil]at hc;rw[if_neg al];refine⟨U,by rw[hc];exact h.Ci,by grind,λj aE=>h.cm j (by omega)⟩
theorem aq1{R:Type}{l m:z1'}{k p:Nat}(aj:l.length<60000)(al:k<p)(mW:0<k)(h:yE l p m)(an:p<l.length) :
  ER (R:=R) (((fv l p).length:Nat),(k,l.length),((p - k:Nat):Int),m,())=A.pure (.next (((fv l (p+1)).length:Nat),(k,l.length),((p+1 - k:Nat):Int),(if n' l p=true then m.set (fv l p).length (l.getD p 0) else m),())):=by
 have E:=h.lt;have U:=h.len;have hc:=P1 l p;have cn:=bz (n:=((p - k:Nat):Int) - 1) (by omega) (by omega);have c7:IntKind.wrap .i64 (((p - k:Nat):Int)+1)=((p+1 - k:Nat):Int):=(bz (by omega) (by omega)).trans (by omega);have eW:=bz (n:=(((fv l p).length:Nat):Int)+1) (by omega) (by omega);have d1:decide (((p - k:Nat):Int)<((l.length - k:Nat):Int))=true:=by grind
 have b4:(0:Int)<=((p - k:Nat):Int)/\((p - k:Nat):Int)<((l.length - k:Nat):Int):=by omega
 have cv:(0:Int)<=((p - k:Nat):Int) - 1/\((p - k:Nat):Int) - 1<((l.length - k:Nat):Int):=by omega
 have ef:(0:Int)<=(((fv l p).length:Nat):Int)/\(((fv l p).length:Nat):Int)<(m.length:Int):=by omega
 have aw:k+(((p - k:Nat):Int)).toNat=p:=by omega
 have aN:k+(((p - k:Nat):Int) - 1).toNat=p - 1:=by omega
 have g1:=h.cm p (by omega);have ew:=h.cm (p - 1) (by omega);have zq:n' l p=decide (l.getD p 0≠l.getD (p - 1) 0):=by
  unfold n';grind
 unfold ER;simp only[bV,d1,if_true,cn,b4,cv,and_self,A.bp,ch,hX,aw,aN,g1,ew,<-zq];by_cases Jd:n' l p=true
 ·rw[if_pos Jd]at hc;simp only[Jd,if_true,ef,and_self,A.bp,A.aF,A.bY,c7,eW,Int.toNat_natCast,decide_true];rw[hc];simp
 ·rw[if_neg Jd,List.append_nil]at hc;simp only[Jd,if_false,A.aF,A.bY,c7,Bool.false_eq_true,decide_true,if_true];rw[hc]
theorem aq2{R:Type}{l:z1'}{k:Nat}(aj:l.length<60000)(mW:0<k):∀ (n p:Nat) (m:z1'),l.length - p=n->p<=l.length->k<p->yE l p m->
  ∃ dx,yE l l.length dx/\A.loop (ER (R:=R)) (((fv l p).length:Nat),(k,l.length),((p - k:Nat):Int),m,())=A.pure (.next (((fv l l.length).length:Nat),dx,())):=by
 intro n;induction n with
 | zero=>
  intro p m aA an al h;have:p=l.length:=by omega
  subst this;refine⟨m,h,A.rZ ?_⟩;unfold ER;simp
 | succ n aJ=>
  intro p m aA an al h;have an:p<l.length:=by omega
  obtain⟨dx,E,U⟩:=aJ (p+1) _ (by omega) an (by omega) (h.step an);exact⟨dx,E,(A.yY (aq1 aj al mW h an)).trans U⟩
def wC(l:z1'):(Nat×Nat)×z1'×Unit:=((0,(fv l l.length).length),fv l l.length++List.replicate (l.length - (fv l l.length).length) 0,())
theorem aq3{l:z1'}(aj:l.length<60000):∀ (n p:Nat),l.length - p=n->p<=l.length->0<p->fv l p=l.take p->
  A.bind (A.loop wB ((p:Int),l,())) (V.bx λ(D:z1'×Unit)=>A.pure ((0,List.length D.1),D.1,()))=A.pure (wC l):=by
 intro n;induction n with
 | zero=>
  intro p aA an aX hc;have:p=l.length:=by omega
  subst this;rw[List.take_length]at hc;have W:wB ((l.length:Int),l,())=A.pure (.done (.next (l,()))):=by
   unfold wB;simp
  rw[A.rZ W,A.aF,A.bY];unfold wC;simp_all
 | succ n aJ=>
  intro p aA an aX hc;have an:p<l.length:=by omega
  have cn:=bz (n:=(p:Int) - 1) (by omega) (by omega);have c7:=bz (n:=(p:Int)+1) (by omega) (by omega);have cv:(0:Int)<=(p:Int) - 1/\(p:Int) - 1<(l.length:Int):=by omega
  have aw:((p:Int) - 1).toNat=p - 1:=by omega
  have zq:n' l p=decide (l.getD p 0≠l.getD (p - 1) 0):=by
   unfold n';rw[show decide (p=0)=false by grind,Bool.false_or]
  have o9:=P1 l p;have Zw:(l.take p).length=p:=by grind
  by_cases al:n' l p=true
  ·have eN:¬l.getD p 0=l.getD (p - 1) 0:=by grind
   have W:wB ((p:Int),l,())=A.pure (.next (((p+1:Nat):Int),l,())):=by
    unfold wB;simp_all
   rw[A.yY W];refine aJ (p+1) (by omega) an (by omega) ?_;simp_all
  ·have heq:l.getD p 0=l.getD (p - 1) 0:=by grind
   rw[if_neg al,List.append_nil]at o9;have eA:yE l (p+1) l:=⟨rfl,by grind,by grind,λ_ _=>rfl⟩
   obtain⟨dx,E,U⟩:=aq2 (R:=V (Int×z1'×Unit) (V (Int×z1'×Unit) (V (z1'×Unit) ((Nat×Nat)×z1'×Unit)))) aj aX (l.length - (p+1)) (p+1) l rfl an (by omega) eA;rw[show (fv l (p+1)).length=p by grind,show p+1 - p=1 from by omega]at U;have lP:=aqZ l l.length;have anh:=E.len;have kQ:=E.Ci;have ef:(0:Int)<=((fv l l.length).length:Int)/\((fv l l.length).length:Int)<=(dx.length:Int):=by omega
   have jk:List.take (fv l l.length).length dx++List.replicate (dx.length - (fv l l.length).length) 0++List.drop ((fv l l.length).length+(List.replicate (dx.length - (fv l l.length).length) (0:Int)).length) dx=fv l l.length++List.replicate (l.length - (fv l l.length).length) 0:=by
    simp_all
   have W:wB ((p:Int),l,())=A.pure (.done (.done (wC l))):=by
    unfold wB;simp only[bV,cU an,if_true,cM an,A.bp,cn,cv,and_self,aw,Int.toNat_natCast,heq,decide_true];rw[A.bt (by omega)];erw [U];simp only[A.aF,A.bY,bV,Int.toNat_natCast,hX,jk,A.bp];rw[A.bt ⟨ef.1,ef.2,Int.le_refl _⟩,A.bt ⟨Int.le_refl _,ef.1,by grind⟩];simp only[A.aF,A.pv,jk];rfl
   rw[A.rZ W,A.aF,A.pv]
def Je(x:z1'×Unit):A ((Nat×Nat)×z1'×Unit):=A.dR (x.1.length<60000) (wC x.1)
theorem aq4(x):A.le (aqW x) (Je x):=A.bq λh=>by
 obtain⟨l,u⟩:=x;change l.length<60000 at h;show (if decide (Int.ofNat l.length<2)=true then A.pure ((0,l.length),l,()) else A.bind (A.loop wB (1,l,())) (V.bx λ(D:z1'×Unit)=>A.pure ((0,List.length D.1),D.1,())))=A.pure (wC l);have nN:∀ l:z1',l.length<2->fv l l.length=l:=λl aj=>by
  match l,aj with
  | [],_=>rfl
  | [a],_=>rfl
 by_cases U:l.length<2
 ·have au:decide (Int.ofNat l.length<2)=true:=by grind
  rw[if_pos au];unfold wC;simp_all
 ·have au:¬decide (Int.ofNat l.length<2)=true:=by grind
  rw[if_neg au];refine aq3 h (l.length - 1) 1 rfl (by omega) (by omega) ?_;match l,U with
  | a::l,_=>rfl
  | [],U=>grind
end Go.Fer.H
namespace Go.Fer.H
open A (V)
theorem aq5{l:z1'}:∀ j,j<l.length->l.getD j 0∈fv l l.length:=by
 intro j;induction j with
 | zero=>
  intro h;unfold fv;exact List.mem_map.2 ⟨0,List.mem_filter.2 ⟨by grind,by rfl⟩,rfl⟩
 | succ j aJ=>
  intro h;by_cases al:n' l (j+1)=true
  ·unfold fv;grind
  ·have:l.getD (j+1) 0=l.getD j 0:=by
    unfold n' at al;grind
   grind
theorem aq6{l:z1'}{x:Int}:x∈fv l l.length<->x∈l:=by
 constructor
 ·intro h;unfold fv at h;grind
 ·intro h;obtain⟨j,aE,rfl⟩:=List.mem_iff_getElem.1 h;rw[<-sT (d:=0) aE];exact aq5 j aE
theorem aq7{l:z1'}(h:l.Pairwise (·<=·)):(fv l l.length).Pairwise (·<·):=by
 unfold fv;rw[List.pairwise_map];have M:((List.range l.length).filter (n' l)).Pairwise (·<·):=List.Pairwise.filter _ List.pairwise_lt_range;refine List.Pairwise.imp_of_mem ?_ M;intro i j G aE zw;obtain⟨aq8,i'⟩:=List.mem_filter.1 aE;have aq8:j<l.length:=by grind
 have eN:l.getD j 0≠l.getD (j - 1) 0:=by
  unfold n' at i';grind
 have aD:=List.pairwise_iff_getElem.1 h;grind
def rQ(a b:z1'):z1':=(eh 0 99).filter λid=>a.contains id||b.contains id
theorem Z8(a b:Int):(eh a b).Pairwise (·<·):=by
 unfold eh;rw[List.pairwise_map];exact (List.pairwise_lt_range).imp λh=>by omega
theorem aq9{a b:z1'}(ba:a.Pairwise (·<·))(W:b.Pairwise (·<·))(h:∀ x,x∈a<->x∈b):a=b:=by
 have aq_:a.Nodup:=ba.imp λh=>by omega
 have mw:b.Nodup:=W.imp λh=>by omega
 have an:=(List.perm_ext_iff_of_nodup aq_ mw).2 h;rw[<-AD (ba.imp λh=>by omega) (List.Perm.refl a)];exact AD (W.imp λh=>by omega) an
theorem aq'{a b:z1'}(ba:∀ x∈a,b3 x 0 99=true)(W:∀ x∈b,b3 x 0 99=true):fv (ft hq (a++b)) (ft hq (a++b)).length=rQ a b:=by
 refine aq9 (aq7 (Om _)) (List.Pairwise.filter _ (Z8 0 99)) λx=>?_;rw[aq6,W'];unfold rQ;simp only[List.mem_append,List.mem_filter,sI,Bool.or_eq_true,List.contains_iff_mem];refine⟨λh=>⟨?_,h⟩,λh=>h.2⟩;rcases h with h | h
 ·exact oR.1 (ba x h)
 ·exact oR.1 (W x h)
abbrev Jf:aZ:=([],[],[],[],0,0,0,0,0,0,0)
def ns(c:aZ)(more:List a_)(hb:z1'):aZ:=(c.1,more,hb,c.2.2.2)
def oa(c:aZ)(more:List a_)(hb:z1'):aZ×Int:=
 if cw c≠0 then (Jf,cw c) else if cw (ns c more hb)≠0 then (Jf,cw (ns c more hb)) else
 if k0 (c.2.1++more)=true then (Jf,91) else
 if (decide (Int.ofNat (gX (c.2.1++more)).length > 12)||decide (Int.ofNat (rQ c.2.2.1 hb).length > 12))=true then (Jf,90) else (ns c (gX (c.2.1++more)) (rQ c.2.2.1 hb),0)
abbrev Bt:aK:=⟨.ay iN (.ay (.slice ho) fE),.ay iN bu,λx=>ix x.1/\x.2.1.length<2 ^ 63/\x.2.2.length<2 ^ 63,λx=>oa x.1 x.2.1 x.2.2⟩
abbrev ES:aK:=⟨.slice mD,.slice mD,λx=>x.length<65536,λx=>x⟩
theorem ara(x):A.le (WC x) (ES.sh x):=A.sG λh=>by
 unfold WC;rw[A.gg];refine⟨⟨false,by simp⟩,λb W=>?_⟩;change b=true->x=[]at W;cases b with
 | true=>rw[W rfl];exact A.ea.2 rfl
 | false=>
  simp only[Bool.false_eq_true,if_false];exact A.kL.2 ⟨gb (by grind),A.ea.2 (by simp)⟩
structure Z9(c:aZ):Prop where
 eb:c.1.length<=3
 ee:c.2.1.length<=12
 jl:c.2.2.1.length<=12
 n4:c.2.2.2.1.length<=4
 ids:∀ s∈c.2.1,b3 s.1 0 99=true
 hb:∀ n∈c.2.2.1,b3 n 0 99=true
 cl:k0 c.2.1=false
theorem Jg{c:aZ}(h:cw c=0):Z9 c:=by
 unfold cw at h;by_cases hc:jS c=true
 ·rw[if_pos hc]at h;have lP:k0 c.2.1=false:=by
   grind
  have G:=H2 hc;unfold jS sR at hc;simp only[Bool.and_eq_true,List.all_eq_true,Bool.not_eq_true',Bool.or_eq_false_iff,decide_eq_false_iff_not]at hc;obtain⟨⟨⟨⟨⟨bk,_⟩,_⟩,U⟩,ag⟩,_⟩:=hc;exact⟨by omega,by omega,by omega,by omega,G.2,ag,lP⟩
 grind
theorem arb{a b:List a_}(ba:a.length<=12)(W:b.length<=12)(E:∀ s∈a,b3 s.1 0 99=true)(U:∀ s∈b,b3 s.1 0 99=true):vW (a++b):=
 ⟨by grind,λs aD=>(List.mem_append.1 aD).elim (E s) (U s)⟩
theorem arc(x):A.le (Z3 hr.sh AM.sh Jb.sh Jc ya Je ES.sh x) (Bt.sh x):=A.bq λh=>by
 obtain⟨c,more,hb⟩:=x;obtain⟨E,U,ag⟩:=h;change ix c at E;change more.length<2 ^ 63 at U;change hb.length<2 ^ 63 at ag;have tS:ix (ns c more hb):=⟨E.1,U,ag,E.2.2.2⟩
 unfold Z3;show _=A.pure (oa c more hb);unfold oa;rw[show hr.sh (c,more,hb).1=A.pure (cw c) from A.bR E _,A.aF];by_cases aw:cw c=0
 ·have g1:=Jg aw;rw[show hr.sh ((c,more,hb).1.1,(c,more,hb).2.1,(c,more,hb).2.2,(c,more,hb).1.2.2.2)=A.pure (cw (ns c more hb)) from A.bR tS _,A.aF];by_cases aN:cw (ns c more hb)=0
  ·have ew:=Jg aN;have ee:more.length<=12:=ew.ee;have jl:hb.length<=12:=ew.jl;have p8:=g1.ee;have mn:=g1.jl;have G:vW (c.2.1++more):=arb g1.ee ew.ee g1.ids ew.ids;rw[if_neg (by grind),if_neg (by grind),if_neg (by omega),if_neg (by omega)];rw[show Jb.sh [(c,more,hb).1.2.1,(c,more,hb).2.1]=A.pure (c.2.1++more) from (A.bR ⟨by simp,by grind⟩ _).trans (congrArg A.pure (by simp)),A.aF];rw[show AM.sh (c.2.1++more)=A.pure (if k0 (c.2.1++more)=true then ([],false) else (gX (c.2.1++more),true)) from A.bR G _,A.aF];cases hc:k0 (c.2.1++more) with
   | true=>simp
   | false=>
    simp only[Bool.false_eq_true,if_false,Bool.not_true];rw[show Jc ([c.2.2.1,hb],())=A.pure (c.2.2.1++hb,()) from (A.bR ⟨by simp,by grind⟩ _).trans (congrArg A.pure (by simp)),A.aF];rw[show ya ((c.2.2.1++hb,()):z1'×Unit)=A.pure (ft hq (c.2.2.1++hb),()) from A.bR (by grind) _,A.aF];rw[show Je ((ft hq (c.2.2.1++hb),()):z1'×Unit)=A.pure (wC (ft hq (c.2.2.1++hb))) from A.bR (by show (ft hq (c.2.2.1++hb)).length<_;rw[HU];grind) _,A.aF];have h':=aq' g1.hb ew.hb;unfold wC;rw[show (fv (ft hq (c.2.2.1++hb)) (ft hq (c.2.2.1++hb)).length)=rQ c.2.2.1 hb from h'];simp only[Nat.sub_zero,List.drop_zero,List.take_left];rw[show ES.sh c.1=A.pure c.1 from A.bR (by have:=g1.eb;omega) _,show ES.sh c.2.2.2.1=A.pure c.2.2.2.1 from A.bR (by have:=g1.n4;omega) _];simp only[A.iT,A.fB,A.bp];split<;>rfl
  grind
 grind
end Go.Fer.H
namespace Go.Fer.ar
open A (V)
abbrev wD:ad:=.slice .str
abbrev uS:ad:=.st (.ay k6 H.iN)
def cH:aT->List aT
 | []=>[[]]
 | c::s=>if c=32 then []::cH s else match cH s with
  | []=>[[c]]
  | w::l=>(c::w)::l
theorem uT:∀ (s:aT),1<=(cH s).length/\(cH s).length<=s.length+1
 | []=>by simp[cH]
 | c::s=>by
  have:=uT s;unfold cH;grind
theorem Z_:∀ (s:aT) {w:aT},w∈cH s->w.length<=s.length
 | [],w,h=>by simp[cH]at h;simp[h]
 | c::s,w,h=>by
  have aJ:=@Z_ s;unfold cH at h;grind
def gj:aT->Int->Int
 | [],n=>n
 | c::s,n=>if (decide ((c.toNat:Int)<48)||decide ((c.toNat:Int) > 57))=true then -1 else gj s (10*n+((c.toNat:Int) - 48))
def eZ(s:aT):Int:=if (decide (s.length=0)||decide (s.length > 6)||decide (s.length > 1)&&decide ((s.getD 0 0).toNat=48))=true then -1 else gj s 0
theorem P2:∀ (s:aT) (n:Int) (k:Nat),0<=n->n<10 ^ k->gj s n<10 ^ (k+s.length)/\-1<=gj s n
 | [],n,k,aX,E=>by simp[gj];omega
 | c::s,n,k,aX,E=>by
  unfold gj;have an:(0:Int)<10 ^ (k+(c::s).length):=Int.pow_pos (by decide);split
  ·omega
  ·rename_i hc;simp only[Bool.or_eq_true,decide_eq_true_eq,not_or]at hc;have:=P2 s (10*n+((c.toNat:Int) - 48)) (k+1) (by omega) (by omega);grind
theorem ard(s:aT):-1<=eZ s/\eZ s<=999999:=by
 unfold eZ;split
 ·omega
 ·rename_i h;simp only[Bool.or_eq_true,decide_eq_true_eq,not_or]at h;have:=P2 s 0 0 (by decide) (by decide);have U:(10:Int) ^ (0+s.length)<=10 ^ 6:=by
   have:=Nat.pow_le_pow_right (n:=10) (by decide) (show 0+s.length<=6 by omega);grind
  omega
def td(s:aT):Int:=match Go.Lib.atoiAll s with
 | .ok v=>v
 | .range=>Go.Lib.atoiSat s
 | _=>0
def q_(s:aT):Int×Bool:=(td s,decide (0<=eZ s))
def ET(l:List aT):Option (z1'):=if l.all (λw=>decide (0<=eZ w))=true then some (l.map eZ) else none
def rR(n:Int):aT:=Go.Lib.itoa (IntKind.wrap .i64 n)
theorem P3(n:Int):(rR n).length<=21:=by
 have:=p5 .i64 n;exact Go.Lib.itoa_length_le _ this.1 this.2
abbrev rS:aT:=[111,107]
abbrev Bu:aT:=[110,111]
abbrev Z':aT:=[110,111,110,101]
abbrev P4:aT:=[115,104,111,112]
abbrev are:aT:=[108,105,97,114]
abbrev arf:aT:=[63]
def rT(l:z1'):aT:=if l=[] then Z' else Go.Lib.join (l.map rR) [32]
def qE(e:Int)(l:z1'):aT:=if e=0 then rT l else if e=3 then Z' else Bu
def yF(x:(Int×Int)×Int):aT:=qE x.2 [x.1.1,x.1.2]
abbrev bn(l:z1')(i:Nat):Int:=l.getD i 0
def te(d:bc)(m:List H.a_)(v:z1'):aT×bc:=if (H.oa d.2 m v).2≠0 then (Bu,d) else (rS,(d.1,(H.oa d.2 m v).1))
def ob(d:bc)(s:bF):aT×bc:=if iS s≠0 then (Bu,d) else (rS,(s,d.2))
def P5(d:bc)(l:z1'):aT×bc:=te d [(bn l 0,bn l 1,bn l 2,1,bn l 3,bn l 4)] []
def P6(d:bc)(l:z1'):aT×bc:=te d [(bn l 0,bn l 1,bn l 2,2,bn l 3,0)] []
def P7(d:bc)(l:z1'):aT×bc:=te d [] l
def P8(d:bc)(l:z1'):aT×bc:=(yF (H.H9 d.2 (bn l 0)),d)
def P9(d:bc)(l:z1'):aT×bc:=(yF (H.AU d.2 (bn l 0)),d)
def P_(d:bc)(l:z1'):aT×bc:=(yF (H.Ia d.2 (bn l 0)),d)
def P'(d:bc)(l:z1'):aT×bc:=(yF (H.Ic d.2 (bn l 0)),d)
def Qa(r:z1'×Int):aT:=if (decide (r.2≠0)||decide (r.1.getD 0 0>=0))=true then qE r.2 r.1 else if r.1.length=1 then P4 else P4++[32]++rT (r.1.drop 1)
def Qb(d:bc)(l:z1'):aT×bc:=(Qa (H.rC d.2 (bn l 0) (bn l 1)),d)
def Qc(r:z1'×z1'×Int):aT:=if r.2.2≠0 then qE r.2.2 [] else rT r.1++[32,47,32]++rT r.2.1
def Qd(d:bc)(l:z1'):aT×bc:=(Qc (H.sW d.2 (bn l 0)),d)
def ma(w:a8)(t:Int×Int×Int×Int):a8:=(w.1,w.2.1,w.2.2.1,w.2.2.2++[t])
def uU(d:bc)(l:z1'):aT×bc:=
 if cw (ma d.1.1 (bn l 0,bn l 1,bn l 2,bn l 3))≠0 then (Bu,d) else if (rI (ma d.1.1 (bn l 0,bn l 1,bn l 2,bn l 3)) (bn l 0)).2≠0 then (are,d)
 else (rS,((ma d.1.1 (bn l 0,bn l 1,bn l 2,bn l 3),d.1.2),d.2))
def uO(r:Int×Int):aT:=if r.2≠0 then qE r.2 [] else List.getD [[],[115,117,114,101,108,121],[110,101,118,101,114],[112,101,114,104,97,112,115]] r.1.toNat []
def Qe(d:bc)(l:z1'):aT×bc:=(uO (pL d.1.1 (bn l 0) (bn l 1) (bn l 2)),d)
def yG(d:bc)(l:z1'):aT×bc:=if bn l 0>=(d.1.2.1.length:Int) then (Bu,d) else ob d (d.1.1,d.1.2.1.set (bn l 0).toNat (d.1.2.1.getD (bn l 0).toNat 0+bn l 1),d.1.2.2)
def Qf(d:bc)(l:z1'):aT×bc:=ob d (d.1.1,d.1.2.1,d.1.2.2.1,d.1.2.2.2.1,d.1.2.2.2.2.1++[(bn l 0,bn l 1,bn l 2)],d.1.2.2.2.2.2)
def Qg(d:bc)(l:z1'):aT×bc:=ob d (d.1.1,d.1.2.1,d.1.2.2.1++[(bn l 0,bn l 1,bn l 2,bn l 3,l.drop 4)],d.1.2.2.2)
def Qh(d:bc)(l:z1'):aT×bc:=ob d (d.1.1,d.1.2.1,d.1.2.2.1,d.1.2.2.2.1++[(l.drop 5,(bn l 0,bn l 1),bn l 2,bn l 3,bn l 4)],d.1.2.2.2.2)
def yH(d:bc)(l:z1'):aT×bc:=if bn l 0>=(d.1.2.2.2.1.length:Int) then (Bu,d) else (rS,((d.1.1,d.1.2.1,d.1.2.2.1,d.1.2.2.2.1.eraseIdx (bn l 0).toNat,d.1.2.2.2.2),d.2))
def Qi(d:bc)(l:z1'):aT×bc:=(qE (uR d.1 (bn l 0)).2 (uR d.1 (bn l 0)).1,d)
def Qj(d:bc)(l:z1'):aT×bc:=(qE (Br d.1 (l.map (· - 1))).2 [(Br d.1 (l.map (· - 1))).1],d)
def Qk(d:bc)(_:z1'):aT×bc:=(qE (yC d.1 true).2 [(yC d.1 true).1],d)
def Ql(d:bc)(_:z1'):aT×bc:=(qE (wA d.1).2 [(wA d.1).1],d)
def yI:Nat->bc->z1'->aT×bc
 | 0=>P5 | 1=>P6 | 2=>P7 | 3=>P8 | 4=>P9 | 5=>P_ | 6=>P' | 7=>Qb | 8=>Qd | 9=>uU
 | 10=>Qe | 11=>yG | 12=>Qf | 13=>Qg | 14=>Qh | 15=>yH | 16=>Qi | 17=>Qj | 18=>Qk | _=>Ql
def kI:List (aT×Int×Bool):=[([108,101,110,100],5,false),([98,97,99,107],4,false),([118,111,105,100],1,false),([108,97,115,116,115],1,false),([102,101,101],1,false),([111,119,101,115],1,false),([104,101,108,100],1,false),([119,104,101,114,101],2,false),([109,105,115,115,105,110,103],1,false),([116,114,105,97,108],4,false),([102,105,116,115],3,false),([115,116,111,99,107],2,false),([99,111,109,101,115],3,false),([112,105,101,99,101],4,true),([119,105,115,104],5,true),([100,114,111,112],1,false),([99,97,110],1,false),([116,97,107,101,115],0,true),([109,111,115,116],0,false),([101,120,116,114,97],0,false)]
def oc(w:aT):List (aT×Int×Bool)->Nat->Option (Int×Bool×Nat)
 | [],_=>none
 | p::l,i=>if w=p.1 then some (p.2.1,p.2.2,i) else oc w l (i+1)
def EU(s:aT):Option (Nat×z1'):=
 match oc ((cH s).getD 0 []) kI 0 with
 | none=>none
 | some (k,m,j)=>if (decide (((cH s).length:Int) - 1<k)||decide (((cH s).length:Int) - 1 > k)&&!m)=true then none else (ET ((cH s).drop 1)).map λl=>(j,l)
def k8(d:bc)(s:aT):aT×bc:=match EU s with
 | none=>(arf,d)
 | some (j,l)=>yI j d l
def gS:bc->List aT->List aT×bc
 | d,[]=>([],d)
 | d,s::l=>((k8 d s).1::(gS (k8 d s).2 l).1,(gS (k8 d s).2 l).2)
theorem arh(d:bc)(a b:List aT):gS d (a++b)=((gS d a).1++(gS (gS d a).2 b).1,(gS (gS d a).2 b).2):=by
 induction a generalizing d with
 | nil=>rfl
 | cons s a aJ=>simp only[List.cons_append,gS,aJ]
theorem ari(d:bc)(a:List aT):(gS d a).1.length=a.length:=by
 induction a generalizing d with
 | nil=>rfl
 | cons s a aJ=>simp only[gS,List.length_cons,aJ]
def kn(d:bc):Int:=if (decide (iS d.1≠0)||decide (H.cw d.2≠0))=true then 120 else 0
def iw(d:bc):bc:=(d.1,(H.oa d.2 [] []).1)
abbrev aaa:bc:=((([],[],0,[]),[],[],[],[],0),[],[],[],[],0,0,0,0,0,0,0)
def EV(d:bc)(l:List aT):List aT×bc×Int:=
 if kn d≠0 then ([],aaa,kn d) else if l.length > 40 then ([],aaa,2) else ((gS (iw d) l).1,(gS (iw d) l).2,0)
structure dk(d:bc):Prop where
 fK:e7 d.1
 uV:iS d.1=0
 wF:H.cw d.2=0
 yJ:H.kk d.2.1<=60
theorem dk.val{d:bc}(h:dk d):l9 d.1:=Bh h.fK h.uV
theorem dk.arj{d:bc}(h:dk d):kn d=0:=by simp[kn,h.uV,h.wF]
theorem dk.aab{d:bc}(h:dk d):H.Z9 d.2:=H.Jg h.wF
theorem dk.gI{d:bc}(h:dk d):H.gI d.2:=by
 have:=h.aab;exact⟨⟨by have:=this.eb;omega,by have:=this.ee;omega,by have:=this.jl;omega,by have:=this.n4;omega⟩,λ_=>h.yJ⟩
theorem dk.ix{d:bc}(h:dk d):H.ix d.2:=h.gI.fK
structure eD(k:Nat)(l:z1'):Prop where
 Qm:k<=l.length
 Jh:l.length<=10000
 num:∀ n∈l,0<=n/\n<=999999
theorem eD.bn{k:Nat}{l:z1'}(h:eD k l)(i:Nat):0<=bn l i/\bn l i<=999999:=by
 rcases Nat.lt_or_ge i l.length with G | G
 ·have:=h.num l[i] (by simp);grind
 ·grind
end Go.Fer.ar
namespace Go.Fer.ar
open A (V)
open H (gb)
abbrev Ji:aK:=⟨.int .i64,.str,λ_=>True,rR⟩
abbrev EW:aK:=⟨.ay wD .str,.str,λx=>x.1.length<=60000/\(∀ w∈x.1,w.length<=21)/\x.2.length=1,λx=>Go.Lib.join x.1 x.2⟩
theorem aac:∀ (l:List aT) (s:aT) (n:Nat),(∀ w∈l,w.length<=n)->(Go.Lib.join l s).length<=l.length*(n+s.length)
 | [],s,n,h=>by simp[Go.Lib.join_nil]
 | x::r,s,n,h=>by
  rw[Go.Lib.join_cons];have aH:∀ (r:List aT),(∀ w∈r,w.length<=n)->(Go.Lib.joinTail s r).length<=r.length*(n+s.length):=by
   intro r;induction r with
   | nil=>intro _;simp[Go.Lib.joinTail]
   | cons y r aJ=>
    intro h;have E:=aJ λw hw=>h w (by grind);have U:=h y (by simp);simp only[Go.Lib.joinTail,List.map_cons,List.flatten_cons,List.length_append,List.length_cons,Nat.succ_mul]at E ⊢;omega
  have E:=aH r λw hw=>h w (by grind);have U:=h x (by simp);simp only[List.length_append,List.length_cons,Nat.succ_mul];omega
theorem Qn(l:z1'):(rT l).length<=l.length*22+4:=by
 unfold rT;split
 ·simp
 ·have:=aac (l.map rR) [32] 21 λw hw=>by
   obtain⟨n,_,rfl⟩:=List.mem_map.1 hw;exact P3 n
  grind
abbrev yK:aK:=⟨fE,.str,λx=>x.length<=60000,rT⟩
theorem ark(x):A.le (Ys Ji.sh EW.sh x) (yK.sh x):=A.bq λh=>by
 change x.length<=60000 at h;unfold Ys;show _=A.pure (rT x);unfold rT;by_cases ah:x=[]
 ·grind
 ·have aj:x.length≠0:=by grind
  rw[if_neg (by grind),if_neg ah];rw[A.f_ x (λi (o:List aT)=>(x,(x.length:Int),(i:Int),o,())) (λn o=>.next (o++[rR n])) (λo=>.next (o,())) (λi o=>o.length=i) [] ?_ rfl ?_ ?_]
  ·rw[dP,uj,List.nil_append,A.aF,A.bY];rw[show EW.sh (x.map rR,[32])=A.pure (Go.Lib.join (x.map rR) [32]) from A.bR ⟨by grind,λw hw=>by
    obtain⟨n,_,rfl⟩:=List.mem_map.1 hw;exact P3 n,rfl⟩ _,A.aF]
  ·rfl
  ·intro i G o af;have hw:=bz (n:=(i:Int)+1) (by omega) (by omega);refine⟨?_,λbe db=>?_⟩
   ·simp only[bV,cU G,if_true,df G,cM G,A.bp,ch,hw];rw[show Ji.sh x[i]=A.pure (rR x[i]) from rfl,A.aF,A.bt (gb (by grind))];rfl
   ·grind
  simp
abbrev qF:aK:=⟨.ay (.int .i64) fE,.str,λx=>x.2.length<=60000,λx=>qE x.1 x.2⟩
theorem arl(x):A.le (Yr yK.sh x) (qF.sh x):=A.bq λh=>by
 change x.2.length<=60000 at h;unfold Yr;show _=A.pure (qE x.1 x.2);unfold qE;rw[show yK.sh x.2=A.pure (rT x.2) from A.bR h _,A.aF];grind
abbrev yL:aK:=⟨.ay mD (.int .i64),.str,λ_=>True,yF⟩
theorem arn(x):A.le (Yq qF.sh x) (yL.sh x):=A.bq λ_=>by
 unfold Yq;rw[show qF.sh (x.2,[x.1.1,x.1.2])=A.pure (yF x) from A.bR (show 2<=60000 by decide) _,A.aF]
theorem yM{e:Int}{l:z1'}(h:l.length<=60000):qF.sh (e,l)=A.pure (qE e l):=A.bR h _
theorem Qo{l:z1'}(h:l.length<=60000):yK.sh l=A.pure (rT l):=A.bR h _
theorem Jj(x:(Int×Int)×Int):yL.sh x=A.pure (yF x):=rfl
def fw(k:Nat)(g:bc->z1'->aT×bc)(x:z1'×bc×Unit):A (aT×bc×Unit):=A.dR (dk x.2.1/\eD k x.1) ((g x.2.1 x.1).1,(g x.2.1 x.1).2,())
theorem nu:Int.toNat 0=0:=rfl
theorem nv:Int.toNat 1=1:=rfl
theorem nw:Int.toNat 2=2:=rfl
theorem nx:Int.toNat 3=3:=rfl
theorem ny:Int.toNat 4=4:=rfl
theorem nz:Int.toNat 5=5:=rfl
theorem nA{ak:Type}{k:Nat}{l:z1'}(h:eD k l)(m:A ak)(i:Int)(G:0<=i/\i<(k:Int)):A.ab (0<=i/\i<Int.ofNat l.length) m=m:=
 A.bt ⟨G.1,by have:=h.Qm;grind⟩ m
def Bv(x:List H.a_×z1'×bc×Unit):A (aT×bc×Unit):=A.dR (dk x.2.2.1/\x.1.length<2 ^ 63/\x.2.1.length<2 ^ 63) ((te x.2.2.1 x.1 x.2.1).1,(te x.2.2.1 x.1 x.2.1).2,())
theorem aro(x):A.le (Ym H.Bt.sh x) (Bv x):=A.bq λh=>by
 obtain⟨m,v,d,⟨⟩⟩:=x;obtain⟨au,E,U⟩:=h;unfold Ym;rw[A.bp,show H.Bt.sh (d.2,m,v)=A.pure (H.oa d.2 m v) from A.bR ⟨au.ix,E,U⟩ _,A.aF];unfold te;by_cases e:(H.oa d.2 m v).2=0<;>simp[e]
theorem Qp{d:bc}(au:dk d)(m:List H.a_)(v:z1')(E:m.length<2 ^ 63)(U:v.length<2 ^ 63):Bv (m,v,d,())=A.pure ((te d m v).1,(te d m v).2,()):=A.bR ⟨au,E,U⟩ _
theorem arp(x):A.le (Yl Bv x) (fw 5 P5 x):=A.bq λh=>by
 obtain⟨l,d,⟨⟩⟩:=x;obtain⟨au,aj⟩:dk d/\eD _ l:=h;unfold Yl;simp (disch:=decide) only [nA aj,A.bp,nu,nv,nw,nx,ny,nz];rw[Qp au _ _ (by simp) (by simp),A.aF];rfl
theorem arq(x):A.le (Yn Bv x) (fw 4 P6 x):=A.bq λh=>by
 obtain⟨l,d,⟨⟩⟩:=x;obtain⟨au,aj⟩:dk d/\eD _ l:=h;unfold Yn;simp (disch:=decide) only [nA aj,A.bp,nu,nv,nw,nx,ny,nz];rw[Qp au _ _ (by simp) (by simp),A.aF];rfl
theorem OI(x):A.le (Yo Bv x) (fw 1 P7 x):=A.bq λh=>by
 obtain⟨l,d,⟨⟩⟩:=x;obtain⟨au,aj⟩:dk d/\eD _ l:=h;unfold Yo;rw[Qp au _ _ (by simp) (show l.length<2 ^ 63 by have:=aj.Jh;omega),A.aF];rfl
theorem ars(x):A.le (Yp H.H_.sh yL.sh x) (fw 1 P8 x):=A.bq λh=>by
 obtain⟨l,d,⟨⟩⟩:=x;obtain⟨au,aj⟩:dk d/\eD _ l:=h;unfold Yp;simp (disch:=decide) only [nA aj,A.bp,nu,nv,nw,nx,ny,nz];rw[show H.H_.sh (d.2,bn l 0)=A.pure _ from A.bR au.gI _];simp only[A.iT,A.fB,A.bp,Jj];rfl
theorem art(x):A.le (Yt H.AV.sh yL.sh x) (fw 1 P9 x):=A.bq λh=>by
 obtain⟨l,d,⟨⟩⟩:=x;obtain⟨au,aj⟩:dk d/\eD _ l:=h;unfold Yt;simp (disch:=decide) only [nA aj,A.bp,nu,nv,nw,nx,ny,nz];rw[show H.AV.sh (d.2,bn l 0)=A.pure _ from A.bR au.gI _];simp only[A.iT,A.fB,A.bp,Jj];rfl
theorem aru(x):A.le (Yu H.Ib.sh yL.sh x) (fw 1 P_ x):=A.bq λh=>by
 obtain⟨l,d,⟨⟩⟩:=x;obtain⟨au,aj⟩:dk d/\eD _ l:=h;unfold Yu;simp (disch:=decide) only [nA aj,A.bp,nu,nv,nw,nx,ny,nz];rw[show H.Ib.sh (d.2,bn l 0)=A.pure _ from A.bR au.gI _];simp only[A.iT,A.fB,A.bp,Jj];rfl
theorem arv(x):A.le (Yv H.Ie.sh yL.sh x) (fw 1 P' x):=A.bq λh=>by
 obtain⟨l,d,⟨⟩⟩:=x;obtain⟨au,aj⟩:dk d/\eD _ l:=h;unfold Yv;simp (disch:=decide) only [nA aj,A.bp,nu,nv,nw,nx,ny,nz];rw[show H.Ie.sh (d.2,bn l 0)=A.pure _ from A.bR au.gI _];simp only[A.iT,A.fB,A.bp,Jj];rfl
theorem Qq{a b:Int}:(eh a b).length=(b+1 - a).toNat:=by simp[eh];omega
theorem arw(c:H.aZ)(u t:Int):(H.rC c u t).1.length<=101:=Nat.le_trans (List.length_filter_le ..) (by rw[Qq];decide)
theorem arx{c:H.aZ}{u t:Int}(h:(H.rC c u t).2=0):0<(H.rC c u t).1.length:=by
 unfold H.rC at h ⊢;rcases H.A1 c (H.v7 u t) with⟨E,_⟩ | ⟨E,U,ag,a1⟩
 ·omega
 ·have aB:=H.oU U;have cL:(0<=u/\u<=9)/\0<=t/\t<=9999:=by
   unfold H.v7 at ag;rw[Bool.and_eq_true,H.oR,H.oR]at ag;exact ag
  have eN:H.cP c≠[]:=by
   intro he;unfold H.dM at E;grind
  obtain⟨w,T,aU⟩:=List.exists_cons_of_ne_nil eN;have hw:H.iQ c w=true:=H.wa (by grind);have al:=H.Yc aB hw cL.1 t;have W:-1<=H.lD c w u t/\H.lD c w u t<=99:=by
   rcases H.O1 c w u t with h | ⟨s,aD,h⟩
   ·omega
   ·rw[h];obtain⟨e,he,rfl⟩:=List.mem_map.1 aD;have:=H.OY aB (List.mem_filter.1 he).1;omega
  refine List.length_pos_of_mem (a:=H.lD c w u t) (List.mem_filter.2 ⟨sI.2 W,?_⟩);rw[List.contains_iff_mem];unfold H.OC;grind
theorem ary(x):A.le (Yw H.If.sh qF.sh yK.sh x) (fw 2 Qb x):=A.bq λh=>by
 obtain⟨l,d,⟨⟩⟩:=x;obtain⟨au,aj⟩:dk d/\eD _ l:=h;unfold Yw;simp (disch:=decide) only [nA aj,A.bp,nu,nv,nw,nx,ny,nz];have E:=arw d.2 (bn l 0) (bn l 1);have U:=arx (c:=d.2) (u:=bn l 0) (t:=bn l 1);have hc:H.If.sh (d.2,bn l 0,bn l 1)=A.pure (H.rC d.2 (bn l 0) (bn l 1)):=A.bR au.gI _;simp only[hc];show _=A.pure (Qa (H.rC d.2 (bn l 0) (bn l 1)),d,());generalize H.rC d.2 (bn l 0) (bn l 1)=r at *
 simp only[A.iT,A.fB,A.bp];rw[A.bt (λW=>⟨⟨W,trivial⟩,⟨by decide,by grind⟩,trivial⟩),yM (by omega),A.aF];unfold Qa;by_cases e:(decide (r.2≠0)||decide (r.1.getD 0 0>=0))=true
 ·grind
 ·rw[if_neg e,if_neg e];have bG:r.2=0:=by grind
  have an:=U bG;by_cases aw:r.1.length=1
  ·grind
  ·rw[if_neg (by grind),if_neg aw];rw[A.bt ⟨by decide,by grind,Int.le_refl _⟩];have pD:List.take (Int.ofNat r.1.length).toNat r.1=r.1:=by simp
   rw[pD];rw[Qo (by grind),A.aF];have kR:=Qn (r.1.drop 1);rw[A.bt (gb (by grind))];rfl
theorem arz(c:H.aZ)(t:Int):(H.sW c t).1.length<=10/\(H.sW c t).2.1.length<=10:=by
 unfold H.sW;split
 ·simp
 ·exact⟨Nat.le_trans (List.length_filter_le ..) (by rw[Qq];decide),Nat.le_trans (List.length_filter_le ..) (by rw[Qq];decide)⟩
theorem arA(x):A.le (Yx H.Ig.sh qF.sh yK.sh x) (fw 1 Qd x):=A.bq λh=>by
 obtain⟨l,d,⟨⟩⟩:=x;obtain⟨au,aj⟩:dk d/\eD _ l:=h;unfold Yx;simp (disch:=decide) only [nA aj,A.bp,nu,nv,nw,nx,ny,nz];have E:=arz d.2 (bn l 0);have hc:H.Ig.sh (d.2,bn l 0)=A.pure (H.sW d.2 (bn l 0)):=A.bR au.gI _;simp only[hc];show _=A.pure (Qc (H.sW d.2 (bn l 0)),d,());generalize H.sW d.2 (bn l 0)=r at *
 simp only[A.iT,A.fB,A.bp];rw[yM (by simp),Qo (by omega),Qo (by omega)];have e1:=Qn r.1;have og:=Qn r.2.1;unfold Qc;by_cases e:r.2.2=0
 ·simp only[A.aF];rw[A.bt (gb (by grind)),A.bt (gb (by grind))];simp[e]
 ·simp[e]
theorem arB(w:a8)(i m k:Int):0<=uI w i m k/\uI w i m k<4:=by
 unfold uI Iq;grind
theorem arC(x):A.le (Yz uJ.sh qF.sh x) (fw 3 Qe x):=A.bq λh=>by
 obtain⟨l,d,⟨⟩⟩:=x;obtain⟨au,aj⟩:dk d/\eD _ l:=h;unfold Yz;simp (disch:=decide) only [nA aj,A.bp,nu,nv,nw,nx,ny,nz];have hc:uJ.sh (d.1.1,bn l 0,bn l 1,bn l 2)=A.pure (pL d.1.1 (bn l 0) (bn l 1) (bn l 2)):=A.bR au.fK.1 _;simp only[hc];show _=A.pure (uO (pL d.1.1 (bn l 0) (bn l 1) (bn l 2)),d,());have E:0<=(pL d.1.1 (bn l 0) (bn l 1) (bn l 2)).1/\(pL d.1.1 (bn l 0) (bn l 1) (bn l 2)).1<4:=by
  have:=arB d.1.1 (bn l 0) (bn l 1) (bn l 2);unfold pL;grind
 generalize pL d.1.1 (bn l 0) (bn l 1) (bn l 2)=r at *
 simp only[A.iT,A.fB,A.bp];rw[yM (by simp),A.bt ⟨E.1,E.2⟩];unfold uO;by_cases e:r.2=0<;>simp[e]
theorem arD{s:bF}(h:l9 s)(w:Int):(uR s w).1.length<=2000:=by
 have:=h.IM;unfold uR Z0;grind
theorem arE(x):A.le (YH I4.sh qF.sh x) (fw 1 Qi x):=A.bq λh=>by
 obtain⟨l,d,⟨⟩⟩:=x;obtain⟨au,aj⟩:dk d/\eD _ l:=h;unfold YH;simp (disch:=decide) only [nA aj,A.bp,nu,nv,nw,nx,ny,nz];rw[show I4.sh (d.1,bn l 0)=A.pure (uR d.1 (bn l 0)) from A.bR au.fK _];have:=arD au.val (bn l 0);simp only[A.iT,A.fB,A.bp];rw[yM (show (uR d.1 (bn l 0)).1.length<=60000 by omega),A.aF];rfl
def Jk(x:z1'×Unit):A (z1'×Unit):=A.dR (x.1.length<=3000000) x
theorem arF(x):A.le (YI I5.sh Jk qF.sh x) (fw 0 Qj x):=A.bq λh=>by
 obtain⟨l,d,⟨⟩⟩:=x;obtain⟨au,aj⟩:dk d/\eD _ l:=h;have hm:=aj.Jh;change l.length<=10000 at hm;unfold YI;rw[show Jk (l,())=A.pure (l,()) from A.bR (by grind) _,A.aF];rw[A.f_ l (λi (o:z1')=>((l.length:Int),(i:Int),o++l.drop i,d,())) (λn o=>.next (o++[n - 1])) (λo=>.next (o,d,())) (λi o=>o.length=i) [] ?_ rfl ?_ ?_]
 ·rw[dP,uj,List.nil_append,A.aF,A.bY,A.bp];rw[show I5.sh (d.1,l.map (· - 1))=A.pure (Br d.1 (l.map (· - 1))) from A.bR ⟨au.fK,by grind⟩ _,A.aF,yM (by simp),A.aF];rfl
 ·simp
 ·intro i G o af;have hw:=bz (n:=(i:Int)+1) (by omega) (by omega);have aA:=aj.num l[i] (by simp);have gW:=bz (n:=l[i] - 1) (by omega) (by omega);subst af;have cb:o.length<(o++l.drop o.length).length:=by grind
  have aB:(o++l.drop o.length)[o.length]=l[o.length]:=by simp
  have aD:(o++l.drop o.length).set o.length (l[o.length] - 1)=o++[l[o.length] - 1]++l.drop (o.length+1):=by
   rw[List.set_append_right _ _ (Nat.le_refl _),Nat.sub_self,List.drop_eq_getElem_cons G,List.set_cons_zero,List.append_assoc];rfl
  refine⟨?_,λbe db=>?_⟩
  ·simp only[bV,cU G,if_true,cM cb,A.bp,ch,hw];rw[show (o++l.drop o.length).getD (Int.toNat (o.length:Int)) 0=l[o.length] by grind,gW,Int.toNat_natCast,aD];rfl
  ·grind
 simp
theorem arG(x):A.le (YJ I2.sh qF.sh x) (fw 0 Qk x):=A.bq λh=>by
 obtain⟨l,d,⟨⟩⟩:=x;obtain⟨au,aj⟩:dk d/\eD _ l:=h;unfold YJ;rw[A.bp,show I2.sh d.1=A.pure (yC d.1 true) from A.bR au.fK _,A.aF,yM (by simp),A.aF];rfl
theorem arH(x):A.le (YK Bq.sh qF.sh x) (fw 0 Ql x):=A.bq λh=>by
 obtain⟨l,d,⟨⟩⟩:=x;obtain⟨au,aj⟩:dk d/\eD _ l:=h;unfold YK;rw[A.bp,show Bq.sh d.1=A.pure (wA d.1) from A.bR au.fK _,A.aF,yM (by simp),A.aF];rfl
def Qr{ak:Type}(x:List ak×Unit):A (List ak×Unit):=A.bind (A.any λ(b:Bool)=>b=true->x.1=[]) λ(y:Bool)=>if y=true then A.pure ([],()) else A.ab (bP (Add.add 0 (List.length x.1))) (A.pure ([]++x.1,()))
abbrev fR(t:ad):aK:=⟨.slice t,.slice t,λx=>x.length<=3000000,λx=>x⟩
def qG{ak:Type}(x:List ak×Unit):A (List ak×Unit):=A.dR (x.1.length<=3000000) x
theorem wG{ak:Type}(x:List ak×Unit):A.le (Qr x) (qG x):=A.sG λh=>by
 unfold Qr;rw[A.gg];refine⟨⟨false,by simp⟩,λb W=>?_⟩;change b=true->x.1=[]at W;obtain⟨l,⟨⟩⟩:=x;cases b with
 | true=>rw[show l=[] from W rfl];exact A.ea.2 rfl
 | false=>
  simp only[Bool.false_eq_true,if_false];exact A.kL.2 ⟨by change l.length<=3000000 at h;simp only[hX,bP];omega,A.ea.2 (by simp)⟩
theorem arI(x:z1'×Unit):A.le (Qr x) (Jk x):=wG x
def aad{ak:Type}(z:ak)(x:Int×Int×List ak×Unit):A ((Nat×Nat)×List ak×Unit):=
 A.ab (0<=x.1/\x.1<=x.2.1/\x.2.1<=Int.ofNat (List.length x.2.2.1)/\Int.ofNat (List.length x.2.2.1)<=Int.ofNat (List.length x.2.2.1)) (if decide
 (x.1=x.2.1)=true then A.pure ((0,List.length x.2.2.1),x.2.2.1,()) else A.ab ((0:Int)<=0/\0<=x.1/\x.1<=Int.ofNat (List.length x.2.2.1))
 (A.ab (0<=x.2.1/\x.2.1<=Int.ofNat (List.length x.2.2.1)/\Int.ofNat (List.length x.2.2.1)<=Int.ofNat (List.length x.2.2.1)) (A.ab (Add.add
 (Int.toNat x.1) (List.length (List.drop (Int.toNat x.2.1) (List.take (Int.toNat (Int.ofNat (List.length x.2.2.1))) x.2.2.1)))<=List.length x.2.2.1)
 (A.ab (0<=Int.ofNat (Add.add (Int.toNat x.1) (List.length (List.drop (Int.toNat x.2.1) (List.take (Int.toNat (Int.ofNat (List.length x.2.2.1)))
 x.2.2.1))) - Int.toNat 0)/\Int.ofNat (Add.add (Int.toNat x.1) (List.length (List.drop (Int.toNat x.2.1) (List.take (Int.toNat (Int.ofNat (List.length
 x.2.2.1))) x.2.2.1))) - Int.toNat 0)<=Int.ofNat (List.length x.2.2.1)/\Int.ofNat (List.length x.2.2.1)<=Int.ofNat (List.length (List.take
 (Int.toNat x.1) x.2.2.1++List.drop (Int.toNat x.2.1) (List.take (Int.toNat (Int.ofNat (List.length x.2.2.1))) x.2.2.1)++List.drop (Add.add
 (Int.toNat x.1) (List.length (List.drop (Int.toNat x.2.1) (List.take (Int.toNat (Int.ofNat (List.length x.2.2.1))) x.2.2.1)))) x.2.2.1) - Int.toNat
 0)) (A.ab True (A.pure ((Int.toNat 0,Add.add (Int.toNat x.1) (List.length (List.drop (Int.toNat x.2.1) (List.take (Int.toNat (Int.ofNat (List.length
 x.2.2.1))) x.2.2.1)))),List.take (Add.add (Int.toNat 0) (Int.toNat (Int.ofNat (Add.add (Int.toNat x.1) (List.length (List.drop (Int.toNat x.2.1)
 (List.take (Int.toNat (Int.ofNat (List.length x.2.2.1))) x.2.2.1))) - Int.toNat 0)))) (List.take (Int.toNat x.1) x.2.2.1++List.drop (Int.toNat
 x.2.1) (List.take (Int.toNat (Int.ofNat (List.length x.2.2.1))) x.2.2.1)++List.drop (Add.add (Int.toNat x.1) (List.length (List.drop (Int.toNat
 x.2.1) (List.take (Int.toNat (Int.ofNat (List.length x.2.2.1))) x.2.2.1)))) x.2.2.1)++List.replicate (Add.add (Int.toNat 0) (Int.toNat (Int.ofNat
 (List.length x.2.2.1))) - Add.add (Int.toNat 0) (Int.toNat (Int.ofNat (Add.add (Int.toNat x.1) (List.length (List.drop (Int.toNat x.2.1) (List.take
 (Int.toNat (Int.ofNat (List.length x.2.2.1))) x.2.2.1))) - Int.toNat 0)))) z++List.drop (Add.add (Add.add (Int.toNat 0) (Int.toNat (Int.ofNat
 (Add.add (Int.toNat x.1) (List.length (List.drop (Int.toNat x.2.1) (List.take (Int.toNat (Int.ofNat (List.length x.2.2.1))) x.2.2.1))) - Int.toNat
 0)))) (List.length (List.replicate (Add.add (Int.toNat 0) (Int.toNat (Int.ofNat (List.length x.2.2.1))) - Add.add (Int.toNat 0) (Int.toNat (Int.ofNat
 (Add.add (Int.toNat x.1) (List.length (List.drop (Int.toNat x.2.1) (List.take (Int.toNat (Int.ofNat (List.length x.2.2.1))) x.2.2.1))) - Int.toNat
 0)))) z))) (List.take (Int.toNat x.1) x.2.2.1++List.drop (Int.toNat x.2.1) (List.take (Int.toNat (Int.ofNat (List.length x.2.2.1))) x.2.2.1)++
 List.drop (Add.add (Int.toNat x.1) (List.length (List.drop (Int.toNat x.2.1) (List.take (Int.toNat (Int.ofNat (List.length x.2.2.1))) x.2.2.1))))
 x.2.2.1),())))))))
def Jl{ak:Type}(z:ak)(x:Int×Int×List ak×Unit):A ((Nat×Nat)×List ak×Unit):=A.dR (0<=x.1/\x.2.1=x.1+1/\x.1<(x.2.2.1.length:Int)/\x.2.2.1.length<=3000000) ((0,x.2.2.1.length - 1),x.2.2.1.eraseIdx x.1.toNat++[z],())
theorem arJ{ak:Type}(z:ak)(x):A.le (aad z x) (Jl z x):=A.bq λh=>by
 obtain⟨i,j,l,⟨⟩⟩:=x;obtain⟨aX,E,U,ag⟩:0<=i/\j=i+1/\i<(l.length:Int)/\l.length<=3000000:=h;subst E;obtain⟨n,rfl⟩:∃ n:Nat,i=n:=⟨i.toNat,by omega⟩
 have aA:n<l.length:=by omega
 have aw:((n:Int)+1).toNat=n+1:=by omega
 unfold aad;simp only[bV,Int.toNat_natCast,aw,List.take_length,hX,Int.toNat_zero,Nat.sub_zero,Nat.zero_add,List.length_drop];have aN:n+(l.length - (n+1))=l.length - 1:=by omega
 have cE:(l.take n++l.drop (n+1)++l.drop (l.length - 1))=l.eraseIdx n++l.drop (l.length - 1):=by rw[List.eraseIdx_eq_take_drop_succ]
 have ed:(l.eraseIdx n).length=l.length - 1:=by rw[List.length_eraseIdx_of_lt aA]
 have dY:l.length - (l.length - 1)=1:=by omega
 rw[A.bt (by omega),if_neg (by simp;omega),A.bt (by omega),A.bt (by omega),A.bt (by omega)];rw[aN,cE,A.bt (by simp[ed]),A.bp];show _=A.pure ((0,l.length - 1),l.eraseIdx n++[z],());have la:(l.eraseIdx n++l.drop (l.length - 1)).take (l.length - 1)=l.eraseIdx n:=by rw[List.take_append_of_le_length (by omega),List.take_of_length_le (by omega)]
 have tC:(l.eraseIdx n++l.drop (l.length - 1)).drop l.length=[]:=List.drop_eq_nil_of_le (by simp[ed]);simp only[dY,la,List.replicate_one,List.length_cons,List.length_nil,Nat.zero_add];rw[show l.length - 1+1=l.length by omega,tC,List.append_nil]
def wH(x:bF×Unit):A wc:=A.dR (yD x.1) (iP x.1)
theorem Jm{x:z1'}(h:x.length<=2000000):H.oS.sh x=A.pure x:=A.bR (by show List.length x<=3000000;omega) _
theorem yN{t:ad}{x:(ad.slice t).ai}(h:List.length x<=2000000):(fR t).sh x=A.pure x:=A.bR (by show List.length x<=3000000;omega) _
theorem aae{gC:Type}{s:bF}(h:yD s)(fin:bF->A gC):Ij (fR kH).sh (fR k3).sh (fR jV).sh qG H.oS.sh (fR nm).sh (fR mG).sh (fR pO).sh s fin=fin s:=by
 obtain⟨⟨cn,c7,eW,AR⟩,U,ag,a1,bL,dm,fS⟩:=h;obtain⟨⟨sp,mk,cut,aV⟩,st,j0,k9,rU,iZ⟩:=s;change sp.length<=2000000 at cn;change mk.length<=2000000 at c7;change aV.length<=2000000 at eW;change ∀ m∈mk,m.length<=2000000/\∀ s∈m,s.2.1.length<=2000000 at AR;change st.length<=2000000 at U;change j0.length<=2000000 at ag;change k9.length<=2000000 at a1;change rU.length<=2000000 at bL;change ∀ p∈j0,p.2.2.2.2.length<=2000000 at dm;change ∀ p∈k9,p.1.length<=2000000 at fS;have aP:(fR kH).sh sp=A.pure sp:=yN cn;have aR:(fR k3).sh mk=A.pure mk:=yN c7;have bO:(fR jV).sh aV=A.pure aV:=yN eW;have gx:H.oS.sh st=A.pure st:=Jm U;have ox:(fR nm).sh j0=A.pure j0:=yN ag;have vt:(fR mG).sh k9=A.pure k9:=yN a1;have Dv:(fR pO).sh rU=A.pure rU:=yN bL;unfold Ij;simp only[aP,aR,bO,A.iT,A.fB,A.bp];rw[A.dt mk (λi (_:Unit)=>((mk.length:Int),(i:Int),cut,st,j0,k9,rU,iZ,0,0,sp,mk,aV,())) (λp b=>.next b) (λ_=>.next (cut,st,j0,k9,rU,iZ,0,0,sp,mk,aV,())) () ?_ ?_ ?_]
 ·rw[dP,A.aF,A.bY];simp only[gx,ox,vt,Dv,A.iT,A.fB,A.bp];rw[A.dt j0 (λi (_:Unit)=>((j0.length:Int),(i:Int),cut,iZ,0,0,sp,mk,aV,st,j0,k9,rU,())) (λp b=>.next b) (λ_=>.next (cut,iZ,0,0,sp,mk,aV,st,j0,k9,rU,())) () ?_ ?_ ?_]
  ·rw[dP,A.aF,A.bY];rw[A.dt k9 (λi (_:Unit)=>((k9.length:Int),(i:Int),cut,iZ,0,0,sp,mk,aV,st,j0,k9,rU,())) (λp b=>.next b) (λ_=>.next (cut,iZ,0,0,sp,mk,aV,st,j0,k9,rU,())) () ?_ ?_ ?_]
   ·rw[dP,A.aF,A.bY]
   ·rfl
   ·intro i G b;have hw:=bz (n:=(i:Int)+1) (by omega) (by omega);have hc:H.oS.sh k9[i].1=A.pure k9[i].1:=Jm (fS _ (List.getElem_mem G));have mS:k9.set i (k9[i].1,k9[i].2)=k9:=List.set_getElem_self G;simp only[bV,cU G,if_true,df G,cM G,A.bp,ch,hw];simp only[hc,A.iT,A.fB,A.bp,Int.toNat_natCast,mS];rfl
   ·simp
  ·rfl
  ·intro i G b;have hw:=bz (n:=(i:Int)+1) (by omega) (by omega);have hc:H.oS.sh j0[i].2.2.2.2=A.pure j0[i].2.2.2.2:=Jm (dm _ (List.getElem_mem G));have mS:j0.set i (j0[i].1,j0[i].2.1,j0[i].2.2.1,j0[i].2.2.2.1,j0[i].2.2.2.2)=j0:=List.set_getElem_self G;simp only[bV,cU G,if_true,df G,cM G,A.bp,ch,hw];simp only[hc,A.iT,A.fB,A.bp,Int.toNat_natCast,mS];rfl
  ·simp
 ·rfl
 ·intro i G b;have hw:=bz (n:=(i:Int)+1) (by omega) (by omega);obtain⟨hm,aD⟩:=AR _ (List.getElem_mem G);have hc:qG (mk[i],())=A.pure (mk[i],()):=A.bR (by show mk[i].length<=3000000;omega) _;have arK:mk.set i mk[i]=mk:=List.set_getElem_self G;simp only[bV,cU G,if_true,df G,cM G,A.bp,ch,hc,A.aF];simp only[Int.toNat_natCast];rw[A.dt mk[i] (λj (_:Unit)=>(i,(mk.length:Int),(i:Int),(mk[i].length:Int),(j:Int),cut,st,j0,k9,rU,iZ,0,0,sp,(mk,i),aV,mk[i],())) (λp b=>.next b) (λ_=>.next ((mk.length:Int),(i:Int),cut,st,j0,k9,rU,iZ,0,0,sp,(mk,i),aV,mk[i],())) () ?_ ?_ ?_]
  ·rw[dP,A.aF,A.bY];simp only[hw,arK];rfl
  ·rfl
  ·intro j aE b;have hw:=bz (n:=(j:Int)+1) (by omega) (by omega);have hc:H.oS.sh mk[i][j].2.1=A.pure mk[i][j].2.1:=Jm (aD _ (List.getElem_mem aE));have mS:mk[i].set j (mk[i][j].1,mk[i][j].2.1,mk[i][j].2.2)=mk[i]:=List.set_getElem_self aE;simp only[Prod.c_,Prod.fs,Prod.gO,bV,cU aE,if_true,df aE,cM aE,A.bp,ch,hw];simp only[hc,A.iT,A.fB,A.bp,Int.toNat_natCast,mS];rfl
  ·simp
 ·simp
theorem arL(x):A.le (anX (fR kH).sh (fR k3).sh (fR jV).sh qG H.oS.sh (fR nm).sh (fR mG).sh (fR pO).sh x) (wH x):=A.bq λh=>aae h _
abbrev Jn:aK:=⟨k6,k6,yD,λs=>s⟩
theorem arM(x):A.le (anW (fR kH).sh (fR k3).sh (fR jV).sh qG H.oS.sh (fR nm).sh (fR mG).sh (fR pO).sh x) (Jn.sh x):=A.bq λh=>aae h _
def wI(x:bF×bc×Unit):A (aT×bc×Unit):=A.dR (dk x.2.1/\e7 x.1) ((ob x.2.1 x.1).1,(ob x.2.1 x.1).2,())
theorem arN(x):A.le (YB pQ.sh x) (wI x):=A.bq λh=>by
 obtain⟨s,d,⟨⟩⟩:=x;obtain⟨au,aD⟩:dk d/\e7 s:=h;unfold YB;rw[show pQ.sh s=A.pure (iS s) from A.bR aD _,A.aF];show _=A.pure ((ob d s).1,(ob d s).2,());unfold ob;by_cases e:iS s=0<;>simp[e]
theorem arO{d:bc}(au:dk d){s:bF}(aD:e7 s):wI (s,d,())=A.pure ((ob d s).1,(ob d s).2,()):=A.bR ⟨au,aD⟩ _
theorem Jo{d:bc}(au:dk d)(s:bF)(aD:e7 s):A.bind (wI (s,d,())) (λy=>A.pure (y.1,y.2.1,()))=A.pure ((ob d s).1,(ob d s).2,()):=by rw[arO au aD,A.aF]
theorem dk.copy{d:bc}(h:dk d):yD d.1:=aqL h.val
theorem EX{d:bc}(h:dk d):wH (d.1,())=A.pure (iP d.1):=A.bR h.copy _
theorem arP(x):A.le (Yy s8.sh wH hr.sh x) (fw 4 uU x):=A.bq λh=>by
 obtain⟨l,d,⟨⟩⟩:=x;obtain⟨au,aj⟩:dk d/\eD _ l:=h;have hc:=au.copy;have aD:gf (ma d.1.1 (bn l 0,bn l 1,bn l 2,bn l 3)):=⟨au.fK.1.1,au.fK.1.2.1,by have:=hc.1.2.2.1;simp only[ma,List.length_append,List.length_cons,List.length_nil];omega,au.fK.1.2.2.2⟩
 unfold Yy;rw[A.bp,EX au,A.aF];simp (disch:=decide) only [nA aj,A.bp,nu,nv,nw,nx,ny,nz];rw[A.bt (by have:=hc.1.2.2.1;simp only[hX,bP,iP];omega)];show A.bind (hr.sh (ma d.1.1 (bn l 0,bn l 1,bn l 2,bn l 3))) _=A.pure ((uU d l).1,(uU d l).2,());rw[show hr.sh (ma d.1.1 (bn l 0,bn l 1,bn l 2,bn l 3))=A.pure (cw (ma d.1.1 (bn l 0,bn l 1,bn l 2,bn l 3))) from A.bR aD _,A.aF];have hlen:s8.sh (ma d.1.1 (bn l 0,bn l 1,bn l 2,bn l 3),bn l 0)=A.pure (rI (ma d.1.1 (bn l 0,bn l 1,bn l 2,bn l 3)) (bn l 0)):=A.bR aD _;have Cs:s8.sh (((iP d.1).1,(iP d.1).2.1,(iP d.1).2.2.1,(iP d.1).2.2.2.2.1++[(bn l 0,bn l 1,bn l 2,bn l 3)]),bn l 0)=A.pure (rI (ma d.1.1 (bn l 0,bn l 1,bn l 2,bn l 3)) (bn l 0)):=hlen;simp only[Cs,A.iT,A.fB,A.bp];unfold uU;by_cases e:cw (ma d.1.1 (bn l 0,bn l 1,bn l 2,bn l 3))=0
 ·by_cases aN:(rI (ma d.1.1 (bn l 0,bn l 1,bn l 2,bn l 3)) (bn l 0)).2=0
  ·simp only[e,aN,ne_eq,not_true_eq_false,decide_false,Bool.false_eq_true,if_false];rfl
  grind
 grind
theorem arQ(x):A.le (YA wH wI x) (fw 2 yG x):=A.bq λh=>by
 obtain⟨l,d,⟨⟩⟩:=x;obtain⟨au,aj⟩:dk d/\eD _ l:=h;have hc:=au.copy;unfold YA;rw[A.bp,EX au,A.aF];simp (disch:=decide) only [nA aj,A.bp,nu,nv,nw,nx,ny,nz];show _=A.pure ((yG d l).1,(yG d l).2,());unfold yG;have aX:=aj.bn 0;have E:=aj.bn 1;by_cases e:bn l 0>=(d.1.2.1.length:Int)
 ·rw[if_pos (by simpa [iP]using e),if_pos e]
 ·rw[if_neg (by simpa [iP]using e),if_neg e];have aA:(bn l 0).toNat<d.1.2.1.length:=by omega
  rw[A.bt ⟨aX.1,by show bn l 0<(d.1.2.1.length:Int);omega⟩,A.bt ⟨aX.1,by show bn l 0<(d.1.2.1.length:Int);omega⟩];have ae:∀ n∈d.1.2.1,0<=n/\n<=10:=λn aA=>by
   have:=au.val.sY.2;have fW:=au.uV;unfold iS at fW;grind [nn,b3]
  have W:=ae _ (List.getElem_mem aA);have aB:d.1.2.1.getD (bn l 0).toNat 0=d.1.2.1[(bn l 0).toNat]:=by grind
  have hw:=bz (n:=d.1.2.1.getD (bn l 0).toNat 0+bn l 1) (by omega) (by omega);have gW:IntKind.wrap .i64 (Add.add ((iP d.1).2.2.2.2.2.1.getD (bn l 0).toNat 0) (bn l 1))=d.1.2.1.getD (bn l 0).toNat 0+bn l 1:=hw;rw[gW];exact Jo au (d.1.1,d.1.2.1.set (bn l 0).toNat (d.1.2.1.getD (bn l 0).toNat 0+bn l 1),d.1.2.2) ⟨au.fK.1,by show (List.set d.1.2.1 _ _).length<_;rw[List.length_set];exact au.fK.2.1,au.fK.2.2⟩
theorem arR(x):A.le (YC wH wI x) (fw 3 Qf x):=A.bq λh=>by
 obtain⟨l,d,⟨⟩⟩:=x;obtain⟨au,aj⟩:dk d/\eD _ l:=h;have hc:=au.copy;have bL:=hc.2.2.2.2.1;obtain⟨eG,dL,eI,oG,tf,th,ti⟩:=au.fK;unfold YC;rw[A.bp,EX au,A.aF];simp (disch:=decide) only [nA aj,A.bp,nu,nv,nw,nx,ny,nz];rw[A.bt (by simp only[hX,bP,iP];omega)];exact Jo au (d.1.1,d.1.2.1,d.1.2.2.1,d.1.2.2.2.1,d.1.2.2.2.2.1++[(bn l 0,bn l 1,bn l 2)],d.1.2.2.2.2.2) ⟨eG,dL,eI,oG,by grind,th,ti⟩
theorem arS(x):A.le (YD wH wI x) (fw 4 Qg x):=A.bq λh=>by
 obtain⟨l,d,⟨⟩⟩:=x;obtain⟨au,aj⟩:dk d/\eD _ l:=h;have hc:=au.copy;have bL:=hc.2.2.1;have hm:=aj.Jh;have hle:4<=l.length:=aj.Qm;obtain⟨eG,dL,eI,oG,tf,th,ti⟩:=au.fK;unfold YD;rw[A.bp,EX au,A.aF];simp (disch:=decide) only [nA aj,A.bp,nu,nv,nw,nx,ny,nz];rw[A.bt ⟨by decide,by grind,Int.le_refl _⟩,A.bt (by simp only[hX,bP,iP];omega)];simp only[bV,Int.toNat_natCast,List.take_length];exact Jo au (d.1.1,d.1.2.1,d.1.2.2.1++[(bn l 0,bn l 1,bn l 2,bn l 3,l.drop 4)],d.1.2.2.2) ⟨eG,dL,by grind,oG,tf,λp an=>by
  grind,ti⟩
theorem arT(x):A.le (YE wH wI x) (fw 5 Qh x):=A.bq λh=>by
 obtain⟨l,d,⟨⟩⟩:=x;obtain⟨au,aj⟩:dk d/\eD _ l:=h;have hc:=au.copy;have bL:=hc.2.2.2.1;have hm:=aj.Jh;have hle:5<=l.length:=aj.Qm;obtain⟨eG,dL,eI,oG,tf,th,ti⟩:=au.fK;unfold YE;rw[A.bp,EX au,A.aF];simp (disch:=decide) only [nA aj,A.bp,nu,nv,nw,nx,ny,nz];rw[A.bt ⟨by decide,by grind,Int.le_refl _⟩,A.bt (by simp only[hX,bP,iP];omega)];simp only[bV,Int.toNat_natCast,List.take_length];exact Jo au (d.1.1,d.1.2.1,d.1.2.2.1,d.1.2.2.2.1++[(l.drop 5,(bn l 0,bn l 1),bn l 2,bn l 3,bn l 4)],d.1.2.2.2.2) ⟨eG,dL,eI,by grind,tf,th,λp an=>by
  grind⟩
abbrev Jp:dA:=([],(0,0),0,0,0)
theorem arU(x):A.le (YF (fR mG).sh (Jl Jp) x) (fw 1 yH x):=A.bq λh=>by
 obtain⟨l,d,⟨⟩⟩:=x;obtain⟨au,aj⟩:dk d/\eD _ l:=h;have hc:=au.copy.2.2.2.1;have aX:=aj.bn 0;unfold YF;simp (disch:=decide) only [nA aj,A.bp,nu,nv,nw,nx,ny,nz];show _=A.pure ((yH d l).1,(yH d l).2,());unfold yH;by_cases e:bn l 0>=(d.1.2.2.2.1.length:Int)
 ·grind
 ·rw[if_neg (by grind),if_neg e];have lP:(fR mG).sh d.1.2.2.2.1=A.pure d.1.2.2.2.1:=yN hc;have hw:=bz (n:=bn l 0+1) (by omega) (by omega);simp only[lP,A.iT,A.fB,A.bp,ch,hw];rw[show Jl Jp (bn l 0,bn l 0+1,d.1.2.2.2.1,())=A.pure _ from A.bR ⟨aX.1,rfl,by grind,by grind⟩ _,A.aF];grind
theorem aaf{c:H.aZ}{m:List H.a_}{v:z1'}(h:(H.oa c m v).2=0):H.cw c=0/\H.cw (H.oa c m v).1=0/\(H.oa c m v).1=H.ns c (H.gX (c.2.1++m)) (H.rQ c.2.2.1 v):=by
 unfold H.oa at h ⊢;split at h
 ·omega
 split at h
 ·omega
 split at h
 ·omega
 split at h
 ·omega
 rename_i b8 a2 a3 a4;rw[if_neg b8,if_neg a2,if_neg a3,if_neg a4];have dN:H.cw c=0:=by omega
 have e0:H.cw (H.ns c m v)=0:=by omega
 refine⟨dN,?_,rfl⟩;have g1:H.jS c=true:=by unfold H.cw at dN;grind
 have ew:H.jS (H.ns c m v)=true:=by unfold H.cw at e0;grind
 have aA:H.k0 (H.gX (c.2.1++m))=false:=by
  rw[H.AL];have:=(H.AL (c.2.1++m)).1 (by grind);exact λa ba b W=>this a (H.Eb ba) b (H.Eb W)
 have lT:H.jS (H.ns c (H.gX (c.2.1++m)) (H.rQ c.2.2.1 v))=true:=by
  unfold H.jS H.sR at g1 ew ⊢;simp only[Bool.and_eq_true,List.all_eq_true,Bool.not_eq_true',Bool.or_eq_false_iff,H.ns]at g1 ew ⊢;obtain⟨⟨⟨⟨⟨⟨⟨⟨ot,z2⟩,z3⟩,z4⟩,z5⟩,aP⟩,aR⟩,bO⟩,gx⟩:=g1;obtain⟨⟨⟨⟨_,_⟩,arV⟩,ayM⟩,_⟩:=ew;simp only[Bool.or_eq_true,not_or,bV,Bool.not_eq_true]at a4;refine⟨⟨⟨⟨⟨⟨⟨⟨ot,a4.1⟩,a4.2⟩,z4⟩,z5⟩,aP⟩,λs aD=>?_⟩,λn aA=>?_⟩,gx⟩
  ·rcases List.mem_append.1 (H.Eb aD) with h | h
   ·exact aR s h
   ·exact arV s h
  ·have:=(List.mem_filter.1 aA).2;grind
 unfold H.cw;rw[if_pos lT,if_neg (by show ¬H.k0 (H.gX (c.2.1++m))=true;grind)]
theorem Qs{d:bc}(au:dk d)(m:List H.a_)(v:z1'):dk (te d m v).2:=by
 unfold te;split
 ·exact au
 ·rename_i h;obtain⟨E,U,ag⟩:=aaf (c:=d.2) (m:=m) (v:=v) (by omega);exact⟨au.fK,au.uV,U,by rw[ag];exact au.yJ⟩
theorem Jq{d:bc}(au:dk d){s:bF}(aD:e7 s):dk (ob d s).2:=by
 unfold ob;split
 ·exact au
 ·rename_i h;exact⟨aD,by grind,au.wF,au.yJ⟩
theorem arW{d:bc}(au:dk d){l:z1'}(aj:l.length<=10000)(j:Nat):dk (yI j d l).2:=by
 have hc:=au.copy;obtain⟨eG,dL,eI,oG,tf,th,ti⟩:=au.fK;obtain⟨bE,c2,c3,c4,c5,lO,oq⟩:=au.copy;unfold yI;split<;>try exact au
 ·exact Qs au _ _
 ·exact Qs au _ _
 ·exact Qs au _ _
 ·unfold uU;split
  ·exact au
  split
  ·exact au
  rename_i h _;have h:cw (ma d.1.1 (bn l 0,bn l 1,bn l 2,bn l 3))=0:=by omega
  refine⟨⟨⟨eG.1,eG.2.1,by have:=hc.1.2.2.1;simp only[ma,List.length_append,List.length_cons,List.length_nil];omega,eG.2.2.2⟩,dL,eI,oG,tf,th,ti⟩,?_,au.wF,au.yJ⟩;have aD:=au.uV;unfold iS at aD ⊢;rw[if_neg (by omega)];have:nn (ma d.1.1 (bn l 0,bn l 1,bn l 2,bn l 3),d.1.2)=nn d.1:=rfl;grind
 ·unfold yG;split
  ·exact au
  ·exact Jq au ⟨eG,by grind,eI,oG,tf,th,ti⟩
 ·exact Jq au ⟨eG,dL,eI,oG,by grind,th,ti⟩
 ·exact Jq au ⟨eG,dL,by grind,oG,tf,λp an=>by
   grind,ti⟩
 ·exact Jq au ⟨eG,dL,eI,by grind,tf,th,λp an=>by
   grind⟩
 ·unfold yH;split
  ·exact au
  ·refine⟨⟨eG,dL,eI,by grind,tf,th,λp an=>ti p (List.mem_of_mem_eraseIdx an)⟩,?_,au.wF,au.yJ⟩;have aD:=au.uV;unfold iS at aD ⊢;split at aD
   ·omega
   ·rename_i u6;rw[if_neg u6];split at aD
    ·rename_i ae;rw[if_pos];unfold nn at ae ⊢;simp only[Bool.and_eq_true,List.all_eq_true,decide_eq_true_eq]at ae ⊢;obtain⟨⟨⟨⟨⟨⟨⟨⟨dy,dO⟩,ou⟩,uM⟩,c_⟩,fs⟩,gO⟩,iq⟩,jQ⟩:=ae;exact⟨⟨⟨⟨⟨⟨⟨⟨dy,dO⟩,ou⟩,uM⟩,by grind⟩,λx ah=>fs x (List.mem_of_mem_eraseIdx ah)⟩,gO⟩,iq⟩,jQ⟩
    omega
theorem aag:∀ (s:aT) (n k:Nat),n<10 ^ k->k+s.length<=18->0<=gj s n->Go.Lib.parseUint10 n s=.ok (gj s n).toNat
 | [],n,k,_,_,_=>by rfl
 | c::s,n,k,E,U,ag=>by
  unfold gj at ag ⊢;split at ag
  ·omega
  ·rename_i hc;rw[if_neg hc];simp only[Bool.or_eq_true,decide_eq_true_eq,not_or]at hc;have Hc:48<=c.toNat/\c.toNat<=57:=by omega
   have al:(10:Nat) ^ (k+1)<=10 ^ 18:=Nat.pow_le_pow_right (by decide) (by grind);have Xf:(10:Nat) ^ (k+1)=10 ^ k*10:=Nat.pow_succ ..;have e:10*(n:Int)+((c.toNat:Int) - 48)=((n*10+(c.toNat - 48):Nat):Int):=by omega
   rw[e]at ag ⊢;unfold Go.Lib.parseUint10;rw[if_pos Hc,if_neg (by omega),if_neg (by omega)];exact aag s _ (k+1) (by omega) (by grind) ag
theorem Qt{s:aT}(h:0<=eZ s):Go.Lib.atoiAll s=.ok (eZ s):=by
 unfold eZ at h ⊢;split at h
 ·omega
 ·rename_i W;rw[if_neg W];simp only[Bool.or_eq_true,decide_eq_true_eq,not_or]at W;obtain⟨⟨aX,dm⟩,_⟩:=W;cases s with
  | nil=>grind
  | cons c r=>
   have an:=aag (c::r) 0 0 (by decide) (by omega) h;have aj:=P2 (c::r) 0 0 (by decide) (by decide);have gv:(10:Int) ^ (0+(c::r).length)<=10 ^ 6:=by
    have:=Nat.pow_le_pow_right (n:=10) (by decide) (show 0+(c::r).length<=6 by omega);grind
   have au:¬(decide ((c.toNat:Int)<48)||decide ((c.toNat:Int) > 57))=true:=by
    intro hc;unfold gj at h;grind
   simp only[Bool.or_eq_true,decide_eq_true_eq,not_or]at au;unfold Go.Lib.atoiAll;simp only;rw[if_neg (by omega)];unfold Go.Lib.parseMag;grind
theorem arX{s:aT}(h:0<=eZ s):td s=eZ s:=by
 unfold td;rw[Qt h]
abbrev EY:aK:=⟨.str,.ay (.int .i64) .bool,λx=>x.length<=10000,q_⟩
abbrev Jr:aK:=⟨.ay .str .str,wD,λx=>x.1.length<=10000/\x.2=[32],λx=>cH x.1⟩
abbrev arY:ad:=.st (.ay bu (.ay .bool .et))
def Js:List (aT×Int×Bool)->Nat->List (aT×A6)
 | [],_=>[]
 | p::l,i=>(p.1,p.2.1,p.2.2,some (119+i))::Js l (i+1)
def wJ:List (aT×A6):=Js kI 0
abbrev Jt:aK:=⟨.cT,.map .str arY,λ_=>True,λ_=>wJ⟩
theorem arZ(x):A.le (ant x) (Jt.sh x):=A.bq λ_=>congrArg A.pure (show _=wJ by decide +kernel)
theorem aah(w:aT):∀ (l:List (aT×Int×Bool)) (i:Nat),((Js l i).find? λp=>decide (w=p.1)).map (λx=>x.2)=(oc w l i).map λr=>(r.1,r.2.1,some (119+r.2.2))
 | [],_=>rfl
 | p::l,i=>by
  unfold Js oc;rw[List.find?_cons];by_cases h:w=p.1
  ·simp[h]
  ·simp[h,aah w l (i+1)]
theorem aai{w:aT}:∀ {l:List (aT×Int×Bool)} {i:Nat} {r:Int×Bool×Nat},oc w l i=some r->i<=r.2.2/\r.2.2<i+l.length/\l[r.2.2 - i]?=some (w,r.1,r.2.1)
 | [],_,_,h=>by simp[oc]at h
 | p::l,i,r,h=>by
  unfold oc at h;split at h
  ·grind
  ·have:=aai h;grind
def Ju(j:Nat):Nat:=(kI.getD j ([],0,false)).2.1.toNat
def EZ(k:Nat):z1'×bc×Unit->A (aT×bc×Unit):=fw (Ju (k - 119)) (yI (k - 119))
theorem ar0:∀ p∈kI,0<=p.2.1:=by decide
def Jv(x:List (aT×A6)×aT×bc×Unit):A (aT×bc×Unit):=A.dR (x.1=wJ/\x.2.1.length<=10000/\dk x.2.2.1) ((k8 x.2.2.1 x.2.1).1,(k8 x.2.2.1 x.2.1).2,())
theorem ar1{l:List aT}(h:l.all (λw=>decide (0<=eZ w))=true):l.map td=l.map eZ:=List.map_congr_left λw hw=>arX (by grind)
theorem aaj{aI:Type}(r:aI)(fin:z1'->aI):∀ (l:List aT) (b:z1'),eY (λw b=>if (!decide (0<=eZ w))=true then .done r else .next (b++[td w])) fin l b=if l.all (λw=>decide (0<=eZ w))=true then fin (b++l.map td) else r
 | [],b=>by simp[eY]
 | w::l,b=>by
  unfold eY;rw[List.all_cons,List.map_cons];cases h:decide (0<=eZ w) with
  | true=>
   simp only[Bool.not_true,Bool.false_eq_true,if_false,Bool.true_and];rw[aaj r fin l,List.append_assoc];rfl
  | false=>rfl
theorem ar2(x):A.le (Yk Jr.sh EY.sh EZ x) (Jv x):=A.bq λh=>by
 obtain⟨ar3,s,d,⟨⟩⟩:=x;obtain⟨ae,aD,au⟩:ar3=wJ/\s.length<=10000/\dk d:=h;subst ae;unfold Yk;show _=A.pure ((k8 d s).1,(k8 d s).2,());rw[show Jr.sh (s,[32])=A.pure (cH s) from A.bR ⟨aD,rfl⟩ _,A.aF];have aj:=uT s;rw[A.bt ⟨by decide,by grind⟩];have ao:((wJ.find? λp=>decide ((cH s).getD (Int.toNat 0) []=p.1)).map λx=>x.2)=(oc ((cH s).getD 0 []) kI 0).map λr=>(r.1,r.2.1,some (119+r.2.2)):=aah _ _ _;have hw:=bz (n:=((cH s).length:Int) - 1) (by omega) (by omega);simp only[ao,bV,hw];unfold k8 EU;cases GC:oc ((cH s).getD 0 []) kI 0 with
 | none=>simp
 | some r=>
  obtain⟨k,m,j⟩:=r;obtain⟨_,aE,al⟩:=aai GC;simp only[Option.map_some,Option.isSome_some,Option.getD_some,Bool.not_true,Bool.false_or];by_cases W:(decide (((cH s).length:Int) - 1<k)||decide (((cH s).length:Int) - 1 > k)&&!m)=true
  ·grind
  ·rw[if_neg W,if_neg W];rw[A.bt ⟨by decide,by omega,Int.le_refl _⟩];simp only[Int.toNat_natCast,List.take_length,show Int.toNat 1=1 from rfl];have vg:((cH s).drop 1).length=(cH s).length - 1:=by simp
   rw[A.f_ ((cH s).drop 1) (λi (o:z1')=>((cH s).drop 1,(((cH s).drop 1).length:Int),(i:Int),(k,m,some (119+j)),o,d,())) (λw o=>if (!decide (0<=eZ w))=true then .done (.done ([63],d,())) else .next (o++[td w])) (λo=>.next ((k,m,some (119+j)),o,d,())) (λi o=>o.length=i) [] ?_ rfl ?_ ?_]
   ·rw[aaj,A.aF];unfold ET;by_cases ba:((cH s).drop 1).all (λw=>decide (0<=eZ w))=true
    ·rw[if_pos ba,if_pos ba,A.bY,ar1 ba,List.nil_append];rw[A.bt]
     ·have y2:0<=k:=ar0 _ (List.mem_of_getElem? al);have cb:Ju j=k.toNat:=by
       unfold Ju;grind
      have cL:eD (Ju j) (((cH s).drop 1).map eZ):=by
       simp only[Bool.or_eq_true,decide_eq_true_eq,not_or]at W;refine⟨by grind,by grind,λn aA=>?_⟩;obtain⟨w,hw,rfl⟩:=List.mem_map.1 aA;have:=List.all_eq_true.1 ba w hw;exact⟨by grind,(ard w).2⟩
      have ayN:EZ (119+j) (((cH s).drop 1).map eZ,d,())=A.pure ((yI j d (((cH s).drop 1).map eZ)).1,(yI j d (((cH s).drop 1).map eZ)).2,()):=by
       unfold EZ;rw[show 119+j - 119=j by omega];exact A.bR ⟨au,cL⟩ _
      simp_all
     ·have:j<20:=by simpa [kI]using aE
      exact⟨119+j,by
       have e:∀ j:Fin 20,(119+j.val)∈[119,120,121,122,123,124,125,126,127,128,129,130,131,132,133,134,135,136,137,138]:=by decide
       exact e ⟨j,this⟩,rfl⟩
    ·rw[if_neg ba,if_neg ba];rfl
   ·rfl
   ·intro i G o af;have hw:=bz (n:=(i:Int)+1) (by omega) (by omega);refine⟨?_,λbe db=>?_⟩
    ·simp only[cU G,if_true,df G,cM G,A.bp,ch,hw];rw[show EY.sh ((cH s).drop 1)[i]=A.pure (q_ ((cH s).drop 1)[i]) from A.bR (Nat.le_trans (Z_ s (List.mem_of_mem_drop (List.getElem_mem G))) aD) _,A.aF];unfold q_;by_cases aA:0<=eZ ((cH s).drop 1)[i]
     ·simp only[aA,decide_true,Bool.not_true,Bool.false_eq_true,if_false];rw[A.bt (gb (by grind))];rfl
     simp_all
    grind
   simp
theorem aak{d:bc}(au:dk d){s:aT}(aD:s.length<=10000):dk (k8 d s).2:=by
 unfold k8;split
 ·exact au
 ·rename_i j l an;refine arW au ?_ j;unfold EU at an;split at an
  ·grind
  ·split at an
   ·grind
   ·unfold ET at an;have:=uT s;grind
abbrev rV:aK:=⟨uS,.int .i64,λd=>e7 d.1/\H.ix d.2,kn⟩
theorem ar4(x):A.le (Yh pQ.sh H.hr.sh x) (rV.sh x):=A.bq λh=>by
 obtain⟨E,U⟩:e7 x.1/\H.ix x.2:=h;unfold Yh;rw[show pQ.sh x.1=A.pure (iS x.1) from A.bR E _,A.aF,show H.hr.sh x.2=A.pure (H.cw x.2) from A.bR U _,A.kE,A.aF];show _=A.pure (kn x);unfold kn;grind
theorem ar5(l:List H.a_):(H.gX l).length<=l.length:=by
 have q4:(H.gX l).map (·.1) ⊆ l.map (·.1):=by
  intro x ah;obtain⟨s,aD,rfl⟩:=List.mem_map.1 ah;exact List.mem_map_of_mem (H.Eb aD)
 have:=(H.XV l).length_le_of_subset q4;grind
theorem ar6(l:z1'):(H.rQ l []).length<=l.length:=by
 unfold H.rQ;have aA:((eh 0 99).filter λid=>l.contains id||List.contains [] id).Nodup:=((H.Z8 0 99).imp λh=>by omega:(eh 0 99).Nodup).filter _;refine aA.length_le_of_subset λx ah=>?_;grind
theorem aal{c:H.aZ}(h:H.cw c=0):H.oa c [] []=(H.ns c (H.gX c.2.1) (H.rQ c.2.2.1 []),0):=by
 have G:=H.Jg h;have g:H.jS c=true:=by unfold H.cw at h;grind
 have U:H.cw (H.ns c [] [])=0:=by
  have:H.jS (H.ns c [] [])=true:=by
   unfold H.jS H.sR at g ⊢;simp only[Bool.and_eq_true,List.all_eq_true,Bool.not_eq_true',Bool.or_eq_false_iff,H.ns]at g ⊢;grind
  unfold H.cw;rw[if_pos this];rfl
 have e1:=ar5 c.2.1;have og:=ar6 c.2.2.1;have ee:=G.ee;have jl:=G.jl;unfold H.oa;rw[if_neg (by simp[h]),if_neg (by omega),List.append_nil,if_neg (by rw[G.cl];decide),if_neg];grind
theorem ar7{d:bc}(h:dk d):iw d=(d.1,H.ns d.2 (H.gX d.2.2.1) (H.rQ d.2.2.2.1 [])):=by
 unfold iw;rw[aal h.wF]
theorem aam{d:bc}(h:dk d):dk (iw d):=by
 have:=aaf (c:=d.2) (m:=[]) (v:=[]) (by rw[aal h.wF]);exact⟨h.fK,h.uV,this.2.1,by rw[ar7 h];exact h.yJ⟩
theorem aan{p:bc->Prop}{q:aT->Prop}(an:∀ d s,p d->q s->p (k8 d s).2):∀ (l:List aT) (d:bc),p d->(∀ s∈l,q s)->p (gS d l).2
 | [],d,h,_=>h
 | s::l,d,h,br=>aan an l _ (an d s h (br s (by simp))) λt aH=>br t (by grind)
theorem ar8{d:bc}(h:dk d){l:List aT}(aj:∀ s∈l,s.length<=10000):dk (gS d l).2:=aan (p:=dk) (λd s h aD=>aak h aD) l d h aj
def uy(x:bc×Unit):A (bc×Unit):=A.dR (dk x.1) (iw x.1,())
theorem OH(x):A.le (Yi H.Bt.sh Jn.sh x) (uy x):=A.bq λh=>by
 obtain⟨d,⟨⟩⟩:=x;have h:dk d:=h;unfold Yi;rw[show H.Bt.sh (d.2,[],[])=A.pure (H.oa d.2 [] []) from A.bR ⟨h.ix,by simp,by simp⟩ _,A.aF];rw[show Jn.sh d.1=A.pure d.1 from A.bR h.copy _];simp only[A.iT,A.fB,A.bp];rfl
abbrev aao(x:bc×List aT):Prop:=e7 x.1.1/\H.gI x.1.2/\x.2.length<2 ^ 63/\∀ s∈x.2,s.length<=10000
theorem Qu{d:bc}(E:e7 d.1)(U:H.gI d.2)(h:kn d=0):dk d:=by
 unfold kn at h;split at h
 ·omega
 ·rename_i W;simp only[Bool.or_eq_true,decide_eq_true_eq,not_or,ne_eq,Decidable.not_not]at W;exact⟨E,W.1,W.2,U.2 W.2⟩
abbrev uW:aK:=⟨.ay uS wD,.ay wD (.ay uS (.int .i64)),aao,λx=>EV x.1 x.2⟩
theorem aap:∀ (l:List aT) (o:List aT) (d:bc),l.foldl (λ(p:List aT×bc) s=>(p.1++[(k8 p.2 s).1],(k8 p.2 s).2)) (o,d)=(o++(gS d l).1,(gS d l).2)
 | [],o,d=>by simp[gS]
 | s::l,o,d=>by
  rw[List.foldl_cons,aap l];simp[gS]
theorem ar9(x):A.le (Yg rV.sh uy Jt.sh Jv x) (uW.sh x):=A.bq λh=>by
 obtain⟨d,l⟩:=x;obtain⟨E,U,ag,a1⟩:aao (d,l):=h;unfold Yg;show _=A.pure (EV d l);unfold EV;rw[show rV.sh d=A.pure (kn d) from A.bR ⟨E,U.fK⟩ _,A.aF];by_cases e:kn d=0
 ·rw[if_neg (show ¬decide (kn d≠0)=true by grind),if_neg (show ¬kn d≠0 by omega)];have au:=Qu E U e;by_cases aN:l.length > 40
  ·grind
  ·rw[if_neg (show ¬decide (Int.ofNat l.length > 40)=true by grind),if_neg aN];rw[show uy (d,())=A.pure (iw d,()) from A.bR au _,A.aF,show Jt.sh ()=A.pure wJ from rfl,A.aF];rw[A.f_ l (λi (p:List aT×bc)=>(wJ,l,(l.length:Int),(i:Int),p.1,0,0,0,0,0,0,0,0,0,p.2,())) (λs p=>.next (p.1++[(k8 p.2 s).1],(k8 p.2 s).2)) (λp=>.next (p.1,0,0,0,0,0,0,0,0,0,p.2,())) (λi p=>dk p.2/\p.1.length=i) ([],iw d) ?_ ⟨aam au,rfl⟩ ?_ ?_]
   ·rw[dP,aap,A.aF,A.bY,A.bp,List.nil_append]
   ·rfl
   ·rintro i G ⟨o,u7⟩ ⟨w2,af⟩;have hw:=bz (n:=(i:Int)+1) (by omega) (by omega);have aD:=a1 _ (List.getElem_mem G);change dk u7 at w2;change o.length=i at af;refine⟨?_,λbe db=>?_⟩
    ·simp only[bV,cU G,if_true,df G,cM G,A.bp,ch,hw];rw[show Jv (wJ,l[i],u7,())=A.pure _ from A.bR ⟨rfl,aD,w2⟩ _,A.aF,A.bt (gb (by grind))];rfl
    ·simp only[V.next.injEq]at db;subst db;exact⟨aak w2 aD,by grind⟩
   simp
 grind
end Go.Fer.ar
namespace Go.Fer.ar
open A (V)
def qH:bc:=(Bs,[(0,0)],[],[],[],10,30,100,500,1000,2000,300)
def aaq(ar_:Unit->A bF)(x:Unit):A bc:=A.bind (ar_ ()) λy=>A.pure (y,[(0,0)],[],[],[],10,30,100,500,1000,2000,300)
abbrev Jw:aK:=⟨.cT,uS,λ_=>True,λ_=>qH⟩
theorem ar'(x):A.le (aaq I8.sh x) (Jw.sh x):=A.bq λ_=>by
 unfold aaq;rw[show I8.sh ()=A.pure Bs from rfl,A.aF];rfl
theorem asa:kn qH=0:=by decide +kernel
end Go.Fer.ar
namespace Go.Fer.ar
open A (V)
open H (gb)
theorem asb(x):A.le (Yf H.hr.sh pQ.sh x) (rV.sh x):=A.bq λh=>by
 obtain⟨E,U⟩:e7 x.1/\H.ix x.2:=h;unfold Yf;rw[show pQ.sh x.1=A.pure (iS x.1) from A.bR E _,A.aF,show H.hr.sh x.2=A.pure (H.cw x.2) from A.bR U _,A.kE,A.aF];show _=A.pure (kn x);unfold kn;grind
theorem aar(c:UInt8):c.1.1.1=c.toNat:=rfl
theorem aas{n:Int}(h:0<=n)(U:n<=255):IntKind.wrap .u8 n=n:=by
 show (if (false&&decide (n % 2 ^ 8>=(2 ^ (8 - 1):Int)))=true then n % 2 ^ 8 - 2 ^ 8 else n % 2 ^ 8)=n;grind
theorem Qv{ak β aI:Type}{p:ak->Bool}{r:aI}{g:ak->β->β}{fin:β->aI}:∀ (l:List ak) (b:β),eY (λx b=>if p x=true then .done r else .next (g x b)) fin l b=if l.any p=true then r else fin (l.foldl (λb x=>g x b) b)
 | [],b=>rfl
 | x::l,b=>by
  unfold eY;rw[List.any_cons,List.foldl_cons];cases h:p x with
  | true=>rfl
  | false=>
   simp only[Bool.false_eq_true,if_false,Bool.false_or];exact Qv l (g x b)
def yO(c:UInt8):Bool:=decide ((c.toNat:Int)<48)||decide ((c.toNat:Int) > 57)
theorem asc(c:UInt8)(s:aT)(n:Int):gj (c::s) n=if yO c=true then -1 else gj s (10*n+((c.toNat:Int) - 48)):=rfl
theorem aat{aI:Type}{r:aI}{fin:Int->aI}:∀ (s:aT) (n:Int),0<=n->eY (λc n=>if yO c=true then .done r else .next (10*n+((c.toNat:Int) - 48))) fin s n=if gj s n=-1 then r else fin (gj s n)
 | [],n,h=>by
  show fin n=if n=-1 then r else fin n
  grind
 | c::s,n,h=>by
  rw[asc];unfold eY;by_cases hc:yO c=true
  ·grind
  ·have oI:=hc;unfold yO at oI;simp only[Bool.or_eq_true,decide_eq_true_eq,not_or]at oI;simp only[hc];exact aat s _ (by omega)
abbrev Jx:aK:=⟨.str,.int .i64,λ_=>True,eZ⟩
theorem asd(x):A.le (YS x) (Jx.sh x):=A.bq λ_=>by
 unfold YS;show _=A.pure (eZ x);unfold eZ;simp only[bV,aar,show Int.toNat 0=0 from rfl];rw[A.bt (λW=>⟨⟨W,trivial⟩,⟨Int.le_refl _,by grind⟩,trivial⟩)];have e:(decide ((x.length:Int)=0)||decide ((x.length:Int) > 6)||decide ((x.length:Int) > 1)&&decide (((x.getD 0 0).toNat:Int)=48))=(decide (x.length=0)||decide (x.length > 6)||decide (x.length > 1)&&decide ((x.getD 0 0).toNat=48)):=by
  grind
 rw[e];by_cases W:(decide (x.length=0)||decide (x.length > 6)||decide (x.length > 1)&&decide ((x.getD 0 0).toNat=48))=true
 ·grind
 ·rw[if_neg W,if_neg W];have dm:x.length<=6:=by
   grind
  rw[A.f_ x (λi (n:Int)=>(x,n,(i:Int),())) (λc n=>if yO c=true then .done (.done (-1)) else .next (10*n+((c.toNat:Int) - 48))) (λn=>.next (n,())) (λi n=>0<=n/\n<10 ^ i) 0 ?_ ⟨Int.le_refl _,by decide⟩ ?_ ?_]
  ·rw[aat _ _ (Int.le_refl _),A.aF];by_cases au:gj x 0=-1
   ·rw[if_pos au,au];rfl
   ·rw[if_neg au];rfl
  ·rfl
  ·rintro i G n ⟨aX,E⟩;have hw:=bz (n:=(i:Int)+1) (by omega) (by omega);have an:(10:Int) ^ i<=10 ^ 5:=by
    have:=Nat.pow_le_pow_right (n:=10) (by decide) (show i<=5 by omega);grind
   have xL:(10:Int) ^ (i+1)=10 ^ i*10:=Int.pow_succ ..;refine⟨?_,λbe db=>?_⟩
   ·simp only[cU G,if_true,df G,cM G,A.bp,ch,hw];rw[A.bt (λh=>⟨⟨h,h⟩,trivial,trivial⟩)];by_cases hc:yO x[i]=true
    ·rw[if_pos hc];have oI:(decide ((x[i].toNat:Int)<48)||decide ((x[i].toNat:Int) > 57))=true:=hc;simp_all
    ·rw[if_neg hc];have oI:¬(decide ((x[i].toNat:Int)<48)||decide ((x[i].toNat:Int) > 57))=true:=hc;rw[if_neg oI];simp only[Bool.or_eq_true,decide_eq_true_eq,not_or]at oI;rw[aas (by omega) (by omega),bz (n:=(x[i].toNat:Int) - 48) (by omega) (by omega),bz (n:=10*n) (by omega) (by omega),bz (n:=10*n+((x[i].toNat:Int) - 48)) (by omega) (by omega)];rfl
   ·split at db
    ·grind
    ·rename_i hc;unfold yO at hc;grind
  simp
def Bw(o:List aT)(c:UInt8):List aT:=if c=32 then o++[[]] else o.set (o.length - 1) (o.getD (o.length - 1) []++[c])
theorem Qw:∀ (s:aT) (o:List aT) (w:aT),s.foldl Bw (o++[w])=o++(match cH s with | []=>[w] | v::l=>(w++v)::l)
 | [],o,w=>by simp[cH]
 | c::s,o,w=>by
  rw[List.foldl_cons];unfold cH;by_cases hc:c=32
  ·rw[if_pos hc,show Bw (o++[w]) c=o++[w]++[[]] from if_pos hc];have:=Qw s (o++[w]) [];rw[this];have aj:=uT s;grind
  ·rw[if_neg hc,show Bw (o++[w]) c=_ from if_neg hc];have e:(o++[w]).set ((o++[w]).length - 1) ((o++[w]).getD ((o++[w]).length - 1) []++[c])=o++[w++[c]]:=by
    simp
   rw[e];have:=Qw s o (w++[c]);rw[this];have aj:=uT s;cases h:cH s with
   | nil=>exact absurd aj.1 (by rw[h];decide)
   | cons v l=>simp
abbrev Jy:aK:=⟨.str,wD,λx=>x.length<=10000,cH⟩
theorem ase(x):A.le (YR x) (Jy.sh x):=A.bq λh=>by
 change x.length<=10000 at h;unfold YR;show _=A.pure (cH x);rw[A.f_ x (λi (o:List aT)=>(x,(i:Int),o,())) (λc o=>.next (Bw o c)) (λo=>.next (o,())) (λi o=>1<=o.length/\o.length<=i+1/\∀ w∈o,w.length<=i) [[]] ?_ ⟨by decide,by decide,by simp⟩ ?_ ?_]
 ·rw[dP,A.aF,A.bY];have:=Qw x [] [];rw[List.nil_append]at this;rw[this];have aj:=uT x;grind
 ·rfl
 ·rintro i G o ⟨E,U,ag⟩;have hw:=bz (n:=(i:Int)+1) (by omega) (by omega);have gW:=bz (n:=(o.length:Int) - 1) (by omega) (by omega);have aw:((o.length:Int) - 1).toNat=o.length - 1:=by omega
  have aN:((i:Int)+1).toNat=i+1:=by omega
  have asf:o.length - 1<o.length:=by omega
  have aB:o.getD (o.length - 1) []=o[o.length - 1]:=by grind
  have ayO:=ag _ (List.getElem_mem asf);have au:(x.take (i+1)).drop i=[x[i]]:=by rw[List.drop_take,List.drop_eq_getElem_cons G,Nat.add_sub_cancel_left];rfl
  refine⟨?_,λbe db=>?_⟩
  ·simp only[bV,cU G,if_true,df G,cM G,A.bp,ch,hw,gW,aw,aar];unfold Bw;by_cases hc:x[i]=32
   ·have oI:decide ((x[i].toNat:Int)=32)=true:=by simp_all
    rw[if_pos oI,if_pos hc,A.bt (gb (by grind))];simp_all
   ·have oI:¬decide ((x[i].toNat:Int)=32)=true:=by
     intro h;apply hc;simp only[decide_eq_true_eq]at h;exact UInt8.toNat_inj.1 (show x[i].toNat=32 by omega)
    rw[if_neg oI,if_neg hc];rw[A.bt (by omega),A.bt (by omega),aN,Int.toNat_natCast,au,A.bt (gb (by grind)),A.bt (by omega)];simp_all
  ·simp only[V.next.injEq]at db;subst db;unfold Bw;grind
 simp
def pS:List aT×z1'×z1':=(kI.map (·.1),kI.map (·.2.1),kI.map λp=>if p.2.2=true then -1 else p.2.1)
abbrev Jz:aK:=⟨.cT,.ay wD (.ay fE fE),λ_=>True,λ_=>pS⟩
theorem asg(x):A.le (anM x) (Jz.sh x):=A.bq λ_=>congrArg A.pure (show _=pS by rfl)
def JA(k:Int)(m:Bool)(n:Nat):Bool:=decide ((n:Int)>=k)&&(decide ((if m=true then -1 else k)<(0:Int))||decide ((n:Int)<=if m=true then -1 else k))
def uX(s:aT):aT×z1'×Bool:=
 if ((cH s).drop 1).any (λw=>decide (eZ w<0))=true then ([],[],false) else
 match oc ((cH s).getD 0 []) kI 0 with
 | none=>([],[],false)
 | some (k,m,_)=>((cH s).getD 0 [],((cH s).drop 1).map eZ,JA k m ((cH s).drop 1).length)
theorem aau{aI:Type}{w:aT}{g:Int->Bool->aI}{r:aI}:∀ (l:List (aT×Int×Bool)) (i:Nat),eY (λp (_:Unit)=>if decide (p.1=w)=true then .done (g p.2.1 p.2.2) else .next ()) (λ_=>r) l ()=match oc w l i with | none=>r | some q=>g q.1 q.2.1
 | [],_=>rfl
 | p::l,i=>by
  unfold eY oc;by_cases h:p.1=w
  ·simp[h]
  ·have U:¬w=p.1:=λe=>h e.symm;simp only[h,decide_false,Bool.false_eq_true,if_false,U];exact aau l (i+1)
abbrev JB:aK:=⟨.str,.ay .str (.ay fE .bool),λx=>x.length<=10000,uX⟩
theorem ash(x):A.le (YQ Jy.sh Jx.sh Jz.sh x) (JB.sh x):=A.bq λh=>by
 change x.length<=10000 at h;unfold YQ;show _=A.pure (uX x);unfold uX;rw[show Jy.sh x=A.pure (cH x) from A.bR h _,A.aF];have aj:=uT x;have ah:List.length x<=10000:=h;have vg:((cH x).drop 1).length=(cH x).length - 1:=by simp
 rw[A.f_ ((cH x).drop 1) (λi (o:z1')=>(cH x,((1+i:Nat):Int),o,())) (λw o=>if decide (eZ w<0)=true then .done (.done ([],[],false)) else .next (o++[eZ w])) (λo=>.next (cH x,o,())) (λi o=>o.length=i) [] ?_ rfl ?_ ?_]
 ·rw[Qv,A.aF];by_cases ba:((cH x).drop 1).any (λw=>decide (eZ w<0))=true
  ·rw[if_pos ba,if_pos ba];rfl
  ·rw[if_neg ba,if_neg ba,A.bY,uj,List.nil_append];rw[show Jz.sh ()=A.pure pS from rfl,A.aF];generalize nc:((cH x).drop 1).map eZ=Bx;have aA:Bx.length=((cH x).drop 1).length:=by grind
   rw[<-aA];rw[A.f_ kI (λi (_:Unit)=>(cH x,pS.1,pS.2.1,pS.2.2,(i:Int),Bx,())) (λp (_:Unit)=>if decide (p.1=(cH x).getD 0 [])=true then .done (.done ((cH x).getD 0 [],Bx,JA p.2.1 p.2.2 Bx.length)) else .next ()) (λ_=>.next ()) (λ_ _=>True) () ?_ trivial ?_ ?_]
   ·rw[aau (g:=λk m=>V.done ((cH x).getD 0 [],Bx,JA k m Bx.length)) kI 0,A.aF];cases oc ((cH x).getD 0 []) kI 0<;>rfl
   ·rfl
   ·intro i G _ _;have ayP:i<20:=G;have hw:=bz (n:=(i:Int)+1) (by omega) (by omega);have e1:i<pS.1.length:=G;have og:i<pS.2.1.length:=G;have EP:i<pS.2.2.length:=G;have g1:pS.1[i]'e1=(kI[i]'G).1:=List.getElem_map ..;have ew:pS.2.1[i]'og=(kI[i]'G).2.1:=List.getElem_map ..;have g3:pS.2.2[i]'EP=if (kI[i]'G).2.2=true then -1 else (kI[i]'G).2.1:=List.getElem_map ..
    have an:((0:Int)<=0/\(0:Int)<((cH x).length:Int))=True:=eq_true ⟨by decide,by omega⟩;refine⟨?_,λ_ _=>trivial⟩;simp only[bV,cU e1,if_true,df e1,df og,df EP,cM e1,cM og,cM EP,an,A.bp,ch,hw,g1,ew,g3,show Int.toNat 0=0 from rfl];by_cases hc:decide ((kI[i]'G).1=(cH x).getD 0 [])=true
    ·rw[if_pos hc,if_pos hc];unfold JA;simp_all
    simp_all
   ·intro _ _;simp[pS]
 ·rfl
 ·intro i G o af;have dz:1+i<(cH x).length:=by omega
  have hw:=bz (n:=((1+i:Nat):Int)+1) (by omega) (by omega);have aB:(cH x)[1+i]=((cH x).drop 1)[i]:=by grind
  refine⟨?_,λbe db=>?_⟩
  ·simp only[bV,cU dz,if_true,df dz,cM dz,A.bp,ch,hw,aB];rw[show Jx.sh ((cH x).drop 1)[i]=A.pure (eZ ((cH x).drop 1)[i]) from rfl,A.aF];by_cases aA:decide (eZ ((cH x).drop 1)[i]<0)=true
   ·simp_all
   ·rw[if_neg aA,if_neg aA,A.bt (gb (by grind))];rfl
  grind
 simp_all
theorem asi{s:aT}(h:s.length<=10000):JB.sh s=A.pure (uX s):=A.bR h _
abbrev uY:aK:=⟨.ay fE fE,.bool,λx=>x.1=x.2/\x.1.length<2 ^ 63,λ_=>true⟩
theorem asj(x):A.le (YN x) (uY.sh x):=A.bq λh=>by
 obtain⟨a,b⟩:=x;obtain⟨rfl,h⟩:a=b/\a.length<2 ^ 63:=h;unfold YN;rw[if_neg (by simp)];rw[A.dt a (λi (_:Unit)=>(a,a,(i:Int),())) (λ_ b=>.next b) (λ_=>.next ()) () ?_ ?_ ?_]
 ·rw[dP,A.aF,A.bY]
 ·rfl
 ·intro i G _;have hw:=bz (n:=(i:Int)+1) (by omega) (by omega);simp_all
 simp
theorem E0{a:z1'}(h:a.length<2 ^ 63):uY.sh (a,a)=A.pure true:=A.bR ⟨rfl,h⟩ _
abbrev JC:aK:=⟨.ay H.iN H.iN,.bool,λx=>x.1=x.2/\H.ix x.1,λ_=>true⟩
theorem asl(x):A.le (YM uY.sh x) (JC.sh x):=A.bq λh=>by
 obtain⟨a,b⟩:=x;obtain⟨rfl,E,U,ag,a1⟩:a=b/\H.ix a:=h;unfold YM;rw[E0 ag];simp only[A.kE,A.aF];rw[if_neg (by simp)];rw[A.dt a.1 (λi (_:Unit)=>((i:Int),a,a,())) (λ_ b=>.next b) (λ_=>.next (a,a,())) () ?_ ?_ ?_]
 ·rw[dP,A.aF,A.bY];rw[A.dt a.2.1 (λi (_:Unit)=>((i:Int),a,a,())) (λ_ b=>.next b) (λ_=>.next (a,a,())) () ?_ ?_ ?_]
  ·rw[dP,A.aF,A.bY];rw[A.dt a.2.2.2.1 (λi (_:Unit)=>((i:Int),a,a,())) (λ_ b=>.next b) (λ_=>.next ()) () ?_ ?_ ?_]
   ·rw[dP,A.aF,A.bY]
   ·rfl
   ·intro i G _;have hw:=bz (n:=(i:Int)+1) (by omega) (by omega);simp_all
   simp
  ·rfl
  ·intro i G _;have hw:=bz (n:=(i:Int)+1) (by omega) (by omega);simp_all
  simp
 ·rfl
 ·intro i G _;have hw:=bz (n:=(i:Int)+1) (by omega) (by omega);simp_all
 simp
abbrev JD:aK:=⟨.ay iu iu,.bool,λx=>x.1=x.2/\gf x.1,λ_=>true⟩
theorem asm(x):A.le (YO uY.sh x) (JD.sh x):=A.bq λh=>by
 obtain⟨a,b⟩:=x;obtain⟨rfl,E,U,ag,a1⟩:a=b/\gf a:=h;unfold YO;rw[if_neg (by simp)];rw[A.dt a.1 (λi (_:Unit)=>((i:Int),a,a,())) (λ_ b=>.next b) (λ_=>.next (a,a,())) () ?_ ?_ ?_]
 ·rw[dP,A.aF,A.bY];rw[A.dt a.2.2.2 (λi (_:Unit)=>((i:Int),a,a,())) (λ_ b=>.next b) (λ_=>.next (a,a,())) () ?_ ?_ ?_]
  ·rw[dP,A.aF,A.bY];rw[A.dt a.2.1 (λi (_:Unit)=>((i:Int),a,a,())) (λ_ b=>.next b) (λ_=>.next ()) () ?_ ?_ ?_]
   ·rw[dP,A.aF,A.bY]
   ·rfl
   ·intro i G _;have hw:=bz (n:=(i:Int)+1) (by omega) (by omega);obtain⟨hm,aD⟩:=a1 _ (List.getElem_mem G);simp only[bV,cU G,if_true,df G,cM G,A.bp,ch,hw];rw[if_neg (by simp)];rw[A.dt a.2.1[i] (λj (_:Unit)=>((i:Int),a.2.1[i],a.2.1[i],(j:Int),a,a,())) (λ_ b=>.next b) (λ_=>.next ((i:Int),a,a,())) () ?_ ?_ ?_]
    ·rw[dP,A.aF,A.bY];simp_all
    ·rfl
    ·intro j aE _;have hw:=bz (n:=(j:Int)+1) (by omega) (by omega);have br:uY.sh (a.2.1[i][j].2.1,a.2.1[i][j].2.1)=A.pure true:=E0 (aD _ (List.getElem_mem aE));simp_all
    simp
   simp
  ·rfl
  ·intro i G _;have hw:=bz (n:=(i:Int)+1) (by omega) (by omega);simp_all
  simp
 ·rfl
 ·intro i G _;have hw:=bz (n:=(i:Int)+1) (by omega) (by omega);simp_all
 simp
abbrev E1:aK:=⟨.ay uS uS,.bool,λx=>x.1=x.2/\e7 x.1.1/\H.ix x.1.2,λ_=>true⟩
theorem asn(x):A.le (YL JC.sh JD.sh uY.sh x) (E1.sh x):=A.bq λh=>by
 obtain⟨a,b⟩:=x;obtain⟨rfl,⟨E,U,ag,a1,bL,dm,fS⟩,hc⟩:a=b/\e7 a.1/\H.ix a.2:=h;unfold YL;rw[show JC.sh (a.2,a.2)=A.pure true from A.bR ⟨rfl,hc⟩ _,show JD.sh (a.1.1,a.1.1)=A.pure true from A.bR ⟨rfl,E⟩ _,E0 U];simp only[A.kE,A.aF];rw[if_neg (by simp)];rw[A.dt a.1.2.2.1 (λi (_:Unit)=>((i:Int),a.1,a.1,())) (λ_ b=>.next b) (λ_=>.next (a.1,a.1,())) () ?_ ?_ ?_]
 ·rw[dP,A.aF,A.bY];rw[A.dt a.1.2.2.2.1 (λi (_:Unit)=>((i:Int),a.1,a.1,())) (λ_ b=>.next b) (λ_=>.next (a.1,a.1,())) () ?_ ?_ ?_]
  ·rw[dP,A.aF,A.bY];rw[A.dt a.1.2.2.2.2.1 (λi (_:Unit)=>((i:Int),a.1,a.1,())) (λ_ b=>.next b) (λ_=>.next ()) () ?_ ?_ ?_]
   ·rw[dP,A.aF,A.bY]
   ·rfl
   ·intro i G _;have hw:=bz (n:=(i:Int)+1) (by omega) (by omega);simp_all
   simp
  ·rfl
  ·intro i G _;have hw:=bz (n:=(i:Int)+1) (by omega) (by omega);have br:uY.sh (a.1.2.2.2.1[i].1,a.1.2.2.2.1[i].1)=A.pure true:=E0 (fS _ (List.getElem_mem G));simp_all
  simp
 ·rfl
 ·intro i G _;have hw:=bz (n:=(i:Int)+1) (by omega) (by omega);have br:uY.sh (a.1.2.2.1[i].2.2.2.2,a.1.2.2.1[i].2.2.2.2)=A.pure true:=E0 (dm _ (List.getElem_mem G));simp_all
 simp
abbrev E2:Type:=Int×Int×Int×Int
def Qx(s:aT)(c:E2):E2:=
 if (!(uX s).2.2)=true then c else if decide ((uX s).1=[119,105,115,104])=true then (IntKind.wrap .i64 (c.1+1),c.2)
 else if decide ((uX s).1=[112,105,101,99,101])=true then (c.1,IntKind.wrap .i64 (c.2.1+1),c.2.2.1,IntKind.wrap .i64 (c.2.2.2+IntKind.wrap .i64 (((uX s).2.1.length:Int) - 4)))
 else if decide ((uX s).1=[99,111,109,101,115])=true then (c.1,c.2.1,IntKind.wrap .i64 (c.2.2.1+1),c.2.2.2) else c
def aav(d:bc):E2:=((d.1.2.2.2.1.length:Int),(d.1.2.2.1.length:Int),(d.1.2.2.2.2.1.length:Int),d.1.2.2.1.foldl (λn p=>IntKind.wrap .i64 (n+(p.2.2.2.2.length:Int))) 0)
def aso(c:E2):Bool:=decide (c.1 > 3)||decide (c.2.1 > 4)||decide (c.2.2.1 > 3)||decide (c.2.2.2 > 4)
def uZ(d:bc)(l:List aT):Bool:=
 if (rP d.1||H.k1 d.2||decide ((l.length:Int) > 60))=true then true else if (l.any λs=>decide ((s.length:Int) > 80))=true then true
 else decide (kn d=0)&&aso (l.foldl (λc s=>Qx s c) (aav d))
abbrev aaw(x:bc×List aT):Prop:=e7 x.1.1/\H.ix x.1.2/\x.2.length<2 ^ 63
abbrev E3:aK:=⟨.ay uS wD,.bool,aaw,λx=>uZ x.1 x.2⟩
theorem asp(x):A.le (YP rV.sh I7.sh H.wb.sh JB.sh x) (E3.sh x):=A.bq λh=>by
 obtain⟨d,l⟩:=x;obtain⟨E,U,ag⟩:aaw (d,l):=h;have jg:d.1.2.2.1.length<2 ^ 63:=E.2.2.1;change l.length<2 ^ 63 at ag;unfold YP;show _=A.pure (uZ d l);unfold uZ;rw[show I7.sh d.1=A.pure (rP d.1) from A.bR E _,A.aF,show H.wb.sh d.2=A.pure (H.k1 d.2) from A.bR U _,A.kE,A.aF];have e:(rP d.1||(if (!rP d.1)=true then H.k1 d.2 else false)||decide (Int.ofNat l.length > 60))=(rP d.1||H.k1 d.2||decide ((l.length:Int) > 60)):=by grind
 rw[e];by_cases ao:(rP d.1||H.k1 d.2||decide ((l.length:Int) > 60))=true
 ·grind
 ·rw[if_neg ao,if_neg ao];rw[A.dt d.1.2.2.1 (λi (n:Int)=>(l,(d.1.2.2.2.1.length:Int),(d.1.2.2.1.length:Int),(d.1.2.2.2.2.1.length:Int),n,(i:Int),d,())) (λp n=>.next (IntKind.wrap .i64 (n+(p.2.2.2.2.length:Int)))) (λn=>.next (l,(d.1.2.2.2.1.length:Int),(d.1.2.2.1.length:Int),(d.1.2.2.2.2.1.length:Int),n,d,())) 0 ?_ ?_ ?_]
  ·rw[dP,A.aF,A.bY];rw[A.dt l (λi (c:E2)=>(l,c.1,c.2.1,c.2.2.1,c.2.2.2,(i:Int),d,())) (λs c=>if decide ((s.length:Int) > 80)=true then .done (.done true) else .next (Qx s c)) (λc=>.next (c.1,c.2.1,c.2.2.1,c.2.2.2,d,())) (aav d) ?_ ?_ ?_]
   ·rw[Qv,A.aF];by_cases ba:(l.any λs=>decide ((s.length:Int) > 80))=true
    ·simp_all
    ·rw[if_neg ba,if_neg ba,A.bY];rw[show rV.sh d=A.pure (kn d) from A.bR ⟨E,U⟩ _,A.aF];rfl
   ·rfl
   ·intro i G c;have hw:=bz (n:=(i:Int)+1) (by omega) (by omega);simp only[Prod.c_,Prod.fs,Prod.gO,bV,cU G,if_true,df G,cM G,A.bp,ch];by_cases hc:decide ((l[i].length:Int) > 80)=true
    ·simp_all
    ·rw[if_neg hc,if_neg hc];rw[asi (by grind),A.aF];unfold Qx;split
     ·simp_all
     ·split
      ·simp_all
      ·split
       ·simp_all
       ·split
        ·rw[A.aF,A.bY];simp only[hw];rfl
        ·rw[A.aF,A.bY];simp only[hw];rfl
   simp
  ·rfl
  ·intro i G n;have hw:=bz (n:=(i:Int)+1) (by omega) (by omega);simp_all
  simp
theorem asq{d:bc}{l:List aT}{n:Int}(E:e7 d.1)(U:H.ix d.2)(h:(!uZ d l&&decide (kn d=0)&&decide ((l.length:Int)<=n))=true):dk d/\(l.length:Int)<=n/\∀ s∈l,s.length<=80:=by
 simp only[Bool.and_eq_true,Bool.not_eq_true',decide_eq_true_eq]at h;obtain⟨⟨ao,he⟩,aA⟩:=h;unfold uZ at ao;split at ao
 ·grind
 ·rename_i ba;split at ao
  ·grind
  ·rename_i W;simp only[Bool.or_eq_true,not_or,Bool.not_eq_true]at ba;refine⟨Qu E (H.ano ba.1.2) he,aA,λs aD=>?_⟩;grind
theorem asr:e7 qH.1/\H.ix qH.2:=⟨aqQ,by decide,by decide,by decide,by decide⟩
theorem ass:H.gI qH.2:=⟨⟨by decide,by decide,by decide,by decide⟩,λ_=>by decide +kernel⟩
theorem aax{d:bc}(au:dk d){l:List aT}(ayQ:l.length<=40)(aj:∀ s∈l,s.length<=10000):uW.sh (d,l)=A.pure ((gS (iw d) l).1,(gS (iw d) l).2,0):=by
 have e:uW.sh (d,l)=A.pure (EV d l):=A.bR ⟨au.fK,au.gI,by show l.length<2 ^ 63;omega,aj⟩ _;rw[e];unfold EV;rw[if_neg (by rw[au.arj];decide),if_neg (by omega)]
end Go.Fer.ar
namespace Go.Proofs
open Go.Shelf
theorem cI{P:Program}{k:Nat}{f g:Func}(h:P.funcs[k]?=some f)(e:f=g:=by kernel_rfl):P.funcs[k]?=some g:=h.trans (congrArg some e)
open Tryz
def Tryz.aay:Go.Shelf.Ren:=⟨fun | 156=>258 | 165=>318 | 166=>319 | 169=>320 | 240=>358 | 241=>359 | 276=>386 | 277=>387 | n=>n,fun | 31=>48 | 9=>9 | 3=>3 | 4=>4 | 0=>0 | 20=>20 | 72=>345 | 76=>267 | 70=>343 | 37=>171 | 75=>266 | 127=>380 | 164=>405 | 5=>5 | 80=>347 | n=>n,fun | n=>n⟩
theorem Tryz.aaz : Go.Proofs.Lays.n156 Tryz.prog Tryz.aay := {
  mixed:=by kernel_rfl
  f156:=cI func258
  f165:=cI func318
  f166:=cI func319
  f169:=cI func320
  f240:=cI func358
  f241:=cI func359
  f276:=cI func386
  f277:=cI func387
  t0:=underlying0
  a0:=isAgg0
  z0:=sizeOf0
  v0:=zeroValue0
  t3:=underlying3
  a3:=isAgg3
  z3:=sizeOf3
  v3:=zeroValue3
  t4:=underlying4
  a4:=isAgg4
  z4:=sizeOf4
  v4:=zeroValue4
  t9:=underlying9
  a9:=isAgg9
  z9:=sizeOf9
  v9:=zeroValue9
  t20:=underlying20
  a20:=isAgg20
  z20:=sizeOf20
  v20:=zeroValue20
  t31:=underlying48
  a31:=isAgg48
  z31:=sizeOf48
  v31:=zeroValue48
  t37:=underlying171
  a37:=isAgg171
  z37:=sizeOf171
  v37:=zeroValue171
  t70:=underlying343
  a70:=isAgg343
  z70:=sizeOf343
  v70:=zeroValue343
  t72:=underlying345
  a72:=isAgg345
  z72:=sizeOf345
  v72:=zeroValue345
  t75:=underlying266
  a75:=isAgg266
  z75:=sizeOf266
  v75:=zeroValue266
  t76:=underlying267
  a76:=isAgg267
  z76:=sizeOf267
  v76:=zeroValue267
  t127:=underlying380
  a127:=isAgg380
  z127:=sizeOf380
  v127:=zeroValue380
  t164:=underlying405
  a164:=isAgg405
  z164:=sizeOf405
  v164:=zeroValue405 }
theorem Tryz.aaA : Builder.Extra Tryz.prog Tryz.aay := {
  sizeBuilder:=by kernel_rfl
  liesBuilder:=by kernel_rfl
  t5:=underlying5
  a5:=isAgg5
  z5:=sizeOf5
  v5:=zeroValue5
  infoByte:=by kernel_rfl
  cellsByte:=by kernel_rfl
  sizeByte:=by kernel_rfl
  neB5:=by decide }
def Tryz.ast:Go.Shelf.Ren:=⟨fun | 171=>204 | 243=>264 | 246=>330 | 283=>368 | 284=>369 | 285=>370 | 286=>371 | 129=>291 | 317=>392 | 318=>393 | 319=>394 | 320=>395 | 337=>399 | 338=>400 | n=>n,fun | 3=>3 | 9=>9 | 2=>2 | 4=>4 | 171=>386 | 0=>0 | 53=>285 | 37=>171 | 5=>5 | 173=>388 | 212=>418 | 51=>282 | 20=>20 | 213=>419 | 46=>228 | 232=>423 | 233=>424 | n=>n,fun | 17=>5 | 18=>6 | 19=>7 | n=>n⟩
theorem Tryz.aaB : Go.Proofs.LaysM.n171 Tryz.prog Tryz.ast := {
  mixed:=by kernel_rfl
  f129:=cI func291
  f171:=cI func204
  f243:=cI func264
  f246:=cI func330
  f283:=cI func368
  f284:=cI func369
  f285:=cI func370
  f286:=cI func371
  f317:=cI func392
  f318:=cI func393
  f319:=cI func394
  f320:=cI func395
  f337:=cI func399
  f338:=cI func400
  t0:=underlying0
  a0:=isAgg0
  z0:=sizeOf0
  v0:=zeroValue0
  t2:=underlying2
  a2:=isAgg2
  z2:=sizeOf2
  v2:=zeroValue2
  t3:=underlying3
  a3:=isAgg3
  z3:=sizeOf3
  v3:=zeroValue3
  t4:=underlying4
  a4:=isAgg4
  z4:=sizeOf4
  v4:=zeroValue4
  t5:=underlying5
  a5:=isAgg5
  z5:=sizeOf5
  v5:=zeroValue5
  t9:=underlying9
  a9:=isAgg9
  z9:=sizeOf9
  v9:=zeroValue9
  t20:=underlying20
  a20:=isAgg20
  z20:=sizeOf20
  v20:=zeroValue20
  t37:=underlying171
  a37:=isAgg171
  z37:=sizeOf171
  v37:=zeroValue171
  t46:=underlying228
  a46:=isAgg228
  z46:=sizeOf228
  v46:=zeroValue228
  t51:=underlying282
  a51:=isAgg282
  z51:=sizeOf282
  v51:=zeroValue282
  t53:=underlying285
  a53:=isAgg285
  z53:=sizeOf285
  v53:=zeroValue285
  t171:=underlying386
  a171:=isAgg386
  z171:=sizeOf386
  v171:=zeroValue386
  t173:=underlying388
  a173:=isAgg388
  z173:=sizeOf388
  v173:=zeroValue388
  t212:=underlying418
  a212:=isAgg418
  z212:=sizeOf418
  v212:=zeroValue418
  t213:=underlying419
  a213:=isAgg419
  z213:=sizeOf419
  t232:=underlying423
  a232:=isAgg423
  z232:=sizeOf423
  v232:=zeroValue423
  t233:=underlying424
  a233:=isAgg424
  z233:=sizeOf424
  v233:=zeroValue424
  g17:=by kernel_rfl
  g18:=by kernel_rfl
  g19:=by kernel_rfl
  i0:=by kernel_rfl
  i2:=by kernel_rfl
  i3:=by kernel_rfl
  i4:=by kernel_rfl
  i5:=by kernel_rfl
  i9:=by kernel_rfl
  i20:=by kernel_rfl
  i37:=by kernel_rfl
  i46:=by kernel_rfl
  i51:=by kernel_rfl
  i53:=by kernel_rfl
  i171:=by kernel_rfl
  i173:=by kernel_rfl
  i212:=by kernel_rfl
  i232:=by kernel_rfl
  i233:=by kernel_rfl
  m17:=by kernel_rfl
  m18:=by kernel_rfl
  m19:=by kernel_rfl }
def Tryz.asu:Go.Shelf.Ren:=⟨fun | 172=>203 | 244=>262 | 245=>263 | 247=>325 | 279=>326 | 280=>327 | 281=>328 | 282=>329 | 287=>365 | 316=>366 | 171=>204 | 205=>367 | 321=>390 | 322=>391 | 243=>264 | 246=>330 | 283=>368 | 284=>369 | 285=>370 | 286=>371 | 129=>291 | 317=>392 | 318=>393 | 319=>394 | 320=>395 | 337=>399 | 338=>400 | n=>n,fun | 9=>9 | 3=>3 | 75=>266 | 76=>267 | 4=>4 | 5=>5 | 167=>351 | 37=>171 | 0=>0 | 85=>352 | 2=>2 | 168=>354 | 53=>285 | 175=>381 | 46=>228 | 210=>384 | 127=>380 | 145=>416 | 143=>414 | 21=>21 | 171=>386 | 173=>388 | 212=>418 | 51=>282 | 20=>20 | 213=>419 | 232=>423 | 233=>424 | 80=>347 | n=>n,fun | 15=>1 | 16=>2 | 17=>5 | 18=>6 | 19=>7 | n=>n⟩
theorem Tryz.Qy : Go.Proofs.LaysC.n172 Tryz.prog Tryz.asu := {
  mixed:=by kernel_rfl
  f129:=cI func291
  f171:=cI func204
  f172:=cI func203
  f205:=cI func367
  f243:=cI func264
  f244:=cI func262
  f245:=cI func263
  f246:=cI func330
  f247:=cI func325
  f279:=cI func326
  f280:=cI func327
  f281:=cI func328
  f282:=cI func329
  f283:=cI func368
  f284:=cI func369
  f285:=cI func370
  f286:=cI func371
  f287:=cI func365
  f316:=cI func366
  f317:=cI func392
  f318:=cI func393
  f319:=cI func394
  f320:=cI func395
  f321:=cI func390
  f322:=cI func391
  f337:=cI func399
  f338:=cI func400
  t0:=underlying0
  a0:=isAgg0
  z0:=sizeOf0
  v0:=zeroValue0
  t2:=underlying2
  a2:=isAgg2
  z2:=sizeOf2
  v2:=zeroValue2
  t3:=underlying3
  a3:=isAgg3
  z3:=sizeOf3
  v3:=zeroValue3
  t4:=underlying4
  a4:=isAgg4
  z4:=sizeOf4
  v4:=zeroValue4
  t5:=underlying5
  a5:=isAgg5
  z5:=sizeOf5
  v5:=zeroValue5
  t9:=underlying9
  a9:=isAgg9
  z9:=sizeOf9
  v9:=zeroValue9
  t20:=underlying20
  a20:=isAgg20
  z20:=sizeOf20
  v20:=zeroValue20
  t21:=underlying21
  a21:=isAgg21
  z21:=sizeOf21
  v21:=zeroValue21
  t37:=underlying171
  a37:=isAgg171
  z37:=sizeOf171
  v37:=zeroValue171
  t46:=underlying228
  a46:=isAgg228
  z46:=sizeOf228
  v46:=zeroValue228
  t51:=underlying282
  a51:=isAgg282
  z51:=sizeOf282
  v51:=zeroValue282
  t53:=underlying285
  a53:=isAgg285
  z53:=sizeOf285
  v53:=zeroValue285
  t75:=underlying266
  a75:=isAgg266
  z75:=sizeOf266
  v75:=zeroValue266
  t76:=underlying267
  a76:=isAgg267
  z76:=sizeOf267
  v76:=zeroValue267
  t85:=underlying352
  a85:=isAgg352
  z85:=sizeOf352
  v85:=zeroValue352
  t127:=underlying380
  a127:=isAgg380
  z127:=sizeOf380
  v127:=zeroValue380
  t143:=underlying414
  a143:=isAgg414
  z143:=sizeOf414
  v143:=zeroValue414
  t145:=underlying416
  a145:=isAgg416
  z145:=sizeOf416
  v145:=zeroValue416
  t167:=underlying351
  a167:=isAgg351
  z167:=sizeOf351
  v167:=zeroValue351
  t168:=underlying354
  a168:=isAgg354
  z168:=sizeOf354
  v168:=zeroValue354
  t171:=underlying386
  a171:=isAgg386
  z171:=sizeOf386
  v171:=zeroValue386
  t173:=underlying388
  a173:=isAgg388
  z173:=sizeOf388
  v173:=zeroValue388
  t175:=underlying381
  a175:=isAgg381
  z175:=sizeOf381
  v175:=zeroValue381
  t210:=underlying384
  a210:=isAgg384
  z210:=sizeOf384
  v210:=zeroValue384
  t212:=underlying418
  a212:=isAgg418
  z212:=sizeOf418
  v212:=zeroValue418
  t213:=underlying419
  a213:=isAgg419
  z213:=sizeOf419
  t232:=underlying423
  a232:=isAgg423
  z232:=sizeOf423
  v232:=zeroValue423
  t233:=underlying424
  a233:=isAgg424
  z233:=sizeOf424
  v233:=zeroValue424
  g15:=by kernel_rfl
  g16:=by kernel_rfl
  g17:=by kernel_rfl
  g18:=by kernel_rfl
  g19:=by kernel_rfl
  t80:=underlying347
  a80:=isAgg347
  z80:=sizeOf347
  v80:=zeroValue347
  i0:=by kernel_rfl
  i2:=by kernel_rfl
  i3:=by kernel_rfl
  i4:=by kernel_rfl
  i5:=by kernel_rfl
  i9:=by kernel_rfl
  i20:=by kernel_rfl
  i21:=by kernel_rfl
  i37:=by kernel_rfl
  i46:=by kernel_rfl
  i51:=by kernel_rfl
  i53:=by kernel_rfl
  i75:=by kernel_rfl
  i76:=by kernel_rfl
  i80:=by kernel_rfl
  i85:=by kernel_rfl
  i127:=by kernel_rfl
  i143:=by kernel_rfl
  i145:=by kernel_rfl
  i167:=by kernel_rfl
  i168:=by kernel_rfl
  i171:=by kernel_rfl
  i173:=by kernel_rfl
  i175:=by kernel_rfl
  i210:=by kernel_rfl
  i212:=by kernel_rfl
  i232:=by kernel_rfl
  i233:=by kernel_rfl
  m15:=by kernel_rfl
  m16:=by kernel_rfl
  m17:=by kernel_rfl
  m18:=by kernel_rfl
  m19:=by kernel_rfl
  c0:=by kernel_rfl
  c2:=by kernel_rfl
  c3:=by kernel_rfl
  c4:=by kernel_rfl
  c5:=by kernel_rfl
  c9:=by kernel_rfl
  c20:=by kernel_rfl
  c21:=by kernel_rfl
  c37:=by kernel_rfl
  c46:=by kernel_rfl
  c51:=by kernel_rfl
  c53:=by kernel_rfl
  c75:=by kernel_rfl
  c76:=by kernel_rfl
  c80:=by kernel_rfl
  c85:=by kernel_rfl
  c127:=by kernel_rfl
  c143:=by kernel_rfl
  c145:=by kernel_rfl
  c167:=by kernel_rfl
  c168:=by kernel_rfl
  c171:=by kernel_rfl
  c173:=by kernel_rfl
  c175:=by kernel_rfl
  c210:=by kernel_rfl
  c212:=by kernel_rfl
  c213:=by kernel_rfl
  c232:=by kernel_rfl
  c233:=by kernel_rfl }
open Go.RowKit in
theorem Tryz.strconv_Atoi_ok(s:ByteArray)(zp:s.size<=9223372036854775806)(v:Int)(h:Lib.atoiAll s.data.toList=.ok v)(w:World) :
  Calls Tryz.prog 203 #[.string s] w λe w'=>e=.returned (.tuple #[.int .i64 v,.nilIface])/\(w'=w\/∃ t,w'=Lib.bytesWorld w 5 t):=Any.strconv_Atoi_ok Tryz.Qy s zp v h w
open Go.RowKit in
theorem Tryz.strconv_Atoi_syntax(s:ByteArray)(sa:s.size<=281474976710656)(h:Lib.atoiAll s.data.toList=Lib.atoiAll [])(h':Value)(w:World)(ae:w.cell? ⟨1,0,none⟩=some h')(pF:h'=.nilIface\/∃ lI mc,h'=.iface lI mc) :
  Calls Tryz.prog 203 #[.string s] w λe w'=>∃ N,e=.returned (.tuple #[.int .i64 (0),.iface 354 (.pointer (some ⟨N,0,none⟩))])/\w.heap.size<=N/\w'.heap[N]?=some (.cells #[.string ⟨#[65,116,111,105]⟩,.string s,h'] 384 (0,0))/\Below w.heap.size w w':=Any.strconv_Atoi_syntax Tryz.Qy s sa h h' w ae pF
open Go.RowKit in
theorem Tryz.strconv_Atoi_range(s:ByteArray)(sa:s.size<=281474976710656)(h:Lib.atoiAll s.data.toList=.range)(h':Value)(w:World)(ae:w.cell? ⟨2,0,none⟩=some h')(pF:h'=.nilIface\/∃ lI mc,h'=.iface lI mc) :
  Calls Tryz.prog 203 #[.string s] w λe w'=>∃ N,e=.returned (.tuple #[.int .i64 (Lib.atoiSat s.data.toList),.iface 354 (.pointer (some ⟨N,0,none⟩))])/\w.heap.size<=N/\w'.heap[N]?=some (.cells #[.string ⟨#[65,116,111,105]⟩,.string s,h'] 384 (0,0))/\Below w.heap.size w w':=Any.strconv_Atoi_range Tryz.Qy s sa h h' w ae pF
def Tryz.asv:Go.Shelf.Ren:=⟨fun | 146=>139 | 221=>202 | 268=>259 | 138=>260 | 143=>261 | 195=>321 | 197=>322 | 218=>323 | 219=>324 | 260=>360 | 217=>361 | 225=>362 | 224=>363 | 267=>364 | 266=>388 | 314=>389 | n=>n,fun | 9=>9 | 31=>48 | 3=>3 | 4=>4 | 0=>0 | 105=>348 | 21=>21 | 5=>5 | 46=>228 | 119=>408 | 139=>411 | 138=>410 | 146=>283 | 51=>282 | n=>n,fun | 1=>0 | 3=>3 | 4=>4 | n=>n⟩
theorem Tryz.asw : Go.Proofs.Lays.n146 Tryz.prog Tryz.asv := {
  mixed:=by kernel_rfl
  f138:=cI func260
  f143:=cI func261
  f146:=cI func139
  f195:=cI func321
  f197:=cI func322
  f217:=cI func361
  f218:=cI func323
  f219:=cI func324
  f221:=cI func202
  f224:=cI func363
  f225:=cI func362
  f260:=cI func360
  f266:=cI func388
  f267:=cI func364
  f268:=cI func259
  f314:=cI func389
  t0:=underlying0
  a0:=isAgg0
  z0:=sizeOf0
  v0:=zeroValue0
  t3:=underlying3
  a3:=isAgg3
  z3:=sizeOf3
  v3:=zeroValue3
  t4:=underlying4
  a4:=isAgg4
  z4:=sizeOf4
  v4:=zeroValue4
  t5:=underlying5
  a5:=isAgg5
  z5:=sizeOf5
  v5:=zeroValue5
  t9:=underlying9
  a9:=isAgg9
  z9:=sizeOf9
  v9:=zeroValue9
  t21:=underlying21
  a21:=isAgg21
  z21:=sizeOf21
  v21:=zeroValue21
  t31:=underlying48
  a31:=isAgg48
  z31:=sizeOf48
  v31:=zeroValue48
  t46:=underlying228
  a46:=isAgg228
  z46:=sizeOf228
  v46:=zeroValue228
  t51:=underlying282
  a51:=isAgg282
  z51:=sizeOf282
  v51:=zeroValue282
  t105:=underlying348
  a105:=isAgg348
  z105:=sizeOf348
  v105:=zeroValue348
  t119:=underlying408
  a119:=isAgg408
  z119:=sizeOf408
  t138:=underlying410
  a138:=isAgg410
  z138:=sizeOf410
  v138:=zeroValue410
  t139:=underlying411
  a139:=isAgg411
  z139:=sizeOf411
  v139:=zeroValue411
  t146:=underlying283
  a146:=isAgg283
  z146:=sizeOf283
  v146:=zeroValue283
  g1:=by kernel_rfl
  g3:=by kernel_rfl
  g4:=by kernel_rfl }
def Tryz.asx:Go.Shelf.Ren:=⟨fun | 189=>161 | 125=>215 | 257=>214 | 128=>290 | 129=>291 | 294=>281 | 295=>282 | 296=>283 | 297=>284 | 298=>285 | 299=>286 | 216=>287 | 300=>288 | 301=>289 | 328=>340 | 329=>341 | 330=>342 | 331=>343 | 332=>344 | 215=>339 | 343=>383 | n=>n,fun | 28=>27 | 3=>3 | 46=>228 | 0=>0 | 51=>282 | 53=>285 | 4=>4 | 183=>314 | 182=>313 | 131=>193 | 5=>5 | 9=>9 | 218=>359 | 222=>363 | 228=>398 | 229=>331 | n=>n,fun | n=>n⟩
theorem Tryz.aaC : Go.Proofs.Lays.n189 Tryz.prog Tryz.asx := {
  mixed:=by kernel_rfl
  f125:=cI func215
  f128:=cI func290
  f129:=cI func291
  f189:=cI func161
  f215:=cI func339
  f216:=cI func287
  f257:=cI func214
  f294:=cI func281
  f295:=cI func282
  f296:=cI func283
  f297:=cI func284
  f298:=cI func285
  f299:=cI func286
  f300:=cI func288
  f301:=cI func289
  f328:=cI func340
  f329:=cI func341
  f330:=cI func342
  f331:=cI func343
  f332:=cI func344
  f343:=cI func383
  t0:=underlying0
  a0:=isAgg0
  z0:=sizeOf0
  v0:=zeroValue0
  t3:=underlying3
  a3:=isAgg3
  z3:=sizeOf3
  v3:=zeroValue3
  t4:=underlying4
  a4:=isAgg4
  z4:=sizeOf4
  v4:=zeroValue4
  t5:=underlying5
  a5:=isAgg5
  z5:=sizeOf5
  v5:=zeroValue5
  t9:=underlying9
  a9:=isAgg9
  z9:=sizeOf9
  v9:=zeroValue9
  t28:=underlying27
  a28:=isAgg27
  z28:=sizeOf27
  v28:=zeroValue27
  t46:=underlying228
  a46:=isAgg228
  z46:=sizeOf228
  v46:=zeroValue228
  t51:=underlying282
  a51:=isAgg282
  z51:=sizeOf282
  v51:=zeroValue282
  t53:=underlying285
  a53:=isAgg285
  z53:=sizeOf285
  v53:=zeroValue285
  t131:=underlying193
  a131:=isAgg193
  z131:=sizeOf193
  v131:=zeroValue193
  t182:=underlying313
  a182:=isAgg313
  z182:=sizeOf313
  v182:=zeroValue313
  t183:=underlying314
  a183:=isAgg314
  z183:=sizeOf314
  v183:=zeroValue314
  t218:=underlying359
  a218:=isAgg359
  z218:=sizeOf359
  v218:=zeroValue359
  t222:=underlying363
  a222:=isAgg363
  z222:=sizeOf363
  v222:=zeroValue363
  t228:=underlying398
  a228:=isAgg398
  z228:=sizeOf398
  v228:=zeroValue398
  t229:=underlying331
  a229:=isAgg331
  z229:=sizeOf331
  v229:=zeroValue331 }
def Tryz.asy:Go.Shelf.Ren:=⟨fun | 4=>257 | n=>n,fun | 22=>27 | 25=>3 | 3=>3 | 4=>4 | 9=>9 | 20=>20 | 0=>0 | n=>n,fun | n=>n⟩
theorem Tryz.aaD : Go.Proofs.Lays8.n4 Tryz.prog Tryz.asy := {
  mixed:=by kernel_rfl
  f4:=⟨Tryz.f257.name,by decide,cI func257⟩
  t0:=underlying0
  a0:=isAgg0
  z0:=sizeOf0
  v0:=zeroValue0
  t3:=underlying3
  a3:=isAgg3
  z3:=sizeOf3
  v3:=zeroValue3
  t4:=underlying4
  a4:=isAgg4
  z4:=sizeOf4
  v4:=zeroValue4
  t9:=underlying9
  a9:=isAgg9
  z9:=sizeOf9
  v9:=zeroValue9
  t20:=underlying20
  a20:=isAgg20
  z20:=sizeOf20
  v20:=zeroValue20
  t22:=underlying27
  a22:=isAgg27
  z22:=sizeOf27
  v22:=zeroValue27 }
def Tryz.asz:Go.Shelf.Ren:=⟨fun | 4=>256 | n=>n,fun | 22=>34 | 25=>125 | 3=>3 | 4=>4 | 9=>9 | 20=>20 | 0=>0 | n=>n,fun | n=>n⟩
theorem Tryz.aaE : Go.Proofs.Lays8.n4 Tryz.prog Tryz.asz := {
  mixed:=by kernel_rfl
  f4:=⟨Tryz.f256.name,by decide,cI func256⟩
  t0:=underlying0
  a0:=isAgg0
  z0:=sizeOf0
  v0:=zeroValue0
  t3:=underlying3
  a3:=isAgg3
  z3:=sizeOf3
  v3:=zeroValue3
  t4:=underlying4
  a4:=isAgg4
  z4:=sizeOf4
  v4:=zeroValue4
  t9:=underlying9
  a9:=isAgg9
  z9:=sizeOf9
  v9:=zeroValue9
  t20:=underlying20
  a20:=isAgg20
  z20:=sizeOf20
  v20:=zeroValue20
  t22:=underlying34
  a22:=isAgg34
  z22:=sizeOf34
  v22:=zeroValue34 }
end Go.Proofs
namespace Go.Fer.ar
theorem aaF:∀ s:aT,(Go.Lib.index s [32]=-1/\cH s=[s])\/∃ t r,s=t++32::r/\Go.Lib.index s [32]=(t.length:Int)/\cH s=t::cH r
 | []=>.inl ⟨rfl,rfl⟩
 | b::l=>by
  unfold Go.Lib.index;by_cases W:b=32
  ·subst W;exact .inr ⟨[],l,rfl,by rfl,by rfl⟩
  ·have an:List.isPrefixOf [32] (b::l)=false:=by
    grind
   rw[an];have aD:=uT l;rcases aaF l with⟨E,U⟩ | ⟨t,r,E,U,ag⟩
   ·rw[E];refine .inl ⟨rfl,?_⟩;unfold cH;grind
   ·rw[U];refine .inr ⟨b::t,r,by grind,?_,?_⟩
    ·rfl
    ·conv=>lhs;unfold cH
     grind
theorem asA:∀ (n:Nat) (s:aT),s.length<=n->Go.Lib.splitK [32] 0 (Go.Lib.count s [32]) s=cH s:=by
 intro n;induction n with
 | zero=>
  intro s h;have:s=[]:=List.eq_nil_of_length_eq_zero (by omega);subst this;rfl
 | succ n aJ=>
  intro s h;rcases aaF s with⟨E,U⟩ | ⟨t,r,E,U,ag⟩
  ·rw[Go.Lib.count_miss E,U];rfl
  ·rw[Go.Lib.count_hit (by simp) U,ag,Nat.add_comm,Go.Lib.splitK,U];have:((t.length:Int) == -1)=false:=by rfl
   rw[this];have e:((t.length:Int)).toNat=t.length:=rfl;have Ee:s.drop (t.length+1)=r:=by simp_all
   grind
end Go.Fer.ar
namespace Go.Fer.oe
open Go Go.Proofs Go.RowKit
section
variable {P:Program} {F:Nat->Prop} {w:World}
theorem Qz(x:List UInt8):(ByteArray.mk x.toArray).data.toList=x:=by simp
theorem JE(x:List UInt8):(ByteArray.mk x.toArray).size=x.length:=by rfl
theorem QA{args:List Value}{x:List UInt8}(h:fp P .str F w args x):args=[.string ⟨x.toArray⟩]/\x.length<2 ^ 63:=by
 obtain⟨v,rfl,ae⟩:=(r0 rfl).1 h;obtain⟨rfl,aj⟩:=me.1 ae;grind
theorem asB{args:List Value}{x y:List UInt8}(h:fp P (.ay .str .str) F w args (x,y)):args=[.string ⟨x.toArray⟩,.string ⟨y.toArray⟩]/\x.length<2 ^ 63/\y.length<2 ^ 63:=by
 obtain⟨v,us,rfl,ae,hu⟩:=Fm h;obtain⟨rfl,aj⟩:=me.1 ae;obtain⟨rfl,gv⟩:=QA hu;grind
theorem asC(w:World)(k:Nat)(os:Array Obj):Below w.heap.size w (Go.Sort.grow (w.drewN k) os):=by
 refine⟨rfl,rfl,rfl,?_,λj aE=>?_⟩
 ·simp
 ·show (w.heap++os)[j]?=_;grind
theorem JF(h:nG Tryz.prog F w){b:Nat}(W:b<6):F b/\Rg b λi=>w.cell? ⟨b,i,none⟩:=h b (Nat.lt_of_lt_of_le W (of_decide_eq_true (by rfl)))
end
theorem aaG(sep:ByteArray):∀ (k:Nat) (s:ByteArray),∀ x∈Lib.splitB sep 0 k s,x.size<=s.size
 | 0,s,x,ah=>by
  unfold Lib.splitB at ah;grind
 | k+1,s,x,ah=>by
  unfold Lib.splitB at ah;split at ah
  ·grind
  ·simp only[List.mem_cons]at ah;rcases ah with rfl | ah
   ·rw[ByteArray.size_extract];omega
   ·have:=aaG sep k _ x ah;rw[ByteArray.size_extract]at this;omega
def qd(s sep:List UInt8):List (List UInt8):=(Lib.splitB ⟨sep.toArray⟩ 0 (Lib.countB ⟨s.toArray⟩ ⟨sep.toArray⟩) ⟨s.toArray⟩).map (·.data.toList)
theorem asD(s:List UInt8):qd s [32]=ar.cH s:=by
 unfold qd;rw[Lib.splitB_data];exact ar.asA s.length s (Nat.le_refl _)
abbrev asE:Code:=Tryz.f139.body.getD .skip
theorem asF:h1 Tryz.prog 139 (.ay .str .str) (.slice .str) ar.Jr.sh where
 enter:=uh Tryz.func139 (show Tryz.f139.body=some asE by rfl) (by rfl)
 iU:=λF w args x bo gr ba aD=>by
  obtain⟨s,sep⟩:=x;obtain⟨aD,E⟩:s.length<=10000/\sep=[32]:=aD;subst E;obtain⟨rfl,aj,gv⟩:=asB ba;obtain⟨_,m,hm⟩:=JF gr (b:=0) (by decide);have cd:1<=(ByteArray.mk [32].toArray).size:=by decide
  refine (Any.strings_Split Tryz.asw (by kernel_rfl) ⟨s.toArray⟩ ⟨[32].toArray⟩ m w (by rw[JE];omega) hm cd).mono ?_;rintro e w' ⟨rfl,rfl⟩;have hlen:=Lib.splitB_all ⟨[32].toArray⟩ cd 0 _ ⟨s.toArray⟩ rfl;have rm:=Lib.countB_le ⟨[32].toArray⟩ cd _ ⟨s.toArray⟩ (Nat.le_refl _);rw[JE]at rm;have ka:=aaG ⟨[32].toArray⟩ (Lib.countB ⟨s.toArray⟩ ⟨[32].toArray⟩) ⟨s.toArray⟩;rw[JE]at ka;have xc:(qd s [32]).length=Lib.countB ⟨s.toArray⟩ ⟨[32].toArray⟩+1:=by unfold qd;grind
  refine⟨_,qd s [32],rfl,asD s,⟨[_],rfl,(r0 rfl).2 ⟨_,rfl,(dU rfl).2 ⟨rfl,some ⟨w.heap.size,0,none⟩,Lib.countB ⟨s.toArray⟩ ⟨[32].toArray⟩+1,by rw[xc],by omega,by omega,nofun,λp an hc=>?_⟩⟩⟩,?_⟩
  ·cases an;refine⟨.inr ⟨Nat.le_refl _,by simp⟩,rfl,λi G=>?_⟩;have dz:i<(Lib.splitB ⟨[32].toArray⟩ 0 (Lib.countB ⟨s.toArray⟩ ⟨[32].toArray⟩) ⟨s.toArray⟩).length:=by omega
   generalize aS:Lib.splitB ⟨[32].toArray⟩ 0 (Lib.countB ⟨s.toArray⟩ ⟨[32].toArray⟩) ⟨s.toArray⟩=B at dz ka hlen;have jv:(qd s [32])[i]=B[i].data.toList:=by
    have U:qd s [32]=B.map (·.data.toList):=by unfold qd;rw[aS]
    grind
   have bG:Value.string B[i]=.string ⟨(B[i].data.toList).toArray⟩:=by simp
   refine⟨[.string B[i]],⟨.inr ⟨Nat.le_refl _,by simp⟩,rfl,λj aE=>?_⟩,?_,?_⟩
   ·have aE:j=0:=by grind
    subst aE;rw[vc (p1 w _)];have aw:0+i*ad.size .str+0=i:=by show 0+i*1+0=i;omega
    grind
   ·simp_all
   ·have:=ka _ (List.getElem_mem dz);have e:(B[i]).data.toList.length=(B[i]).size:=Array.length_toList;grind
  ·exact (Below.refl _ _).alloc (Nat.le_refl _) _
theorem aaH{F : Nat -> Prop}{w : World}(h : nG Tryz.prog F w) : Lib.TabIs Tryz.prog w "internal/strconv.uint64pow10" .u64 Lib.pow10Tab := by
 have bL:∀ i,w.cell? ⟨5,i,none⟩=if i<20 then some (.int .u64 (10 ^ i)) else none:=(JF h (b:=5) (by decide)).2
 unfold Lib.TabIs World.var?;rw[show Tryz.prog.globalNamed "internal/strconv.uint64pow10" = some 5 by rfl];show (match w.heap[5]? with | some (.cells cs _ _)=>some cs | _=>none)=_;have aX:=bL 0;cases af:w.heap[5]? with
 | none=>simp[World.cell?,af]at aX
 | some o=>
  cases o with
  | cells cs T sS=>
   simp only[Option.some.injEq];apply Array.ext_getElem?;intro i;have G:=bL i;simp only[World.cell?,af,Option.isSome_none,Bool.false_eq_true,if_false]at G;rw[G];split
   ·rename_i By;simp only[List.getElem?_toArray,List.getElem?_map,Lib.pow10Tab];grind
   ·rename_i By;rw[Array.getElem?_eq_none];simp[Lib.pow10Tab];omega
  | _=>simp[World.cell?,af]at aX
abbrev asG:Code:=Tryz.f204.body.getD .skip
theorem asH{P:Program}{F:Nat->Prop}{w:World}{args:List Value}{x:Int}(h:fp P (.int .i64) F w args x):args=[.int .i64 x]/\fU .i64 x:=by
 obtain⟨v,rfl,ae⟩:=(r0 rfl).1 h;obtain⟨rfl,aj⟩:=gU.1 ae;grind
theorem asI{n:Int}(h:fU .i64 n):-9223372036854775808<=n/\n<=9223372036854775807:=h
theorem asJ:h1 Tryz.prog 204 (.int .i64) .str ar.Ji.sh where
 enter:=uh Tryz.func204 (show Tryz.f204.body=some asG by rfl) (by rfl)
 iU:=λF w args x bo gr ba aD=>by
  change Int at x;obtain⟨rfl,M⟩:=asH ba;obtain⟨aX,E⟩:=asI M;refine (Any.strconv_Itoa Tryz.aaB x aX E w (aaH gr)).mono ?_;rintro e w' ⟨rfl,k,os,rfl⟩;have ah:ar.rR x=Lib.itoa x:=by unfold ar.rR;rw[bz aX (by omega)]
  refine⟨_,ar.rR x,rfl,rfl,⟨[_],rfl,(r0 rfl).2 ⟨_,rfl,me.2 ⟨by rw[ah],Nat.lt_of_le_of_lt (ar.P3 x) (by decide)⟩⟩⟩,asC w k os⟩
abbrev asK:Code:=Tryz.f258.body.getD .skip
theorem asL:h1 Tryz.prog 258 (.ay (.slice .str) .str) .str ar.EW.sh where
 enter:=uh Tryz.func258 (show Tryz.f258.body=some asK by rfl) (by rfl)
 iU:=λF w args x bo gr ba aD=>by
  obtain⟨l,sep⟩:=x;obtain⟨aA,hw,E⟩:l.length<=60000/\(∀ w∈l,w.length<=21)/\sep.length=1:=aD;have z6:=ar.aac l sep 21 hw;have E:sep.length=1:=E;have aA:l.length<=60000:=aA;rw[E]at z6;have aE:(Lib.join l sep).length<2 ^ 63:=by omega
  obtain⟨v,us,rfl,ae,hu⟩:=Fm ba;obtain⟨rfl,_⟩:=QA hu;obtain⟨_,p,cap,ie,c2,c3,c4,c5⟩:=(dU rfl).1 ae;obtain rfl:v=.slice p l.length cap:=by grind
  change l.length<=cap at c2;have fin:∀ w',Below w.heap.size w w'->∃ v y,Ending.returned (.string ⟨(Lib.join l sep).toArray⟩)=.returned v/\(ar.EW.sh (l,sep)).bK y/\tt Tryz.prog .str (u3 F w w') w' v y/\Below w.heap.size w w':=λw' W=>
   ⟨_,Lib.join l sep,rfl,rfl,⟨[_],rfl,(r0 rfl).2 ⟨_,rfl,me.2 ⟨rfl,aE⟩⟩⟩,W⟩
  by_cases aj:l=[]
  ·subst aj;refine (Any.strings_Join_none Tryz.aaz Tryz.aaA p cap ⟨sep.toArray⟩ w).mono ?_;rintro e w' ⟨rfl,rfl⟩;exact fin _ (Below.refl _ _)
  ·have lj:0<l.length:=List.length_pos_iff.2 aj;obtain⟨q,rfl⟩:∃ q,p=some q:=by
    cases p with
    | none=>grind
    | some q=>simp
   obtain⟨d1,d2,d3⟩:=c5 q rfl (by omega);obtain⟨asM,o,sp⟩:=q;obtain rfl:sp=none:=d2;have hlen:(l.map λx:List UInt8=>ByteArray.mk x.toArray).length=l.length:=List.length_map ..;have Km:(l.map λx:List UInt8=>ByteArray.mk x.toArray).map (·.data.toList)=l:=by rw[List.map_map];exact (List.map_congr_left λx _=>Qz x).trans (List.map_id _)
   have:=Any.strings_Join Tryz.aaz Tryz.aaA asM o cap (l.map λx:List UInt8=>ByteArray.mk x.toArray) ⟨sep.toArray⟩ w (λj x ah=>by
    rw[List.getElem?_map]at ah;obtain⟨y,aQ,rfl⟩:=Option.map_eq_some_iff.1 ah;obtain⟨z6,rfl⟩:=List.getElem?_eq_some_iff.1 aQ;obtain⟨bj,⟨_,_,cE⟩,ed⟩:=d3 j z6;obtain⟨rfl,_⟩:=ed;have:=cE 0 (by simp);simpa [ad.size]using this) (bo _ d1) (by omega) (by omega) (by grind)
   rw[hlen,Km,Qz]at this;refine this.mono ?_;simp_all
end Go.Fer.oe
namespace Go.Proofs
open Go.RowKit
theorem Tryz.asN{P:Program}{w w':World}{n:String}{k:IntKind}{zs:z1'}(h:Lib.TabIs P w n k zs)(W:Below w.heap.size w w'):Lib.TabIs P w' n k zs:=by
 unfold Lib.TabIs World.var? at *
 cases aB:P.globalNamed n with
 | none=>rw[aB]at h;cases h
 | some g=>
  rw[aB]at h;simp only[Option.bind_some]at h ⊢;by_cases cb:g<w.heap.size
  ·rw[W.block g cb];exact h
  ·rw[Array.getElem?_eq_none (by omega)]at h;cases h
set_option maxHeartbeats 4000000 in
set_option maxRecDepth 1000000 in
theorem Tryz.asO(s:ByteArray)(w:World)(v:Int)(zp:s.size<=9223372036854775806)(h:Lib.atoiAll s.data.toList=.ok v)(aX:-9223372036854775808<=v)(E:v<=9223372036854775807)
  (asP : Lib.TabIs Tryz.prog w "internal/strconv.uint64pow10" .u64 Lib.pow10Tab) :
  Calls Tryz.prog 140 #[.string s] w λe w'=>e=.returned (.tuple #[.int .i64 v,.bool (decide (s.size<=6)&&decide (0<=v)&&decide (Lib.itoa v=s.data.toList))])/\Below w.heap.size w w':=by
 go_enter Tryz.func140,Tryz.ntmps140;go_wp2_with fail;refine (Tryz.strconv_Atoi_ok s zp v h w).mono ?_;rintro e cn ⟨rfl,lS⟩;have mu:Below w.heap.size w cn:=by
  rcases lS with rfl | ⟨t,rfl⟩
  ·exact Below.refl _ _
  ·exact Lib.bytesWorld_below w 5 t
 have asQ:=Tryz.asN asP mu;clear lS;by_cases aP:(s.size:Int)<=6
 ·by_cases aR:v>=0
  ·go_wp2_with fail;refine (Any.strconv_Itoa Tryz.aaB v aX E cn asQ).mono ?_;rintro e c7 ⟨rfl,k,os,rfl⟩;have qZ:Below w.heap.size w (Go.Sort.grow (cn.drewN k) os):=mu.trans ⟨rfl,rfl,rfl,by show _<=(cn.heap++os).size;simp,λj aE=>by
    have:=mu.size;show (cn.heap++os)[j]?=_;rw[Array.getElem?_append_left (by omega)]⟩
   generalize Go.Sort.grow (cn.drewN k) os=c7 at qZ;go_wp2;go_returns;refine⟨congrArg Ending.returned (congrArg Value.tuple ?_),qZ⟩;show #[Value.int IntKind.i64 v,Value.bool (Lib.itoa v == s.toList)]=_;rw[Go.ByteArray.toList_eq,show decide (s.size<=6)=true from decide_eq_true (by omega),show decide (0<=v)=true from decide_eq_true aR,Bool.true_and,Bool.true_and,show (Lib.itoa v == s.data.toList)=decide (Lib.itoa v=s.data.toList) by rw[Bool.eq_iff_iff];simp]
  ·go_wp2;go_returns;refine⟨congrArg Ending.returned (congrArg Value.tuple ?_),mu⟩;show #[Value.int IntKind.i64 v,Value.bool false]=_;rw[show decide (0<=v)=false from decide_eq_false (by omega),Bool.and_false,Bool.false_and]
 ·go_wp2;go_returns;refine⟨congrArg Ending.returned (congrArg Value.tuple ?_),mu⟩;show #[Value.int IntKind.i64 v,Value.bool false]=_;rw[show decide (s.size<=6)=false from decide_eq_false (by omega),Bool.false_and,Bool.false_and]
set_option maxHeartbeats 4000000 in
set_option maxRecDepth 1000000 in
theorem Tryz.asR(s:ByteArray)(w:World)(sa:s.size<=281474976710656)(h:Lib.atoiAll s.data.toList=Lib.atoiAll [])(h':Value)(ae:w.cell? ⟨1,0,none⟩=some h')(pF:h'=.nilIface\/∃ lI mc,h'=.iface lI mc) :
  Calls Tryz.prog 140 #[.string s] w λe w'=>e=.returned (.tuple #[.int .i64 0,.bool false])/\Below w.heap.size w w':=by
 go_enter Tryz.func140,Tryz.ntmps140;go_wp2_with fail;refine (Tryz.strconv_Atoi_syntax s sa h h' w ae pF).mono ?_;rintro e cn ⟨N,rfl,_,_,mu⟩;go_wp2;go_returns;exact⟨rfl,mu⟩
set_option maxHeartbeats 4000000 in
set_option maxRecDepth 1000000 in
theorem Tryz.asS(s:ByteArray)(w:World)(sa:s.size<=281474976710656)(h:Lib.atoiAll s.data.toList=.range)(h':Value)(ae:w.cell? ⟨2,0,none⟩=some h')(pF:h'=.nilIface\/∃ lI mc,h'=.iface lI mc) :
  Calls Tryz.prog 140 #[.string s] w λe w'=>e=.returned (.tuple #[.int .i64 (Lib.atoiSat s.data.toList),.bool false])/\Below w.heap.size w w':=by
 go_enter Tryz.func140,Tryz.ntmps140;go_wp2_with fail;refine (Tryz.strconv_Atoi_range s sa h h' w ae pF).mono ?_;rintro e cn ⟨N,rfl,_,_,mu⟩;go_wp2;go_returns;exact⟨rfl,mu⟩
end Go.Proofs
namespace Go.Fer.ar
open A (V)
theorem aaI:∀ (s:aT) (n:Int),0<=n->gj s n≠-1->n<=gj s n
 | [],n,_,_=>Int.le_refl _
 | c::s,n,h,E=>by
  unfold gj at E ⊢;split at E
  ·omega
  ·rename_i hc;rw[if_neg hc];simp only[Bool.or_eq_true,decide_eq_true_eq,not_or]at hc;have:=aaI s _ (by omega) E;omega
theorem QB(d:UInt8):∀ (s:aT) (n:Int),0<=n->gj (s++[d]) n=if gj s n=-1 then -1 else if (decide ((d.toNat:Int)<48)||decide ((d.toNat:Int) > 57))=true then -1 else 10*gj s n+((d.toNat:Int) - 48)
 | [],n,h=>by
  show gj [d] n=if n=-1 then _ else _
  rw[if_neg (by omega)];rfl
 | c::s,n,h=>by
  rw[List.cons_append];conv=>lhs;unfold gj
  by_cases hc:(decide ((c.toNat:Int)<48)||decide ((c.toNat:Int) > 57))=true
  ·rw[if_pos hc,show gj (c::s) n=-1 by unfold gj;grind,if_pos rfl]
  ·rw[if_neg hc,show gj (c::s) n=gj s (10*n+((c.toNat:Int) - 48)) from (if_neg hc:(if (decide ((c.toNat:Int)<48)||decide ((c.toNat:Int) > 57))=true then (-1:Int) else _)=_)];simp only[Bool.or_eq_true,decide_eq_true_eq,not_or]at hc;exact QB d s _ (by omega)
theorem JG(k:Nat)(h:k<10):((UInt8.ofNat (48+k)).toNat:Int)=48+k:=by
 have:(UInt8.ofNat (48+k)).toNat=(48+k) % 256:=UInt8.toNat_ofNat';omega
theorem aaJ(u:Nat):gj (Go.Lib.decDigits u) 0=u:=by
 induction u using Nat.strongRecOn with
 | _ u aJ=>
  unfold Go.Lib.decDigits;split
  ·rename_i h;have:=JG u h;unfold gj;rw[if_neg (by grind),this];show (10*0+(48+(u:Int) - 48))=u;omega
  ·rename_i h;have au:=JG (u % 10) (by omega);rw[QB _ _ _ (Int.le_refl _),aJ (u / 10) (by omega),if_neg (by omega),if_neg (by grind),au];omega
theorem aaK(u:Nat):Go.Lib.decDigits u≠[]/\(1<(Go.Lib.decDigits u).length->((Go.Lib.decDigits u).getD 0 0).toNat≠48):=by
 induction u using Nat.strongRecOn with
 | _ u aJ=>
  by_cases h:u<10
  ·rw[Go.Lib.decDigits_one h];simp
  ·obtain⟨E,U⟩:=aJ (u / 10) (by omega);have e:Go.Lib.decDigits u=Go.Lib.decDigits (u / 10)++[UInt8.ofNat (48+u % 10)]:=by
    conv=>lhs;unfold Go.Lib.decDigits
    grind
   rw[e];refine⟨by simp,λ_=>?_⟩;have aj:0<(Go.Lib.decDigits (u / 10)).length:=List.length_pos_iff.2 E;rw[show (Go.Lib.decDigits (u / 10)++[UInt8.ofNat (48+u % 10)]).getD 0 0=(Go.Lib.decDigits (u / 10)).getD 0 0 by
    grind]
   by_cases ag:1<(Go.Lib.decDigits (u / 10)).length
   ·omega
   ·have pX:u / 10<10:=by
     refine Classical.byContradiction λaA=>ag ?_;have aN:Go.Lib.decDigits (u / 10)=Go.Lib.decDigits (u / 10 / 10)++[UInt8.ofNat (48+u / 10 % 10)]:=by
      conv=>lhs;unfold Go.Lib.decDigits
      grind
     grind
    rw[Go.Lib.decDigits_one pX];have:=JG (u / 10) pX;grind
theorem asT:∀ (n:Nat) (s:aT),s.length=n->s≠[]->(1<s.length->(s.getD 0 0).toNat≠48)->gj s 0≠-1->Go.Lib.decDigits (gj s 0).toNat=s:=by
 intro n;induction n with
 | zero=>simp
 | succ n aJ=>
  intro s E U ag a1;obtain⟨a,d,rfl⟩:∃ a d,s=a++[d]:=⟨s.dropLast,s.getLast U,(List.dropLast_concat_getLast U).symm⟩
  rw[QB _ _ _ (Int.le_refl _)]at a1 ⊢;split at a1
  ·omega
  ·rename_i ba;split at a1
   ·omega
   ·rename_i au;rw[if_neg ba,if_neg au];simp only[Bool.or_eq_true,decide_eq_true_eq,not_or]at au;have Mh:UInt8.ofNat (48+(d.toNat - 48))=d:=by
     apply UInt8.toNat_inj.1;rw[UInt8.toNat_ofNat'];omega
    by_cases aA:a=[]
    ·subst aA;have e:(10*gj [] 0+((d.toNat:Int) - 48)).toNat=d.toNat - 48:=by show (10*0+((d.toNat:Int) - 48)).toNat=_;omega
     rw[e,Go.Lib.decDigits_one (by omega),Mh];rfl
    ·have aj:0<a.length:=List.length_pos_iff.2 aA;have cV:(a.getD 0 0).toNat≠48:=by
      grind
     have an:1<=gj a 0:=by
      cases a with
      | nil=>grind
      | cons c r=>
       unfold gj at ba ⊢;split at ba
       ·omega
       ·rename_i hc;rw[if_neg hc];simp only[Bool.or_eq_true,decide_eq_true_eq,not_or]at hc;have ayR:c.toNat≠48:=cV;have:=aaI r _ (by omega) ba;omega
     have G:=aJ a (by grind) aA (λ_=>cV) ba;have aw:(10*gj a 0+((d.toNat:Int) - 48)).toNat / 10=(gj a 0).toNat:=by omega
     have aN:(10*gj a 0+((d.toNat:Int) - 48)).toNat % 10=d.toNat - 48:=by omega
     conv=>lhs;unfold Go.Lib.decDigits
     grind
theorem asU{s:aT}{v:Int}(h:Go.Lib.atoiAll s=.ok v):(decide (s.length<=6)&&decide (0<=v)&&decide (Go.Lib.itoa v=s))=decide (0<=eZ s):=by
 rw[Bool.eq_iff_iff];simp only[Bool.and_eq_true,decide_eq_true_eq];constructor
 ·rintro⟨⟨dm,ae⟩,G⟩;obtain⟨u,rfl⟩:∃ u:Nat,v=u:=⟨v.toNat,by omega⟩
  have e:Go.Lib.itoa (u:Int)=Go.Lib.decDigits u:=by rfl
  rw[e]at G;obtain⟨aP,aR⟩:=aaK u;rw[G]at aP aR;unfold eZ;rw[if_neg]
  ·have:=aaJ u;grind
  grind
 ·intro aA;have e:=Qt aA;rw[h]at e;obtain rfl:v=eZ s:=by grind
  refine⟨⟨?_,aA⟩,?_⟩
  ·unfold eZ at aA;grind
  ·have e:Go.Lib.itoa (eZ s)=Go.Lib.decDigits (eZ s).toNat:=by unfold Go.Lib.itoa;grind
   rw[e];unfold eZ at aA ⊢;split at aA
   ·omega
   ·rename_i W;rw[if_neg W];simp only[Bool.or_eq_true,Bool.and_eq_true,decide_eq_true_eq,not_or,not_and]at W;exact asT _ s rfl (λe=>W.1.1 (by grind)) W.2 (by omega)
theorem aaL{s:aT}(h:∀ v,Go.Lib.atoiAll s≠.ok v):decide (0<=eZ s)=false:=decide_eq_false λaA=>h _ (Qt aA)
end Go.Fer.ar
namespace Go.Fer.oe
open Go Go.Proofs Go.RowKit
abbrev asV:Code:=Tryz.f140.body.getD .skip
theorem asW:h1 Tryz.prog 140 .str (.ay (.int .i64) .bool) ar.EY.sh where
 enter:=uh Tryz.func140 (show Tryz.f140.body=some asV by kernel_rfl) (by kernel_rfl)
 iU:=λF w args x bo gr ba aD=>by
  change List UInt8 at x;have aD:x.length<=10000:=aD;obtain⟨rfl,aj⟩:=QA ba;have W:=Qz x;have bk:=JE x;have fin:∀ (n:Int) (b:Bool) (w':World),fU .i64 n->ar.q_ x=(n,b)->Below w.heap.size w w'->∃ v y,Ending.returned (.tuple #[.int .i64 n,.bool b])=.returned v/\(ar.EY.sh x).bK y/\tt Tryz.prog (.ay (.int .i64) .bool) (u3 F w w') w' v y/\Below w.heap.size w w':=λn b w' M he yP=>
   ⟨_,(n,b),rfl,he.symm,⟨[.int .i64 n,.bool b],rfl,BS.2 ⟨gU.2 ⟨rfl,M⟩,(r0 rfl).2 ⟨_,rfl,ff.2 rfl⟩⟩⟩,yP⟩
  cases he:Lib.atoiAll x with
  | ok v=>
   have ae:=Lib.atoiAll_bounds he;refine (Tryz.asO ⟨x.toArray⟩ w v (by rw[bk];omega) (by rw[W];exact he) ae.1 ae.2 (aaH gr)).mono ?_;rintro e w' ⟨rfl,yP⟩;refine fin v _ w' ae ?_ yP;rw[W,bk,ar.asU he];unfold ar.q_ ar.td;rw[he]
  | range=>
   obtain⟨_,h',ae,pF⟩:=JF gr (b:=2) (by decide);refine (Tryz.asS ⟨x.toArray⟩ w (by rw[bk];omega) (by rw[W];exact he) h' ae pF).mono ?_;rintro e w' ⟨rfl,yP⟩;rw[W]at *
   refine fin _ _ w' (Lib.atoiSat_bounds x) ?_ yP;unfold ar.q_ ar.td;rw[he,ar.aaL λv h=>by rw[he]at h;cases h]
  | _=>
   obtain⟨_,h',ae,pF⟩:=JF gr (b:=1) (by decide);refine (Tryz.asR ⟨x.toArray⟩ w (by rw[bk];omega) (by rw[W];exact he) h' ae pF).mono ?_;rintro e w' ⟨rfl,yP⟩;refine fin 0 _ w' (by decide) ?_ yP;unfold ar.q_ ar.td;rw[he,ar.aaL λv h=>by rw[he]at h;cases h]
end Go.Fer.oe
namespace Go.Fer
open Go.RowKit
abbrev mI:ad:=.int .i64
def QC(x:z1'×Unit):A (z1'×Unit):=A.dR (x.1.length<4611686018427387904) (x.1.mergeSort (λa b=>decide (a<=b)),())
def pT:cK:=⟨⟨[(0,.own 200001)],[(200001,.bh mI)]⟩,⟨[],[(200001,.bh mI)]⟩,[],1,QC⟩
section
variable {P:Program} {F:Nat->Prop} {w:World}
theorem aaM{cs:Array Value}{off:Nat}{xs:z1'}(h:lJ P mI F w cs off xs){i:Nat}(G:i<xs.length):cs[off+i]?=some (.int .i64 xs[i])/\fU .i64 xs[i]:=by
 obtain⟨bj,E,U,ag⟩:=h i G;subst U;have:=E 0 (by simp);refine⟨?_,ag⟩;have e:off+i*ad.size mI+0=off+i:=by show off+i*1+0=off+i;omega
 rw[e]at this;exact this
theorem asX{cs:Array Value}{off:Nat}{xs:z1'}(h:∀ i (h:i<xs.length),cs[off+i]?=some (.int .i64 xs[i])/\fU .i64 xs[i]):lJ P mI F w cs off xs:=λi G=>by
 obtain⟨E,U⟩:=h i G;refine⟨[.int .i64 xs[i]],λj aE=>?_,rfl,U⟩;have aE:j=0:=by simpa using aE
 subst aE;have e:off+i*ad.size mI+0=off+i:=by show off+i*1+0=off+i;omega
 rw[e];exact E
theorem asY{cs:Array Value}{T:TypeId}{b off:Nat}{xs:z1'}(W:w.heap[b]?=some (.cells cs T (0,0)))(h:lJ P mI F w cs off xs):Go.Sort.Holds (Value.int .i64) w b off xs.toArray:=λj aE=>by
 have fV:j<xs.length:=by simpa using aE
 obtain⟨E,_⟩:=aaM h fV;refine⟨?_,by simp[World.frozen?,W]⟩;simp only[World.cell?,W];simp only[Option.isSome_none,Bool.false_eq_true,if_false];rw[E];simp[fV]
theorem asZ{cs:Array Value}{off:Nat}{xs ys:z1'}(aj:ys.length=xs.length)(ig:∀ y∈ys,fU .i64 y)(cd:off+xs.length<=cs.size):lJ P mI F w (Go.Sort.putCells (Value.int .i64) off ys.toArray cs) off ys:=by
 refine asX λi G=>⟨?_,ig _ (List.getElem_mem G)⟩
 have E:off+i<cs.size:=by omega
 simp[Go.Sort.putCells,E,G]
end
section
variable {P:Program} {aO:dF}
theorem as0{k:FuncId}(he:∀ args w,(callFunc k args).run P w=.ok (.enter k args) w)
  (E:∀ (aa off cap:Nat) (zs:z1') (w:World),Go.Sort.Holds (Value.int .i64) w aa off zs.toArray->aa<w.heap.size->zs.length<4611686018427387904->Calls P k #[.slice (some ⟨aa,off,none⟩) zs.length cap] w λe w'=>
   e=.returned (.tuple #[])/\∃ n os,w'=Go.Sort.grow (Go.Sort.putRow (Value.int .i64) (Go.Sort.ahead w n) aa off (zs.mergeSort λx y=>decide (x<=y)).toArray) os)
  (aX:∀ (p:Option Addr) (cap:Nat) (w:World),Calls P k #[.slice p 0 cap] w λe w'=>e=.returned (.tuple #[])/\w'=w):cR P aO k pT where
 enter:=he
 iU C a w κ F D jq Ai M au rl tG h aD:=by
  obtain⟨xs,u⟩:=D;have hlen:xs.length<4611686018427387904:=aD;have cd:a.tmps.size=1:=h.dG.trans rl;have qh:=h.bT 0;have W:=h.bD 200001;change jB C.P _ κ F w (κ 200001) (.bh mI xs) at W;have ae:a.tmps.getD 0 undef=(κ 200001).slice xs.length:=qh.2 rfl rfl;have ba:a.tmps=#[(κ 200001).slice xs.length]:=by
   apply Array.ext (by simp[cd]);intro i G dK;have:i=0:=by omega
   subst this;rw[<-ae];simp[Array.getD,cd]
  have po:∀ bm,bm=((xs.mergeSort (λx y=>decide (x<=y)),()):z1'×Unit)->(pT.sh (xs,u)).bK bm:=λbm e=>e;have nW:∀ {w':World} {F':Nat->Prop} {ys:z1'},bl C (az.mk (pT.cp.st (xs,u)).ax λi=>if i=200001 then ⟨0,.bh mI ys⟩ else (pT.cp.st (xs,u)).aa i) a w' κ F'->bl { C with nt:=0 } (pT.bK.st (ys,())) { tmps:=#[],defers:=[] } w' κ F':=λ{w' F' ys} jO=>by
   have e:(pT.bK.st (ys,())).aa=λi=>if i=200001 then (⟨0,.bh mI ys⟩:bJ) else (pT.cp.st (xs,u)).aa i:=by
    funext i;show eP [(200001,bQ.bh mI ys)] i=if i=200001 then _ else eP [(200001,bQ.bh mI xs)] i
    simp only[eP];by_cases G:i=200001
    ·rw[if_pos G,if_pos G]
    ·rw[if_neg G,if_neg G,if_neg G]
   refine { dG:=rfl,dfr:=au.symm,bT:=λi=>trivial,bD:=λb=>?_,own:=λb=>?_,inj:=λb be=>?_,da:=jO.da,hf:=jO.hf,hP:=jO.hP,hs:=jO.hs,eF:=jO.eF,size:=jO.size,ev:=jO.ev,gp:=Nat.zero_le _,ko:=jO.ko,jC:=λb r=>?_,j3:=jO.j3,kp:=λb k=>?_,eK:=λl aL L n st e=>(by cases e),jD:=jO.jD,iz:=jO.iz }
   ·rw[e];exact jO.bD b
   ·rw[e];exact jO.own b
   ·rw[e];exact jO.inj b be
   ·rw[e];exact jO.jC b r
   ·rw[e];exact jO.kp b k
  subst jq;rw[ba];by_cases aA:(κ 200001).e8=true
  ·have ah:xs=[]:=W.1 aA;subst ah;have ie:(κ 200001).slice 0=.slice none 0 0:=by simp[bC.slice,aA]
   rw[show ([]:z1').length=0 from rfl,ie];refine (aX none 0 w).mono ?_;rintro e w' ⟨rfl,rfl⟩;refine⟨_,([],()),[],κ,F,rfl,po _ (congrArg (λl=>(l,())) List.mergeSort_nil.symm),⟨[],rfl,rfl,rfl⟩,nW ?_⟩;have e:(λi=>if i=200001 then (⟨0,.bh mI []⟩:bJ) else (pT.cp.st ([],u)).aa i)=(pT.cp.st ([],u)).aa:=by
    funext i;by_cases G:i=200001
    ·subst G;rfl
    ·rw[if_neg G]
   rw[e];exact h
  ·have aA:(κ 200001).e8=false:=by simpa using aA
   obtain⟨cs,T,dN,e0,mJ,rY,Fi⟩:=W.2 aA;have gq:((pT.cp.st (xs,u)).aa 200001).body.bZ (κ 200001)=true:=by show (!(κ 200001).e8)=true;rw[aA];rfl
   have af:=h.own 200001 gq;have ie:(κ 200001).slice xs.length=.slice (some ⟨(κ 200001).aa,(κ 200001).off,none⟩) xs.length (κ 200001).cap:=by simp[bC.slice,aA]
   rw[ie];refine (E (κ 200001).aa (κ 200001).off (κ 200001).cap xs w (asY dN Fi) af.1 hlen).mono ?_;rintro e w' ⟨rfl,n,os,rfl⟩;have an:(xs.mergeSort λx y=>decide (x<=y)).Perm xs:=List.mergeSort_perm _ _;generalize j8:(xs.mergeSort λx y=>decide (x<=y))=ys at an po;have aaN:ys.length=xs.length:=an.length_eq;have FH:(κ 200001).off+xs.length<=cs.size:=by
    have:(κ 200001).cap*ad.size mI=(κ 200001).cap:=Nat.mul_one _;omega
   have ig:∀ y∈ys,fU .i64 y:=λy aQ=>by
    have:=an.mem_iff.1 aQ;obtain⟨i,G,rfl⟩:=List.getElem_of_mem this;exact (aaM Fi G).2
   have as1:(Go.Sort.putRow (Value.int .i64) (Go.Sort.ahead w n) (κ 200001).aa (κ 200001).off ys.toArray).heap[(κ 200001).aa]?=some (.cells (Go.Sort.putCells (Value.int .i64) (κ 200001).off ys.toArray cs) T (0,0)):=by
    simp[Go.Sort.putRow,Go.Sort.mapBlock,Go.Sort.ahead,Array.getElem?_modify,dN,Go.Sort.onCells]
   have wP:bl C ((pT.cp.st (xs,u)).cy 200001 ⟨0,.bh mI ys⟩) a (Go.Sort.putRow (Value.int .i64) (Go.Sort.ahead w n) (κ 200001).aa (κ 200001).off ys.toArray) κ F:=by
    refine h.o6 (b:=200001) (x:=⟨0,.bh mI ys⟩) gq ?_ ?_ nofun nofun (λr M=>?_) (by simp[Go.Sort.putRow,Go.Sort.mapBlock,Go.Sort.ahead]) ⟨rfl,rfl,rfl⟩ (λH mR iK ln=>⟨λhc=>absurd (aA.symm.trans hc) nofun,λ_=>?_⟩)
    ·show (!(κ 200001).e8)=true;rw[aA];rfl
    ·intro b;by_cases W:b=200001
     ·subst W;exact⟨Nat.le_refl _,λ_=>⟨nofun,λ_=>⟨rfl,rfl,aaN,rfl⟩,nofun,nofun⟩⟩
     ·show p0 _ (if b=200001 then _ else _) _ _;rw[if_neg W];exact p0.refl _ _
    ·simp[Go.Sort.putRow,Go.Sort.mapBlock,Go.Sort.ahead,Array.getElem?_modify,Ne.symm M]
    ·refine⟨_,T,as1,?_,?_,rY,asZ aaN ig FH⟩
     ·simpa [Go.Sort.putCells]using e0
     ·show ys.length<=_;omega
   refine⟨_,(ys,()),[],κ,_,rfl,po _ rfl,⟨[],rfl,rfl,rfl⟩,nW (wP.grow ?_)⟩;refine⟨rfl,rfl,rfl,by simp[Go.Sort.grow],λk al=>?_⟩;simp only[Go.Sort.grow];rw[Array.getElem?_append_left al]
end
end Go.Fer
namespace Go.Fer
open Go.RowKit
def as2(e:ad)(x:Int×Unit):A (List e.ai×Unit):=A.dR (0<=x.1/\x.1<60000) ([],())
def u0(e:ad):cK:=⟨⟨[(0,.cu),(1,.val (.int .i64))],[]⟩,⟨[(0,.own 50000)],[(50000,.bh e)]⟩,[none],2,as2 e⟩
section
variable {P:Program} {aO:dF} {e:ad}
theorem aaO{C:b_}{a:Act}{w w':World}{κ:Nat->bC}{F:Nat->Prop}{D:(u0 e).cp.ai}(h:bl C ((u0 e).cp.st D) a w κ F)(au:C.dfr=[]){kb:bC}{v:Value}
  (ae:v=kb.slice 0) (cd:w.heap.size<=w'.heap.size) (hw:∀ r,r<w.heap.size->w'.heap[r]?=w.heap[r]?) (hc:dc w w') (lk:kb.e8=false->kb.aa=w.heap.size/\w.heap.size<w'.heap.size)
  (aS:kb.e8=false->∃ cs T,w'.heap[kb.aa]?=some (.cells cs T (0,0))/\kb.off+kb.cap*e.size<=cs.size/\kb.cap<2 ^ 63) :
  bl { C with nt:=1 } ((u0 e).bK.st ([],())) { tmps:=#[v],defers:=[] } w' (λi=>if i=50000 then kb else κ i) F:=by
 have W:∀ b,((u0 e).bK.st ([],())).aa b=if b=50000 then ⟨0,.bh e []⟩ else ⟨0,.fy⟩:=λb=>rfl
 have ba:∀ b,b≠50000->((u0 e).bK.st ([],())).aa b=⟨0,.fy⟩:=λb aA=>by rw[W,if_neg aA]
 have bL:((u0 e).bK.st ([],())).aa 50000=⟨0,.bh e []⟩:=rfl;have gq:∀ b,(((u0 e).bK.st ([],())).aa b).body.bZ (if b=50000 then kb else κ b)=true->b=50000/\kb.e8=false:=λb af=>by
  by_cases e:b=50000
  ·subst e;rw[bL,if_pos rfl]at af;exact⟨rfl,by simpa [bQ.bZ]using af⟩
  ·rw[ba b e]at af;cases af
 refine { dG:=rfl,dfr:=au.symm,bT:=λi=>?_,bD:=λb=>?_,own:=λb af=>?_,inj:=λb be E U _=>?_,da:=λr M=>Nat.lt_of_lt_of_le (h.da r M) cd,hf:=h.hf,hP:=h.hP,hs:=h.hs,eF:=λr M=>?_,size:=Nat.le_trans h.size cd,ev:=h.ev.trans hc,gp:=(by unfold eQ;exact (by decide:1<=100000)),ko:=h.ko,jC:=λb r M i_=>?_,j3:=h.j3,kp:=λb k al _ G=>?_,eK:=λl aL L n st e=>(by cases e),jD:=h.jD,iz:=h.iz.mono (λ_ h=>h) ⟨cd,λr M=>hw r (h.da r M)⟩ }
 ·by_cases G:i=0
  ·subst G;refine⟨⟨Nat.le_refl _,?_⟩,λ_ _=>?_⟩
   ·show v.oneCell'=true;rw[ae];unfold bC.slice;split<;>rfl
   ·show v=_;rw[ae];show kb.slice 0=(if (50000:Nat)=50000 then kb else κ 50000).slice 0;rw[if_pos rfl]
  ·have:((u0 e).bK.st ([],())).ax i=.undef:=by
    show fr [(0,aG.own 50000 0)] i=.undef;simp[fr,G]
   rw[this];trivial
 ·unfold cF;by_cases aw:b=50000
  ·subst aw;rw[bL];show jB _ _ _ _ _ (if (50000:Nat)=50000 then kb else κ 50000) (.bh e []);rw[if_pos rfl];refine⟨λ_=>rfl,λaA=>?_⟩;obtain⟨cs,T,E,U,ag⟩:=aS aA;exact⟨cs,T,E,U,Nat.zero_le _,ag,λi G=>absurd G (Nat.not_lt_zero _)⟩
  ·rw[ba b aw];trivial
 ·obtain⟨rfl,aA⟩:=gq b af;obtain⟨E,U⟩:=lk aA;rw[if_pos rfl,E];refine⟨U,λao=>?_,λal=>?_⟩
  ·have:=h.da _ ao;omega
  ·have:=h.hs _ al;have:=h.size;omega
 ·rw[(gq b E).1,(gq be U).1]
 ·have E:=h.hs r M;rw[hw r (Nat.lt_of_lt_of_le E h.size)];exact h.eF r M
 ·by_cases aw:b=50000
  ·subst aw;rw[bL]at i_;rcases i_ with h | h<;>cases h
  ·rw[ba b aw]at i_;rcases i_ with h | h<;>cases h
 ·by_cases aw:b=50000
  ·subst aw;have:=h.j3 _ _ al;unfold w1 at this;omega
  ·rw[ba b aw]at G;cases G
theorem aaP{k:FuncId}(he:∀ args w,(callFunc k args).run P w=.ok (.enter k args) w)
  (aX:∀ w:World,Calls P k #[.slice none 0 0,.int .i64 0] w λe w'=>e=.returned (.slice none 0 0)/\w'=w)
  (E:∀ (n:Nat) (w:World),0<n->n<60000->Calls P k #[.slice none 0 0,.int .i64 (n:Int)] w λy w'=>∃ (cg:Nat) (T:TypeId) (cs:Array Value),y=.returned (.slice (some ⟨w.heap.size,0,none⟩) 0 cg)/\
   w'=w.drew.alloc (.cells cs T)/\cg<2 ^ 63/\cg*e.size<=cs.size):cR P aO k (u0 e) where
 enter:=he
 iU C a w κ F D jq Ai M au rl tG h aD:=by
  obtain⟨n,u⟩:=D;change Int at n;obtain⟨sf,qb⟩:0<=n/\n<60000:=aD;have cd:a.tmps.size=2:=h.dG.trans rl;have as3:a.tmps.getD 0 undef=.slice none 0 0:=h.bT 0;have p2:a.tmps.getD 1 undef=.int .i64 n:=(gU.1 (h.bT 1)).1;have ba:a.tmps=#[.slice none 0 0,.int .i64 n]:=by
   apply Array.ext (by simp[cd]);intro i G dK;have:i=0\/i=1:=by omega
   rcases this with rfl | rfl
   ·rw[<-as3];simp[Array.getD,cd]
   ·rw[<-p2];simp[Array.getD,cd]
  subst jq;rw[ba];by_cases bk:n=0
  ·subst bk;refine (aX w).mono ?_;rintro y w' ⟨rfl,rfl⟩;refine⟨_,([],()),[.slice none 0 0],_,F,rfl,rfl,⟨[.slice none 0 0],rfl,rfl,[],rfl,rfl⟩,aaO h au (kb:=⟨0,0,0,true⟩) rfl (Nat.le_refl _) (λ_ _=>rfl) (dc.refl _) nofun nofun⟩
  ·obtain⟨m,rfl⟩:∃ m:Nat,n=m:=⟨n.toNat,by omega⟩
   refine (E m w (by omega) (by omega)).mono ?_;rintro y w' ⟨cg,T,cs,rfl,rfl,gr,o9⟩;refine⟨_,([],()),[.slice (some ⟨w.heap.size,0,none⟩) 0 cg],_,F,rfl,rfl,⟨[_],rfl,rfl,[],rfl,rfl⟩,aaO h au (kb:=⟨w.heap.size,0,cg,false⟩) rfl (by simp) (λr M=>?_) ⟨rfl,rfl,rfl⟩ (λ_=>⟨rfl,by simp⟩) (λ_=>⟨cs,T,?_,by simpa using o9,gr⟩)⟩
   ·exact o5 w.drew _ M
   ·show (w.drew.heap.push _)[w.heap.size]?=_;exact Array.getElem?_push_size
theorem aaQ{aI:Go.Shelf.Ren}(L:Go.Proofs.Lays8.n4 P aI)(w:World):Calls P (aI.f 4) #[.slice none 0 0,.int .i64 0] w λe w'=>e=.returned (.slice none 0 0)/\w'=w:=
 Go.Proofs.Any8.slices_Grow_room L none 0 0 0 w (Nat.le_refl _) (by decide) (by decide) (Nat.le_refl _)
theorem aaR{aI:Go.Shelf.Ren}(L:Go.Proofs.Lays8.n4 P aI)(aH:b9 P e (aI.t 25))(aD:e.size≠0)(n:Nat)(w:World)(aX:0<n)(E:n<60000) :
  Calls P (aI.f 4) #[.slice none 0 0,.int .i64 (n:Int)] w λy w'=>∃ (cg:Nat) (T:TypeId) (cs:Array Value),y=.returned (.slice (some ⟨w.heap.size,0,none⟩) 0 cg)/\w'=w.drew.alloc (.cells cs T)/\cg<2 ^ 63/\cg*e.size<=cs.size:=by
 obtain⟨i0,z,oy,cd,W,KT,as4,_⟩:=ks aH.kr;have nb:0<i0.size:=by omega
 have tQ:=(Cg (P:=P) e as4).2;refine (Go.Proofs.Any8.slices_Grow_grow L i0 z oy KT nb none 0 0 n [] w (Nat.le_refl _) (by omega) ?_ (by omega) (by simp) (λ_=>rfl) nofun).mono ?_
 ·have:(0+n)*i0.bytes<=(0+n)*1024:=Nat.mul_le_mul_left _ W;omega
 ·rintro y w' ⟨rfl,rfl⟩;refine⟨_,_,_,rfl,rfl,?_,?_⟩
  ·have:=grownCap_le_maxLen w (0+n) 0 (aI.t 25) (by unfold maxLen;omega);unfold maxLen at this;omega
  ·have:=grownCap_ge w (0+n) 0 (aI.t 25);generalize grownCap w (0+n) 0 (aI.t 25)=cg at this;simp only[Array.size_append,size_zeroCells,tQ];have aw:(0+n - 0)*e.size+(cg - (0+n))*e.size=cg*e.size:=by rw[<-Nat.add_mul];congr 1;omega
   have aN:(#[]:Array Value).size=0:=rfl;omega
end
end Go.Fer
namespace Go.Fer.oe
open Go.Proofs
def E4(aO:dF)(c:cK)(sh:Nat->c.cp.ai->A c.bK.ai):List Nat->Prop
 | []=>True
 | k::l=>cR Tryz.prog aO k { c with sh:=sh k }/\E4 aO c sh l
theorem E4.mem{aO:dF}{c:cK}{sh:Nat->c.cp.ai->A c.bK.ai}:∀ {l:List Nat},E4 aO c sh l->∀ k∈l,cR Tryz.prog aO k { c with sh:=sh k }
 | [],_,k,h=>by cases h
 | j::l,h,k,al=>by
  rcases List.mem_cons.1 al with rfl | al
  ·exact h.1
  ·exact E4.mem h.2 k al
theorem yQ{k:Nat}{e:ad}{f:List e.ai×Unit->A (List e.ai×Unit)}{sh:(ad.slice e).ai->A (ad.slice e).ai}(h:cR Tryz.prog dD k ⟨⟨[(0,.val (.slice e))],[]⟩,⟨[(0,.own 60)],[(60,.bh e)]⟩,[none],1,f⟩)
  (an:∀ x:List e.ai,(sh x).ck->(f (x,())).ck/\∀ bm,(f (x,())).bK bm->bm.1=(sh x).val (ad.slice e).de):nJ (hG.kC ⟨.slice e,.slice e,sh,true⟩).aV=true/\Cu Tryz.prog k (hG.kC ⟨.slice e,.slice e,sh,true⟩):=
 ajl (by simp) h mz (b0:=60) (λx=>(x,())) (λx=>rfl) rfl (by show 1<=eQ;decide) rfl (λbm=>bm.1) (λbm=>⟨rfl,rfl⟩) an
abbrev as5:Code:=Tryz.f161.body.getD .skip
theorem as6(aO:dF):cR Tryz.prog aO 161 pT:=
 as0 (uh Tryz.func161 (show Tryz.f161.body=some as5 by kernel_rfl) (by kernel_rfl)) (λaa off cap zs w E U ag=>calls_of_every_depth λb'=>AnyS.slices_Sort_int_in Tryz.aaC b' aa off cap zs w E U ag)
  λp cap w=>Any.slices_Sort_int_none Tryz.aaC p cap w
theorem as7:QC=H.ya:=by
 funext x;unfold QC H.ya;rw[show x.1.mergeSort (λa b=>decide (a<=b))=H.ft H.hq x.1 from (H.AD ((List.pairwise_mergeSort (le:=λa b:Int=>decide (a<=b)) (λa b c E U=>by simp at E U ⊢;omega) (λa b=>by simp;omega) x.1).imp λh=>by simpa using h) (List.mergeSort_perm _ _).symm).symm]
def QD:cK:=⟨⟨[(0,.own 200001)],[(200001,.bh t3)]⟩,⟨[],[(200001,.bh t3)]⟩,[],1,H.ya⟩
theorem aaS:cR Tryz.prog dD 161 QD:=by
 have:=as6 dD;unfold pT at this;rw[as7]at this;exact this
abbrev as8:Code:=Tryz.f257.body.getD .skip
abbrev as9:Code:=Tryz.f256.body.getD .skip
def aaT:cK:=⟨⟨[(0,.cu),(1,.val t3)],[]⟩,⟨[(0,.own 50000)],[(50000,.bh t3)]⟩,[none],2,H.I_⟩
def aaU:cK:=⟨⟨[(0,.cu),(1,.val t3)],[]⟩,⟨[(0,.own 50000)],[(50000,.bh H.ho)]⟩,[none],2,H.I'⟩
theorem as_:cR Tryz.prog dD 257 aaT:=
 aaP (e:=t3) (uh Tryz.func257 (show Tryz.f257.body=some as8 by kernel_rfl) (by kernel_rfl)) (aaQ Tryz.aaD) (aaR Tryz.aaD (l0.b6 (id:=3) rfl (by decide)) (by decide))
theorem as':cR Tryz.prog dD 256 aaU:=
 aaP (e:=H.ho) (uh Tryz.func256 (show Tryz.f256.body=some as9 by kernel_rfl) (by kernel_rfl)) (aaQ Tryz.aaE) (aaR Tryz.aaE (l0.b6 (id:=125) rfl (by decide)) (by decide))
def g1:=ajj.cons (n:=139) (c:=ar.Jr.dv) ⟨asF,λ_ _=>A.vK⟩
def ew:=g1.cons (n:=204) (c:=ar.Ji.dv) ⟨asJ,λ_ _=>A.vK⟩
def g3:=ew.cons (n:=258) (c:=ar.EW.dv) ⟨asL,λ_ _=>A.vK⟩
def ata:=g3.cons (n:=140) (c:=ar.EY.dv) ⟨asW,λ_ _=>A.vK⟩
end Go.Fer.oe
namespace Go.Fer.ar
open A (V)
open H (gb)
def j1(n:Int):aT:=if n<0 then P4 else Go.Lib.decDigits n.toNat
theorem QE(u:Nat):Go.Lib.decDigits u=(if u<10 then [] else Go.Lib.decDigits (u / 10))++[UInt8.ofNat (48+u % 10)]:=by
 split
 ·rw[Go.Lib.decDigits_one (by omega),Nat.mod_eq_of_lt (by omega)];rfl
 ·conv=>lhs;unfold Go.Lib.decDigits
  rw[dif_neg (by omega)]
theorem aaV(k:Nat):UInt8.ofNat (Int.toNat (IntKind.wrap .u8 (IntKind.wrap .i64 (Add.add 48 (Int.tmod (k:Int) 10)))))=UInt8.ofNat (48+k % 10):=by
 have e:Int.tmod (k:Int) 10=((k % 10:Nat):Int):=rfl;rw[e,ch,bz (by omega) (by omega),aas (by omega) (by omega)];congr 1
theorem aaW:∀ (k u:Nat),u<10 ^ (k+1)->Go.Lib.nDigits u<=k+1
 | 0,u,h=>by rw[Go.Lib.nDigits_small (by omega)];omega
 | k+1,u,h=>by
  unfold Go.Lib.nDigits;split
  ·omega
  ·have:=aaW k (u / 10) (by rw[Nat.pow_succ]at h;omega);omega
abbrev JH:aK:=⟨.int .i64,.str,λn=>n<2 ^ 63,j1⟩
theorem atb(x):A.le (YV x) (JH.sh x):=A.bq λh=>by
 change x<2 ^ 63 at h;unfold YV;show _=A.pure (j1 x);unfold j1;by_cases ah:x<0
 ·rw[if_pos (decide_eq_true ah),if_pos ah]
 ·rw[if_neg (by simpa using ah),if_neg ah,A.bt (by decide)];obtain⟨u,rfl⟩:∃ u:Nat,x=u:=⟨x.toNat,by omega⟩
  have By:=Go.Lib.nDigits_le20 u (by omega);rw[<-Go.Lib.decDigits_length]at By;have e:=QE u;rw[A.acL (res:=V.next (Go.Lib.decDigits u,())) (λs=>∃ k:Nat,s.1=(k:Int)/\k<=u/\Go.Lib.decDigits u=(if k<10 then [] else Go.Lib.decDigits (k / 10))++s.2.1) (λs=>s.1.toNat) ?_ _ ⟨u,rfl,Nat.le_refl _,by rw[aaV];exact e⟩,A.aF]
  ·rfl
  ·rintro⟨n,t,⟨⟩⟩ ⟨k,E,U,ag⟩;change n=(k:Int) at E;subst E;change _=_++t at ag;have atc:=congrArg List.length ag;rw[List.length_append]at atc;have Ee:Int.tdiv (k:Int) 10=((k / 10:Nat):Int):=rfl;by_cases al:k<10
   ·right;rw[if_pos al,List.nil_append]at ag;simp only[Ee];rw[if_neg (by simp;omega),A.aF,ag]
   ·left;rw[if_neg al,QE (k / 10),List.append_assoc]at ag;refine⟨(((k / 10:Nat):Int),[UInt8.ofNat (48+k / 10 % 10)]++t,()),?_,⟨k / 10,rfl,by omega,ag⟩,by show (((k / 10:Nat):Int)).toNat<((k:Int)).toNat;omega⟩;simp only[Ee];rw[if_pos (by simp;omega),A.bt (by decide),A.bt (by decide),A.bt (gb (by simp only[hX];omega)),bz (by omega) (by omega),aaV]
theorem QF{n:Int}(h:n<=999999):(j1 n).length<=6:=by
 unfold j1;split
 ·decide
 ·rw[Go.Lib.decDigits_length];exact aaW 5 _ (by omega)
def rW(w:aT)(l:z1'):aT:=l.foldl (λs n=>s++([32]++j1 n)) w
abbrev E5:aK:=⟨.ay .str fE,.str,λx=>x.1.length<=1000/\x.2.length<=1000/\∀ n∈x.2,n<=999999,λx=>rW x.1 x.2⟩
theorem atd(x):A.le (Y0 JH.sh x) (E5.sh x):=A.bq λh=>by
 obtain⟨w,l⟩:=x;obtain⟨E,U,ag⟩:w.length<=1000/\l.length<=1000/\∀ n∈l,n<=999999:=h;unfold Y0;show _=A.pure (rW w l);rw[A.f_ l (λi (s:aT)=>(s,l,(i:Int),())) (λn s=>.next (s++([32]++j1 n))) (λs=>.next (s,())) (λi s=>s.length<=1000+7*i) w ?_ (by omega) ?_ ?_]
 ·rw[dP,A.aF];rfl
 ·rfl
 ·intro i G s aD;have hw:=bz (n:=(i:Int)+1) (by omega) (by omega);have aA:=ag _ (List.getElem_mem G);have aH:=QF aA;refine⟨?_,λbe db=>?_⟩
  ·simp only[bV,cU G,if_true,df G,cM G,A.bp,ch,hw];rw[show JH.sh l[i]=A.pure (j1 l[i]) from A.bR (show l[i]<2 ^ 63 by omega) _,A.aF,A.bt (gb (by simp only[hX];omega)),A.bt (gb (by simp only[hX];omega))];rfl
  ·simp only[V.next.injEq]at db;subst db;simp only[List.length_append,List.length_cons,List.length_nil];omega
 ·simp
theorem ate{w:aT}{l:z1'}(E:w.length<=1000)(U:l.length<=1000)(ag:∀ n∈l,n<=999999):E5.sh (w,l)=A.pure (rW w l):=A.bR ⟨E,U,ag⟩ _
theorem aaX{n:Nat}:∀ {l:z1'} {w:aT},(∀ n∈l,n<=999999)->w.length<=n->(rW w l).length<=n+7*l.length
 | [],w,_,h=>h
 | k::l,w,h,hw=>by
  have aH:=QF (h k (by simp));have:=aaX (n:=n+7) (l:=l) (w:=w++([32]++j1 k)) (λn aA=>h n (by simp[aA])) (by simp;omega);show (rW (w++([32]++j1 k)) l).length<=_;simp only[List.length_cons];omega
theorem aaY:∀ (a b:aT),cH (a++32::b)=cH a++cH b
 | [],b=>by simp[cH]
 | c::a,b=>by
  have aJ:=aaY a b;have aj:=uT a;simp only[List.cons_append,cH];split
  ·rw[aJ];rfl
  ·rw[aJ];cases h:cH a with
   | nil=>exact absurd aj.1 (by rw[h];decide)
   | cons v l=>rfl
theorem aaZ:∀ (w:aT),(∀ c∈w,c≠32)->cH w=[w]
 | [],_=>rfl
 | c::w,h=>by
  have aJ:=aaZ w λd au=>h d (by simp[au]);simp only[cH];rw[if_neg (h c (by simp)),aJ]
theorem atf(u:Nat):∀ c∈Go.Lib.decDigits u,c≠32:=by
 induction u using Nat.strongRecOn with
 | _ u aJ=>
  intro c hc;rw[QE,List.mem_append]at hc;rcases hc with hc | hc
  ·split at hc
   ·cases hc
   ·exact aJ (u / 10) (by omega) c hc
  ·rw[List.mem_singleton]at hc;subst hc;have:=JG (u % 10) (by omega);intro e;rw[e]at this;have:((32:UInt8).toNat:Int)=32:=by decide
   omega
theorem atg(n:Int):cH (j1 n)=[j1 n]:=by
 refine aaZ _ ?_;unfold j1;split
 ·decide
 ·exact atf _
theorem aa0:∀ (l:z1') (w:aT),cH (rW w l)=cH w++l.map j1
 | [],w=>by simp[rW]
 | n::l,w=>by
  show cH (rW (w++32::j1 n) l)=_;rw[aa0 l,aaY,atg];simp
theorem aa1{n:Int}(aX:0<=n)(E:n<=999999):eZ (j1 n)=n:=by
 have aj:=QF E;unfold j1 at aj ⊢;rw[if_neg (by omega)]at aj ⊢;obtain⟨aP,aR⟩:=aaK n.toNat;have an:=List.length_pos_iff.2 aP;unfold eZ;rw[if_neg,aaJ]
 ·omega
 ·simp only[Bool.or_eq_true,Bool.and_eq_true,decide_eq_true_eq,not_or,not_and];exact⟨⟨by omega,by omega⟩,aR⟩
theorem ath{l:z1'}(h:∀ n∈l,0<=n/\n<=999999):ET (l.map j1)=some l:=by
 unfold ET;have e:(l.map j1).map eZ=l:=by
  rw[List.map_map];conv=>rhs;rw[<-List.map_id l]
  exact List.map_congr_left λn aA=>aa1 (h n aA).1 (h n aA).2
 rw[e,if_pos];rw[List.all_map,List.all_eq_true];intro n aA;have:=h n aA;have:=aa1 (h n aA).1 (h n aA).2;simp only[Function.comp,decide_eq_true_eq];omega
theorem ati{w:aT}{k:Int}{m:Bool}{j:Nat}{l:z1'}(hw:cH w=[w])(ao:oc w kI 0=some (k,m,j))(al:k<=(l.length:Int)/\((l.length:Int)<=k\/m=true))(aj:∀ n∈l,0<=n/\n<=999999):EU (rW w l)=some (j,l):=by
 unfold EU;rw[aa0,hw];have aw:(([w]++l.map j1).getD 0 [])=w:=rfl;have aN:(([w]++l.map j1).drop 1)=l.map j1:=rfl;have cE:((([w]++l.map j1).length:Int) - 1)=(l.length:Int):=by simp
 rw[aw,aN,cE,ao,ath aj];simp only;rw[if_neg]
 ·rfl
 ·simp only[Bool.or_eq_true,Bool.and_eq_true,decide_eq_true_eq,Bool.not_eq_true',not_or,not_and,Bool.not_eq_false];refine⟨by omega,λh=>?_⟩;rcases al.2 with U | U
  ·omega
  ·exact U
theorem atj{w:aT}{k:Int}{m:Bool}{j:Nat}{l:z1'}(hw:cH w=[w])(ao:oc w kI 0=some (k,m,j))(al:k<=(l.length:Int)/\((l.length:Int)<=k\/m=true))(aj:∀ n∈l,0<=n/\n<=999999)(d:bc):k8 d (rW w l)=yI j d l:=by
 unfold k8;rw[ati hw ao al aj]
theorem atk{ak:Type}{l:List ak}{f:ak->aT}{S:Nat->bc}(h:∀ (k:Nat) (al:k<l.length),k8 (S k) (f l[k])=(rS,S (k+1))):(∀ a∈(gS (S 0) (l.map f)).1,a=rS)/\(gS (S 0) (l.map f)).2=S l.length:=by
 have key:∀ k,k<=l.length->(∀ a∈(gS (S 0) ((l.take k).map f)).1,a=rS)/\(gS (S 0) ((l.take k).map f)).2=S k:=by
  intro k;induction k with
  | zero=>exact λ_=>⟨by simp[gS],rfl⟩
  | succ k aJ=>
   intro al;obtain⟨E,U⟩:=aJ (by omega);rw[List.take_succ_eq_append_getElem (by omega),List.map_append,arh,U];have e:=h k (by omega);simp only[List.map_cons,List.map_nil,gS,e,List.mem_append,List.mem_singleton];exact⟨λa ba=>ba.elim (E a) id,trivial⟩
 have:=key l.length (Nat.le_refl _);rwa [List.take_length]at this
def Bz:List aT:=[[108,101,110,100,32,49,32,48,32,49,48,48,32,51,32,55],[98,97,99,107,32,50,32,48,32,49,55,49,32,51],[115,116,111,99,107,32,48,32,49]]
theorem aa2:dk qH:=Qu asr.1 ass asa
theorem atl:(gS (iw qH) Bz).1.length=3/\H.AU (gS (iw qH) Bz).2.2 1=((300,300),0)/\wA (gS (iw qH) Bz).2.1=(1,0):=by decide +kernel
abbrev E6:aK:=⟨.cT,.bool,λ_=>True,λ_=>true⟩
theorem atm(x):A.le (YU uW.sh H.AV.sh Bq.sh Jw.sh x) (E6.sh x):=A.bq λ_=>by
 unfold YU;rw[show Jw.sh ()=A.pure qH from rfl,A.aF];show A.bind (uW.sh (qH,Bz)) _=A.pure true;have au:=ar8 (aam aa2) (l:=Bz) (by decide);obtain⟨aP,aR,bO⟩:=atl;rw[aax aa2 (by decide) (by decide),A.aF];generalize gS (iw qH) Bz=r at *
 rw[show H.AV.sh (r.2.2,1)=A.pure (H.AU r.2.2 1) from A.bR au.gI _,A.aF,show Bq.sh r.2.1=A.pure (wA r.2.1) from A.bR au.fK _,A.aF,aR,bO];simp[aP]
theorem atn:E6.sh ()=A.pure true:=rfl
abbrev E7:aK:=⟨.ay wD bu,.bool,λx=>(∀ a∈x.1,a=rS)/\x.2=(x.1.length:Int)/\x.1.length<2 ^ 63,λ_=>true⟩
theorem ato(x):A.le (YZ x) (E7.sh x):=A.bq λh=>by
 obtain⟨l,n⟩:=x;obtain⟨E,U,ag⟩:(∀ a∈l,a=rS)/\n=(l.length:Int)/\l.length<2 ^ 63:=h;subst U;unfold YZ;rw[A.dt l (λi (_:Unit)=>(l,(l.length:Int),(i:Int),())) (λ_ b=>.next b) (λ_=>.next (l,(l.length:Int),())) () ?_ ?_ ?_]
 ·rw[dP,A.aF,A.bY];simp
 ·rfl
 ·intro i G _;have hw:=bz (n:=(i:Int)+1) (by omega) (by omega);have:=E _ (List.getElem_mem G);simp only[bV,cU G,if_true,df G,cM G,A.bp,ch,hw,this];rfl
 ·simp
abbrev E8:aK:=⟨uS,uS,λd=>yD d.1/\H.HR d.2,λd=>d⟩
theorem atp(x):A.le (YW I6.sh H.vS.sh x) (E8.sh x):=A.bq λh=>by
 unfold YW;rw[show I6.sh x.1=A.pure x.1 from A.bR h.1 _,show H.vS.sh x.2=A.pure x.2 from A.bR h.2 _];simp only[A.iT,A.bp,A.fB]
theorem dk.atq{d:bc}(h:dk d):H.HR d.2:=by
 have:=h.aab;exact⟨by have:=this.eb;omega,by have:=this.ee;omega,by have:=this.jl;omega,by have:=this.n4;omega⟩
theorem atr{d:bc}(h:dk d):E8.sh d=A.pure d:=A.bR ⟨h.copy,h.atq⟩ _
theorem ats{d:bc}(E:e7 d.1)(U:H.ix d.2):E3.sh (d,[])=A.pure (uZ d []):=A.bR ⟨E,U,by show 0<2 ^ 63;decide⟩ _
theorem att{s:bF}(h:e7 s):E1.sh ((s,[],[],[],[],0,0,0,0,0,0,0),s,[],[],[],[],0,0,0,0,0,0,0)=A.pure true:=A.bR ⟨rfl,h,by show 0<2 ^ 63;decide,by show 0<2 ^ 63;decide,by show 0<2 ^ 63;decide,by show 0<2 ^ 63;decide⟩ _
theorem atu{d:bc}(E:e7 d.1)(U:H.ix d.2)(ao:uZ d []=false)(he:kn d=0):dk d/\d.1.1.1.length<=6/\d.1.1.2.2.2.length<=10/\d.1.2.2.2.1.length<=3/\d.1.2.2.1.length<=4/\d.1.2.2.2.2.1.length<=3:=by
 have au:dk d:=(asq (l:=[]) (n:=40) E U (by rw[ao,he];rfl)).1;refine⟨au,?_⟩;have aD:=au.uV;have hc:cw d.1.1=0:=(IL aD).1;have aP:rP d.1=false:=by
  unfold uZ at ao;split at ao
  ·cases ao
  ·grind
 unfold rP at aP;split at aP
 ·cases aP
 ·rename_i b8;split at aP
  ·cases aP
  split at aP
  ·cases aP
  rw[if_neg (by omega)]at aP;have aR:k1 d.1.1=false:=by grind
  unfold k1 at aR;split at aR
  ·cases aR
  split at aR
  ·cases aR
  rw[if_neg (by omega)]at aR;split at aR
  ·cases aR
  simp only[Bool.or_eq_false_iff,decide_eq_false_iff_not]at aP aR;omega
def qI(t:k4):aT:=rW [116,114,105,97,108] [t.1,t.2.1,t.2.2.1,t.2.2.2]
theorem atv{t:k4}(h:(0<=t.1/\t.1<=999999)/\(0<=t.2.1/\t.2.1<=999999)/\(0<=t.2.2.1/\t.2.2.1<=999999)/\0<=t.2.2.2/\t.2.2.2<=999999)(d:bc):k8 d (qI t)=uU d [t.1,t.2.1,t.2.2.1,t.2.2.2]:=
 atj (k:=4) (m:=false) (j:=9) (by decide) (by decide) (by simp) (by simpa using h) d
def h0(w:a8)(k:Nat):a8:=(w.1,w.2.1,w.2.2.1,w.2.2.2.take k)
theorem QG{w:a8}(h:cw w=0)(k:Nat):cw (h0 w k)=0:=by
 have hw:=A' h;have aH:l0 w.2.2.2=true:=by
  unfold cw at h;grind
 have E:jW (h0 w k)=true:=by
  unfold jW s4 at hw ⊢;simp only[Bool.and_eq_true,List.all_eq_true,Bool.not_eq_true',Bool.or_eq_false_iff,decide_eq_false_iff_not]at hw ⊢;obtain⟨⟨⟨⟨⟨⟨b8,a2⟩,a3⟩,a4⟩,a5⟩,fG⟩,fH⟩:=hw;refine⟨⟨⟨⟨⟨⟨b8,a2⟩,a3⟩,?_⟩,a5⟩,fG⟩,λt hm=>fH t (List.mem_of_mem_take hm)⟩;show ¬(((w.2.2.2.take k).length:Int) > 30)
  rw[List.length_take];omega
 have U:l0 (w.2.2.2.take k)=true:=by
  unfold l0 at aH ⊢;simp only[List.all_eq_true,List.mem_range,List.length_take]at aH ⊢;intro i G j aE;have:=aH i (by omega) j aE;have g:∀ n,n<k->(w.2.2.2.take k).getD n oY=w.2.2.2.getD n oY:=λn aA=>by
   rw[List.getD_eq_getElem?_getD,List.getD_eq_getElem?_getD,List.getElem?_take_of_lt aA]
  rw[g i (by omega),g j (by omega)];exact this
 unfold cw;rw[if_pos E];exact if_pos U
theorem atw{w:a8}(h:pK w=true)(k:Nat):pK (h0 w k)=true:=by
 unfold pK at h ⊢;rw[List.all_eq_true]at h ⊢;intro i G;have:=h i G;simp only[Bool.not_eq_true',decide_eq_false_iff_not]at this ⊢;intro aX;apply this;have e:fm (h0 w k) (i:Int)=[]:=List.eq_nil_of_length_eq_zero (by omega);have:fm w (i:Int)=[]:=by
  refine List.eq_nil_iff_forall_not_mem.2 λn aA=>?_;have hm:n∈fm (h0 w k) (i:Int):=by
   unfold fm at aA ⊢;obtain⟨E,U⟩:=List.mem_filter.1 aA;refine List.mem_filter.2 ⟨E,?_⟩;unfold uG at U ⊢;rw[Bool.and_eq_true,List.all_eq_true]at U ⊢;exact⟨λt aH=>U.1 t (List.mem_of_mem_take aH),U.2⟩
  rw[e]at hm;cases hm
 rw[this];rfl
theorem aa3{w:a8}(h:cw w=0){t:k4}(aH:t∈w.2.2.2):fF w t.1=true/\(0<=t.1/\t.1<=999999)/\(0<=t.2.1/\t.2.1<=999999)/\(0<=t.2.2.1/\t.2.2.1<=999999)/\0<=t.2.2.2/\t.2.2.2<=999999:=by
 have hw:=A' h;have cV:=wi hw;unfold jW s4 at hw;simp only[Bool.and_eq_true,List.all_eq_true,Bool.not_eq_true',Bool.or_eq_false_iff,decide_eq_false_iff_not]at hw;obtain⟨⟨⟨⟨⟨⟨b8,a2⟩,a3⟩,a4⟩,a5⟩,fG⟩,fH⟩:=hw;have ae:=fH t aH;unfold rH at ae;simp only[Bool.and_eq_true,decide_eq_true_eq]at ae;obtain⟨⟨aP,aR⟩,bO,gx⟩:=ae;obtain⟨ox,vt,Dv⟩:=ym.1 aR;have Ab:=qA.1 aP;have hm:((iR w t.2.1).length:Int)<=4:=by
  unfold iR;have cb:t.2.1.toNat<w.2.1.length:=by omega
  have:=fG _ (List.getElem_mem cb);unfold pJ at this;simp only[Bool.and_eq_true,Bool.not_eq_true',decide_eq_false_iff_not]at this;rw[List.getD_eq_getElem?_getD,List.getElem?_eq_getElem cb];have:=this.1;simp only[Option.getD_some];omega
 refine⟨aP,?_⟩;omega
theorem atx{w:a8}(h:dM w true=0)(k:Nat)(b:Bool)(W:b=true):dM (h0 w k) b=0:=by
 obtain⟨E,_,U⟩:=uH h;unfold dM;rw[if_neg (by rw[QG E];decide),if_neg (by simp[W]),if_pos (atw U k)]
theorem aty{w:a8}(h:dM w true=0){k:Nat}(al:k<w.2.2.2.length)(s:_)(c:H.aZ):k8 ((h0 w k,s),c) (qI w.2.2.2[k])=(rS,((h0 w (k+1),s),c)):=by
 obtain⟨aP,aR⟩:=aa3 (uH h).1 (List.getElem_mem al);rw[atv aR];have e:ma (h0 w k) (bn [w.2.2.2[k].1,w.2.2.2[k].2.1,w.2.2.2[k].2.2.1,w.2.2.2[k].2.2.2] 0,bn [w.2.2.2[k].1,w.2.2.2[k].2.1,w.2.2.2[k].2.2.1,w.2.2.2[k].2.2.2] 1,bn [w.2.2.2[k].1,w.2.2.2[k].2.1,w.2.2.2[k].2.2.1,w.2.2.2[k].2.2.2] 2,bn [w.2.2.2[k].1,w.2.2.2[k].2.1,w.2.2.2[k].2.2.1,w.2.2.2[k].2.2.2] 3)=h0 w (k+1):=by
  unfold ma h0;simp only[List.take_succ_eq_append_getElem al];rfl
 unfold uU;simp only[e];rw[if_neg (by rw[QG (uH h).1];decide),if_neg];show ¬(rI (h0 w (k+1)) w.2.2.2[k].1).2≠0;have rz:=atx h (k+1) (fF (h0 w (k+1)) w.2.2.2[k].1) aP;unfold rI;rw[rz];simp
theorem atz{w:a8}(h:dM w true=0)(s:_)(c:H.aZ):(∀ a∈(gS ((h0 w 0,s),c) (w.2.2.2.map qI)).1,a=rS)/\(gS ((h0 w 0,s),c) (w.2.2.2.map qI)).2=((h0 w w.2.2.2.length,s),c):=
 atk (S:=λk=>((h0 w k,s),c)) λk al=>aty h al s c
theorem acJ(x:bc×Int×Int×Int×Int)(E:e7 x.1.1)(U:H.ix x.1.2):Pb E3.sh rV.sh Ba.sh E6.sh E5.sh E8.sh uW.sh E7.sh E1.sh uJ.sh s8.sh x=A.pure true:=by
 obtain⟨d,f⟩:=x;change e7 d.1 at E;change H.ix d.2 at U;unfold Pb;rw[ats E U,A.aF,show rV.sh d=A.pure (kn d) from A.bR ⟨E,U⟩ _,A.kE,A.aF,show Ba.sh d.1.1=A.pure (dM d.1.1 true) from A.bR E.1 _,A.kE,A.aF,atn];by_cases hc:uZ d []=false/\kn d=0/\dM d.1.1 true=0
 ·obtain⟨ao,he,al⟩:=hc;obtain⟨au,ayS,l10,_⟩:=atu E U ao he;rw[if_neg (by simp[ao,he,al])];have ig:=λt=>aa3 (t:=t) (uH al).1;rw[A.f_ d.1.1.2.2.2 (λi (o:List aT)=>((i:Int),d,f,d.1.1,o,())) (λt o=>.next (o++[qI t])) (λo=>.next (d,f,d.1.1,o,())) (λi o=>o.length=i) [] ?_ rfl ?_ ?_]
  ·rw[dP,uj,A.aF,A.bY,List.nil_append];simp only;rw[atr au,A.aF];obtain⟨⟨w,s⟩,c⟩:=d;have aD:=au.uV;obtain⟨aw,aN⟩:=IL aD;have af:dk ((h0 w 0,s),c):=by
    refine⟨⟨⟨au.fK.1.1,au.fK.1.2.1,by show (h0 w 0).2.2.2.length<2 ^ 63;unfold h0;simp,au.fK.1.2.2.2⟩,au.fK.2⟩,?_,au.wF,au.yJ⟩;unfold iS;rw[if_neg (by rw[show cw (h0 w 0,s).1=0 from QG aw 0];decide),if_pos];exact aN
   have W:∀ t∈w.2.2.2.map qI,t.length<=10000:=λt aH=>by
    obtain⟨q,br,rfl⟩:=List.mem_map.1 aH;have:=(ig q br).2;have:=aaX (n:=5) (l:=[q.1,q.2.1,q.2.2.1,q.2.2.2]) (w:=[116,114,105,97,108]) (by simp;omega) (by decide);unfold qI;simp at this;omega
   have atA:(w.2.2.2.map qI).length<=40:=by rw[List.length_map];show w.2.2.2.length<=40;have:w.2.2.2.length<=10:=l10;omega
   have M:uW.sh ((((w.1,w.2.1,w.2.2.1,[]),s),c),w.2.2.2.map qI)=_:=aax af atA W;obtain⟨b4,cv⟩:=atz al s (iw ((h0 w 0,s),c)).2;have cE:((h0 w 0,s),(iw ((h0 w 0,s),c)).2)=iw ((h0 w 0,s),c):=rfl;have ed:h0 w w.2.2.2.length=w:=by unfold h0;rw[List.take_length]
   rw[cE]at b4 cv;rw[ed]at cv;rw[M,A.aF,cv];have aj:=ari (iw ((h0 w 0,s),c)) (w.2.2.2.map qI);generalize (gS (iw ((h0 w 0,s),c)) (w.2.2.2.map qI)).1=a at *
   rw[show E7.sh (a,Int.ofNat (w.2.2.2.map qI).length)=A.pure true from A.bR ⟨b4,by rw[aj];rfl,by show a.length<2 ^ 63;omega⟩ _,att au.fK];simp only[A.kE,A.aF];rw[if_neg (by simp)];rw[show ∀ y,uJ.sh (w,y)=A.pure (pL w y.1 y.2.1 y.2.2) from λy=>A.bR au.fK.1 _,show ∀ y,s8.sh (w,y)=A.pure (rI w y) from λy=>A.bR au.fK.1 _];simp[A.kE]
  ·rfl
  ·intro i G o af;have hw:=bz (n:=(i:Int)+1) (by omega) (by omega);have dz:=(ig _ (List.getElem_mem G)).2;refine⟨?_,λbe db=>?_⟩
   ·simp only[bV,cU G,if_true,df G,cM G,A.bp,ch,hw];rw[ate (by decide) (by simp) (by simp;omega),A.aF,A.bt (gb (by simp only[hX];omega))];rfl
   ·simp only[V.next.injEq]at db;subst db;simp[af]
  ·simp
 ·rw[if_pos (by simp;grind),A.aF]
end Go.Fer.ar
namespace Go.Fer.oe
open Go.Proofs Go.Proofs.Tryz
open A (V)
set_option maxRecDepth 100000
noncomputable section
abbrev L:cC:=.eM
abbrev S(a b:cC):cC:=.seq a b
abbrev b':cC:=S L L
abbrev C(a b:cC):cC:=.cond a b
abbrev B(a:cC):cC:=.block a
abbrev J(s:List (Nat×bW))(b:List (Nat×b1))(x y:cC):cC:=.join ⟨s,b⟩ x y
abbrev ar(s:List (Nat×bW))(b:List (Nat×b1))(x:cC):cC:=.loop ⟨s,b⟩ x
abbrev cg(s:List (Nat×bW))(b:List (Nat×b1))(t:List (Nat×bW))(c:List (Nat×b1))(u:List (Nat×bW))(d:List (Nat×b1))(x y:cC):cC:=.range ⟨s,b⟩ ⟨t,c⟩ ⟨u,d⟩ x y
abbrev v2:bW:=.val t2
abbrev a2:b1:=.bh t2
abbrev v4:bW:=.val t4
abbrev v9:bW:=.val t9
abbrev a9:b1:=.bh t9
abbrev v22:bW:=.val t22
abbrev pU:bW:=.val DG
abbrev qJ:bW:=.val Hr
abbrev qK:b1:=.fZ n1
abbrev er:bW:=.val eX
abbrev E9:b1:=.bh eX
abbrev v28:bW:=.val t28
abbrev BA:bW:=.val Hs
abbrev pV:bW:=.val Am
abbrev wK:b1:=.fZ t32
abbrev nB:bW:=.val qo
abbrev pW:bW:=.val n2
abbrev aa4:b1:=.fZ M_
abbrev JI:b1:=.fZ tm
abbrev yR:b1:=.fZ wQ
abbrev BB:b1:=.bh tn
abbrev aa5:b1:=.fZ tn
abbrev rX:bW:=.val UU
abbrev JJ:b1:=.bh xX
abbrev QH:b1:=.fZ xX
abbrev QI:b1:=.bh vG
abbrev wL:b1:=.bh rp
abbrev atB:b1:=.fZ rp
abbrev QJ:b1:=.bh xY
abbrev aa6:b1:=.fZ xY
abbrev atC:bW:=.val Na
abbrev E_:b1:=.fZ qp
abbrev aa7:bW:=.val UX
abbrev BC:bW:=.val DH
abbrev aa8:bW:=.val jb
abbrev wM:b1:=.bh jb
abbrev QK:bW:=.val vH
abbrev aa9:bW:=.val UY
abbrev aa_:bW:=.val pt
abbrev E':b1:=.bh pt
abbrev atD:bW:=.val UZ
abbrev aa':bW:=.val Nc
abbrev aba:bW:=.val Nd
abbrev gT:b1:=.bh qq
abbrev yS:b1:=.fZ qq
abbrev QL:bW:=.val Nf
abbrev kJ:bW:=.val oL
abbrev atE:bW:=.val U5
abbrev abb:b1:=.fZ M'
abbrev BD:b1:=.bh Ak
abbrev abc:b1:=.fZ Ak
abbrev QM:bW:=.val Hq
abbrev Fa:b1:=.bh vF
abbrev abd:b1:=.bh Al
abbrev abe:b1:=.fZ Al
abbrev atF:bW:=.val U6
abbrev QN:bW:=.val Nh
abbrev v228:bW:=.val t228
abbrev atG:bW:=.val U9
abbrev atH:bW:=.val U_
abbrev atI:bW:=.val U'
abbrev BE:bW:=.val Va
abbrev atJ:bW:=.val Vb
abbrev atK:bW:=.val Vc
abbrev JK:bW:=.val DJ
abbrev nq:List (Nat×bW):=[(6,.aW 17 0),(56,.hF [30000,30001,30002,30003,30004,30005,30006,30007,30008,30009]),(57,v2)]
abbrev nC:List (Nat×bW):=[(1,.aW 1 0)]
abbrev abf:List (Nat×bW):=[(1,.aW 1 0),(2,.aW 2 0),(3,.aW 1 0),(38,v2),(39,v2)]
abbrev abg:List (Nat×bW):=[(2,.aW 2 0),(7,.aW 22 0),(8,.aW 8 0),(9,.aW 9 0),(10,.own 10),(11,.aW 11 0),(24,v22),(25,v2),(26,v2)]
abbrev abh:List (Nat×bW):=[(2,.aW 2 0),(3,.aW 3 0),(4,.own 4),(5,.own 5),(7,QK),(8,v2),(9,v2),(23,v2),(29,QL),(30,v2),(31,v2)]
abbrev tj:List (Nat×bW):=[(1,.aW 1 0),(3,v2)]
abbrev abi:List (Nat×bW):=[(2,.aW 2 0),(7,.aW 30 0),(10,v2),(11,v2),(46,v2),(47,v2),(52,pU),(53,v2),(54,v2),(61,v2),(62,v2)]
abbrev atL:List (Nat×bW):=[(1,.aW 1 0),(2,.aW 2 0),(3,.aW 1 0),(5,.iV 22),(38,v2),(39,v2),(60,v2),(61,v2)]
abbrev abj:List (Nat×bW):=[(0,kJ),(1,er),(2,v2),(3,.hd),(9,v2),(29,v28),(30,v2),(31,v2),(1000000,.aV eX)]
abbrev abk:List (Nat×bW):=[(0,kJ),(1,.own 200001),(2,pV),(3,v2),(4,.fI 100002),(16,nB),(17,v2),(18,v2)]
abbrev QO:List (Nat×bW):=[(1,.aW 1 0),(2,.aW 2 0)]
abbrev BF:List (Nat×bW):=[(2,.aW 2 0),(3,.aW 3 0)]
abbrev abl:List (Nat×bW):=[(2,.aW 2 0),(3,.aW 3 0),(4,.own 4),(5,.own 5),(7,QK),(8,v2),(9,v2),(23,v2)]
abbrev abm:List (Nat×bW):=[(2,.aW 2 0),(7,.aW 30 0),(10,v2),(46,v2),(47,v2),(52,pU),(53,v2),(54,v2)]
abbrev abn:List (Nat×bW):=[(0,.hd),(2,.dV vH),(10,aba),(11,v2),(1000000,.aV (.ay jb t2))]
abbrev QP:List (Nat×bW):=[(1,.aW 1 0),(2,.aW 2 0),(3,.aW 3 0),(4,v2)]
abbrev abo:List (Nat×bW):=[(2,v2),(6,.aW 6 0),(8,.aW 8 0),(9,v4),(17,aa'),(18,v2),(19,v2)]
abbrev abp:List (Nat×bW):=[(4,.aW 4 0),(5,.aW 5 0),(10,.fI 24),(28,QL),(29,v2),(30,v2)]
abbrev abq:List (Nat×bW):=[(2,.aW 2 0),(3,.aW 3 0),(4,.own 4),(5,.own 5),(7,QK),(23,v2)]
abbrev BG:List (Nat×bW):=[(1,.aW 1 0),(5,v2)]
abbrev abr:List (Nat×bW):=[(0,aa7),(1,v2),(2,v2),(3,v2),(9,v2),(18,er),(19,v2),(20,v2)]
abbrev abt:List (Nat×bW):=[(1,v2),(6,kJ),(8,.own 8),(9,.own 50260),(29,v2),(30,v2)]
abbrev abu:List (Nat×bW):=[(1,rX),(2,.aW 2 0),(5,v2),(6,v2),(7,v2),(8,v2),(10,v2)]
abbrev JL:List (Nat×bW):=[(1,.aW 1 0),(3,v2),(4,v2)]
abbrev abv:List (Nat×bW):=[(1,atD),(4,.aW 4 0),(5,v4),(13,QL),(14,v2),(15,v2)]
abbrev abw:List (Nat×bW):=[(0,kJ),(1,pV),(5,.own 50140),(6,v2),(16,v2),(17,v2)]
abbrev QQ:List (Nat×bW):=[(2,.aW 2 0),(3,.aW 3 0),(7,v2)]
abbrev jz:List (Nat×b1):=[(17,.cells DI [er,.own 30000,.own 30001,.own 30002,.own 30003,.own 30004,.own 30005,.own 30006,.own 30007,.own 30008,.own 30009]),(30000,gT),(30001,gT),(30002,gT),(30003,gT),(30004,gT),(30005,gT),(30006,gT),(30007,gT),(30008,gT),(30009,gT),(100000,.cells rq [nB,pW,er,nB,v2,v2,v2,v2,v2,v2,v2,pW,.own 100002]),(100002,E')]
abbrev tk:List (Nat×b1):=[(12,yS),(17,.cells DI [er,.own 30000,.own 30001,.own 30002,.own 30003,.own 30004,.own 30005,.own 30006,.own 30007,.own 30008,.own 30009]),(30000,gT),(30001,gT),(30002,gT),(30003,gT),(30004,gT),(30005,gT),(30006,gT),(30007,gT),(30008,gT),(30009,gT),(100000,.cells rq [nB,pW,er,nB,v2,v2,v2,v2,v2,v2,v2,pW,.own 100002]),(100002,E')]
abbrev JM:List (Nat×b1):=[(1,.cells t32 [.own 17,.own 22,v2,.own 27,.own 84,.own 87,.own 90,.own 93,v2]),(2,.cells t32 [.cu,.cu,v2,.cu,.cu,.cu,.cu,.cu,v2]),(17,BD),(22,Fa),(27,BB),(84,a2),(87,QJ),(90,QI),(93,wL)]
abbrev abx:List (Nat×b1):=[(1,.cells t32 [.own 17,.own 22,v2,.own 27,er,v28,BA,pV,v2]),(2,.cells t32 [.cu,.cu,v2,.cu,.cu,.cu,.cu,.cu,v2]),(17,BD),(22,.gn vF (.own 50530)),(27,BB),(50530,abd)]
abbrev wN:List (Nat×b1):=[(2,wK),(28,.mp rp t2),(30,.cells t222 [v22,pU,v2,qJ,er,v28,BA,pV,v2,.cu,.fI 28])]
abbrev aby:List (Nat×b1):=[(1,.cells t32 [.own 17,.own 22,v2,.own 27,er,v28,BA,pV,v2]),(2,.cells t32 [.cu,.cu,v2,.cu,.cu,.cu,.cu,.cu,v2]),(17,BD),(22,Fa),(27,BB)]
abbrev QR:List (Nat×b1):=[(1,wK),(2,.cells t32 [.cu,.cu,v2,.cu,.cu,.cu,.cu,.cu,v2]),(3,.cells t32 [v22,pU,v2,qJ,.own 11,.own 16,.own 20,.own 24,v2]),(11,a2),(16,QJ),(20,QI),(24,wL)]
abbrev abz:List (Nat×b1):=[(1,qK),(2,.cells n1 [.cu,.cu,v2,.cu]),(3,.cells n1 [.own 8,.own 59,v2,.own 12]),(5,.cells vF [.own 26]),(8,BD),(12,BB),(26,abd),(59,Fa)]
abbrev abA:List (Nat×b1):=[(4,a9),(5,.cells wQ [.cu,.cu,v2,.cu,.cu,.cu,.cu,.cu,v2,.cu,.cu,.cu,.cu,v2,v2,v2,v2,v2,v2,v2]),(50230,E_)]
abbrev abB:List (Nat×b1):=[(1,qK),(2,.cells n1 [.cu,.cu,v2,.cu]),(3,.cells n1 [.own 8,.own 59,v2,.own 12]),(8,BD),(12,BB),(59,Fa)]
abbrev BH:List (Nat×b1):=[(2,JI),(3,.gJ t2),(4,a2),(5,a2)]
abbrev abC:List (Nat×b1):=[(2,wK),(28,.mp rp t2),(30,.cells t222 [v22,pU,v2,qJ,er,v28,BA,pV,v2,.own 109,.fI 28]),(109,JJ)]
abbrev abD:List (Nat×b1):=[(28,.mp rp t2),(30,.cells t222 [v22,pU,v2,qJ,er,v28,BA,pV,v2,.own 109,.fI 28]),(109,JJ)]
abbrev abE:List (Nat×b1):=[(100000,.cells rq [nB,pW,er,nB,v2,v2,v2,v2,v2,v2,v2,pW,.own 100002]),(100002,E')]
abbrev nD:List (Nat×b1):=[(1,qK)]
abbrev od:List (Nat×b1):=[(1,JI)]
abbrev abF:List (Nat×b1):=[(2,.gJ n1),(22,.cells xZ [v22,pU,v2,qJ,.own 61]),(61,E9)]
abbrev yT:List (Nat×b1):=[(2,qK),(3,qK)]
abbrev qL:List (Nat×b1):=[(1,wK)]
abbrev QS:List (Nat×b1):=[(100002,.mp t2 t2),(200001,a2)]
abbrev Fb:List (Nat×b1):=[(2,JI),(3,JI)]
abbrev Fc:List (Nat×b1):=[(5,wK),(6,wK)]
abbrev bG:cC:=S L (C b' L)
abbrev ei:cC:=C L L
abbrev aw:cC:=S L ei
abbrev aN:cC:=S L b'
abbrev mb:cC:=S L bG
abbrev cE:cC:=S L (S ei (S (B mb) L))
abbrev ed:cC:=S L (S ei (S (B b') L))
abbrev dY:cC:=S aw (S (B bG) L)
abbrev la:cC:=S L (S L (S L (J QO aby (S L (B (ar abf aby (S L (S ei (J abf abx (B (S L (S L (S (.nO 5 L) (S L (B (ar atL abx ed))))))) (.Gv 22 L))))))) (S L (J QO JM (S L (B (ar [(1,.aW 1 0),(2,.aW 2 0),(100,v2),(101,v2)] JM ed))) (J QO JM (S L (B (ar [(1,.aW 1 0),(2,.aW 2 0),(119,v2),(120,v2)] JM ed))) b'))))))
abbrev tC:cC:=S L (J [(0,er),(1,v2)] [] aw (S L (J [(0,er),(6,v228)] [] aw (S L (S L (J [(7,.own 30)] [(30,a2)] (B (ar [(7,.own 30),(8,v2)] [(30,a2)] (S aw (B L)))) b'))))))
abbrev abG:cC:=S L (S L (J [(4,.fI 12)] [(12,.mp t2 jb)] (S L (B (ar [(4,.fI 12),(13,pW),(14,v2),(15,v2)] [(12,.mp t2 jb)] (S L (S ei (S (B (S L (S mb L))) L)))))) (S L (J [(9,.own 9)] [(9,wM)] (S L (B (ar [(4,.fI 12),(9,.own 9),(39,er),(40,v2),(41,v2)] [(9,wM),(12,.jh t2 jb)] ed))) b'))))
abbrev kK:cC:=S L (S bG b')
abbrev wO:cC:=S aw (S (B mb) L)
abbrev u1:cC:=S aw (S (B L) L)
abbrev tl:cC:=S L aN
abbrev qM:cC:=S L tl
abbrev BI:cC:=S L (S L (S bG aN))
abbrev yU:cC:=B (S L (S L aw))
abbrev abH:cC:=S L (J [] [] (S L (B (ar [(0,er),(1,v2),(5,v2)] [] dY))) b')
abbrev abI:cC:=S L (J [] [] (S L (B (ar [(0,er),(3,v2)] [] dY))) b')
abbrev yV:cC:=B (S L aw)
abbrev abJ:cC:=S L (B (ar [(1,.aW 1 0),(4,v2)] qL dY))
abbrev abK:cC:=S L (S (S L (B (S L (C b' bG)))) b')
abbrev k_:=cK.mk ⟨[(0,.aW 100000 0),(1,.val eX)],[(100000,.fZ qp)]⟩ ⟨[(0,.val t9)],[(100000,.fZ qp)]⟩ [none] 2
def atM:=mk ata func208 cf aN an0
def atN:=mk atM func148 H.cf aN H.ak4
def atO:=mk atN func147 H.vQ aN H.ak8
def atP:=mk atO func149 H.vR kK H.ak_
def atQ:=mk atP func67 H.vU (S L (S bG (J nC od (S L (B (ar tj od dY))) (J nC od (S L (B (ar [(1,.aW 1 0),(4,v2)] od dY))) (J nC od (S L (B (ar BG od dY))) (J [] [] (S L (B (ar [(1,.aW 1 0),(6,v2)] od wO))) b')))))) H.alF
def atS:=mk atQ func68 H.HQ aN H.alc
def atT:=mk atS func26 H.hr (S L (S bG (J [] [] (S L (B (ar tj od (S aw (J tj od (B (S L (B (ar JL od dY)))) L))))) b'))) H.alH
def atU:=mk atT func251 oX aN an8
def atV:=mk atU func316 uD abI an9
def atW:=mk atV func252 s5 (S L (J nC [(1,abe)] (S L (B (ar tj [(1,abe)] dY))) b')) an'
def atX:=mk atW func253 pH aN an4
def atY:=mk atX func317 A8 aN an6
def atZ:=mk atY func254 rF aN an7
def at0:=mk atZ func179 s6 (S L (S bG (J nC nD (S L (B (ar tj nD wO))) (J nC nD (S L (B (ar BG nD (S aw (J BG nD (B (S bG (S L (B (ar [(1,.aW 1 0),(5,v2),(6,v2)] nD dY))))) L))))) (J [] [] (S L (B (ar [(1,.aW 1 0),(7,v2)] nD wO))) b'))))) aob
def at1:=mk at0 func104 hr (S L (S bG (J [] [] (S L (B (ar tj nD (S aw (J tj nD (B (S L (B (ar JL nD wO)))) L))))) b'))) aod
def at2:=mk at1 func105 cf aN ao9
def at3:=mk at2 func180 IC abH apb
def at4:=mk at3 func106 IE kK apl
def at5:=mk at4 func107 IF aN apm
def at6:=mk at5 func48 pQ (S L (S mb (S bG (J nC qL abJ (J nC qL (S L (B (ar BG qL dY))) (J nC qL (S L (B (ar [(1,.aW 1 0),(6,v2)] qL dY))) (J [] [] (S L (B (ar [(1,.aW 1 0),(7,v2)] qL wO))) b'))))))) apn
def x7:=mk at6 func15 ar.rV kK ar.asb
def at7:=mk x7 func110 wb (S L (S bG (J nC nD (S L (B (ar tj nD (S aw (J tj nD (B (S bG (S L (B (ar JL nD dY))))) L))))) (S bG (J nC nD (S L (B (ar BG nD dY))) b'))))) ao5
def aua:=mk at7 func50 I7 (S L (S bG (J nC qL (S L (B (ar tj qL dY))) (J nC qL abJ (S bG (S L (J BG qL (S L (B (ar [(1,.aW 1 0),(5,v2),(6,v2)] qL u1))) b'))))))) aqO
def aub:=mk aua func51 H.wb (S L (S bG (S bG (S L (J [(3,v2)] [] (S L (B (ar JL od u1))) b'))))) H.anm
def auc:=mk aub func111 ar.Jy (S L (S L (J [(3,.own 5)] [(5,a9)] (S L (B (ar [(0,v9),(3,.own 5),(4,v2)] [(5,a9)] (S aw (J [(0,v9),(3,.own 5),(4,v2)] [(5,a9)] (B aw) L))))) b'))) ar.ase
def aud:=mk auc func112 ar.Jx (S L (S bG (S L (J [(3,v2)] [] (S L (B (ar [(0,v9),(3,v2),(4,v2)] [] (S aw (S (B (S bG L)) L))))) b')))) ar.asd
def aue:=mk aud func113 ar.Jz (S L qM) ar.asg
def auf:=mk aue func52 ar.JB (S L (S L (J [(3,.own 3),(5,rX)] [(3,a2)] (S L (B (ar [(3,.own 3),(5,rX),(6,v2)] [(3,a2)] (S aw (S (B (S L (S bG L))) L))))) (S L (J [] [] (S L (B (ar [(3,.own 3),(5,rX),(8,rX),(9,er),(10,er),(11,v2)] [(3,a2)] dY))) b'))))) ar.ash
def sK:=mk auf func14 ar.E3 (S L (S bG (S L (J [(1,rX),(2,.aW 2 0),(5,v2),(6,v2),(7,v2),(8,v2)] [(2,yR)] (S L (B (ar [(1,rX),(2,.aW 2 0),(5,v2),(6,v2),(7,v2),(8,v2),(9,v2)] [(2,yR)] u1))) (J [(2,.aW 2 0),(5,v2),(6,v2),(7,v2),(8,v2)] [(2,yR)] (S L (B (ar abu [(2,yR)] (S aw (J abu [(2,yR)] (B (S bG (S L (B (S L (C L (S L (C L (S L (C b' aw)))))))))) L))))) b'))))) ar.asp
def aug:=mk sK func235 mE abH an3
def auh:=mk aug func255 s7 tl aoi
def aui:=mk auh func182 Ew (S L (J [(1,v2),(2,v2),(3,.aW 3 0)] [(3,qK)] (S L (B (ar [(1,v2),(2,v2),(3,.aW 3 0),(7,v2)] [(3,qK)] wO))) b')) aok
def auj:=mk aui func114 Ex (S L (S L (J [(5,.own 5)] [(5,a2)] (S L (B (ar [(1,v2),(2,.aW 2 0),(5,.own 5),(6,v2)] [(2,qK),(5,a2)] (S aw (J [(1,v2),(2,.aW 2 0),(5,.own 5),(6,v2)] [(2,qK),(5,a2)] (B aw) L))))) b'))) aom
def auk:=mk auj func53 Ip (S L (S mb (S bG (J [] [] (S L (B (ar [(2,.aW 2 0),(6,v2)] [(2,qK)] dY))) b')))) aoo
def DV:=mk auk func16 Ba aN aop
def aul:=mk DV func276 (kZ jV) (S L (J [] [] (S L (B (ar [(0,qJ),(1,atF),(7,v2),(8,v2)] [] cE))) b')) (sN jV)
def aum:=mk aul func206 (jd jV) aN (sO jV)
def aun:=jP aum [] func207 (wj jV) 1 aN (Ey jV)
def auo:=l2 aun [(207,1)] func144 (jy jV) aN (Ez jV)
def aup:=mk auo func145 cf aN aor
def auq:=mk aup func266 yo aN aot
def aur:=mk auq func267 oX aN aos
def aus:=mk aur func265 Iu aN aoA
def aut:=mk aus func292 (kZ bu) (S L (J [] [] (S L (B (ar [(0,er),(1,aa9),(7,v2),(8,v2)] [] cE))) b')) (sN bu)
def auu:=mk aut func227 (jd bu) aN (sO bu)
def auv:=jP auu [] func331 (wj bu) 1 aN (Ey bu)
def auw:=l2 auv [(331,1)] func269 (jy bu) aN (Ez bu)
def auy:=mk auw func270 uD abI aow
def auz:=l2 auy [] func268 s5 aN aoB
def auA:=mk auz func372 (kZ qz) (S L (J [] [] (S L (B (ar [(0,QM),(1,atI),(7,v2),(8,v2)] [] cE))) b')) (sN qz)
def auB:=mk auA func332 (jd qz) aN (sO qz)
def auC:=jP auB [] func333 (wj qz) 1 aN (Ey qz)
def auD:=l2 auC [(333,1)] func272 (jy qz) aN (Ez qz)
def auE:=jP auD [] func271 Bb 1 aN aoC
def auF:=mk auE func64 pH aN aou
def auG:=mk auF func65 rF aN aov
def auH:=jP auG [] func273 Bc 1 aN aoD
def auI:=mk auH func373 (kZ kH) (S L (J [] [] (S L (B (ar [(0,v22),(1,atJ),(7,v2),(8,v2)] [] cE))) b')) (sN kH)
def auJ:=mk auI func334 (jd kH) aN (sO kH)
def auK:=jP auJ [] func335 (wj kH) 1 aN (Ey kH)
def auL:=l2 auK [(335,1)] func274 (jy kH) aN (Ez kH)
def auM:=mk auL func374 (kZ k3) (S L (J [] [] (S L (B (ar [(0,pU),(1,atK),(7,v2),(8,v2)] [] cE))) b')) (sN k3)
def auN:=mk auM func336 (jd k3) aN (sO k3)
def auO:=jP auN [] func337 (wj k3) 1 aN (Ey k3)
def auP:=l2 auO [(337,1)] func275 (jy k3) aN (Ez k3)
def auQ:=l2 auP [(271,1),(273,1)] func205 s6 (S L (S L qM)) aoE
def auR:=mk auQ func141 hr (S L (S bG (S L (J [] [] (S L (B (ar [(3,.fI 12),(14,qJ),(15,v2),(16,v2)] [(12,.mp rp t2)] (S L (S ei (S (B (S L (S L (S mb L)))) L)))))) b')))) aoI
def auS:=mk auR func164 cf aN ao8
def auT:=mk auS func220 rK aN ao_
def auU:=mk auT func221 IB (S L (J [] [] (S L (B (ar [(0,er),(1,aa9),(7,er),(8,v2),(9,v2)] [] cE))) b')) apa
def auV:=jP auU [] func222 EC 1 aN ape (hc:=λx h=>by obtain⟨w,p,ao,_⟩:=h;exact sF ⟨⟨trivial,rr (congrArg (λo=>o.1) ao)⟩,rr (congrArg (λo=>o.2) ao)⟩)
def auW:=jP auV [(222,1)] func219 ED 1 aN apf (hc:=λx h=>by obtain⟨_,w,ao,_⟩:=h;exact sF ⟨trivial,rr ao⟩)
def auX:=mk auW func224 rK aN ao'
def auY:=l2 auX [] func223 EE aN apg
def auZ:=jP auY [] func225 EF 1 aN aph (hc:=λx h=>by obtain⟨w,ao,_⟩:=h;exact sF ⟨trivial,rr ao⟩)
def au0:=mk auZ func226 EG aN api
def au1:=mk au0 func293 (kZ nm) (S L (J [] [] (S L (B (ar [(0,v28),(1,atG),(7,v2),(8,v2)] [] cE))) b')) (sN nm)
def au2:=mk au1 func228 (jd nm) aN (sO nm)
def au3:=mk au2 func294 (kZ mG) (S L (J [] [] (S L (B (ar [(0,BA),(1,atE),(7,v2),(8,v2)] [] cE))) b')) (sN mG)
def au4:=mk au3 func229 (jd mG) aN (sO mG)
def au5:=mk au4 func295 (kZ pO) (S L (J [] [] (S L (B (ar [(0,pV),(1,atH),(7,v2),(8,v2)] [] cE))) b')) (sN pO)
def au6:=mk au5 func230 (jd pO) aN (sO pO)
def au7:=l2 au6 [(219,1),(225,1)] func171 Ps (S L (S L (S L qM))) apj
def QT:=mk au7 func100 pQ (S L (S mb (S bG b'))) apk
def abL:cK:=⟨⟨[(0,.cu),(1,.val Ng)],[]⟩,⟨[(0,.own 50000)],[(50000,.bh t2)]⟩,[none],2,H.AF⟩
theorem au8:cR Tryz.prog dD 213 abL:=d_ QT [] trivial func213 (S L (S (S L (B (cg [(2,.aW 2 0)] [(2,.cells eX [.own 50000]),(50000,a2)] [(2,.aW 100002 0),(7,v2)] [(100002,.cells eX [.own 150000]),(150000,a2)] [] [(100002,.cells eX [.own 150000]),(150000,a2)] L (B L)))) b')) H.alz
def abM:cK:=⟨⟨[(0,.val Ng)],[]⟩,⟨[(0,.own 50040)],[(50040,.bh t2)]⟩,[none],1,H.AF⟩
theorem au9:cR Tryz.prog dD 160 abM:=d_ QT [(213,.fa abL)] ⟨au8,trivial⟩ func160 aN H.alA
def QU:=px QT mz [(160,.fa abM),(161,.fa QD)] ⟨au9,aaS,trivial⟩ func86 H.sP qM H.alB
def abN:cK:=⟨⟨[(0,.hd),(1,.dV Hu),(1000000,.aV t2)],[]⟩,⟨[(1000000,.aV t2)],[]⟩,[],2,H.Oc⟩
theorem au_:cR Tryz.prog dD 277 abN:=d_ (S:=H.Oc) QU [] trivial func277 (S L (B (ar [(0,.hd),(5,.j2 5),(1000000,.aV t2)] [(5,.cr t2 jb)] (S L (S ei yV))))) (λx=>A.le_refl _)
theorem au':wW Tryz.prog 277 ⟨[Hu],t2,H.jR⟩:=M6 (c:=abN) au_ mz (λx l L=>(l,x.getD [],(l,L,[],false),())) rfl (by decide) (by simp[gm])
 (λx l L i ah=>by
  obtain⟨T,aU⟩:=ah;obtain⟨m,hm,_⟩:=aU;subst hm;by_cases aX:i=0
  ·subst aX;exact .inr (.inr (.inl ⟨rfl,rfl⟩))
  ·by_cases E:i=1
   ·subst E;exact .inr (.inl ⟨by decide,by decide,_,_,rfl,rfl⟩)
   by_cases U:i=b5
   ·subst U;exact .inr (.inr (.inr ⟨rfl,rfl⟩))
   ·refine .inl ?_;exact (if_neg aX).trans ((if_neg E).trans (if_neg U)))
 rfl (λbm=>⟨_,_,_,_,rfl⟩) (λx l ah=>by
  obtain⟨T,aU⟩:=ah;obtain⟨m,hm,_⟩:=aU;subst hm;have h:=H.amz l m;refine⟨h.1,λbm gi dH e6 p fl=>?_⟩;have e:aG.aV bm.1.1 t2 bm.1.2.1 bm.1.2.2.1 bm.1.2.2.2=.aV dH t2 e6 p false:=fl;injection e with aw aN cE ed dY
  rw[<-ed];exact h.2 bm gi dY)
def ava:=px QU (QU.u [] [(277,⟨[Hu],t2,H.jR⟩)] ⟨au',trivial⟩) [] trivial func210 H.yb aN H.alE
def avb:=mk ava func154 H.AM abG H.alP
def avc:=mk avb func85 H.cf aN H.ak5
def avd:=mk avc func209 (H.kZ H.ho) (S L (J [] [] (S L (B (ar [(0,pW),(1,QN),(7,v2),(8,v2)] [] cE))) b')) H.ald
def ave:=mk avd func151 (H.jd H.ho) aN H.ale
def avf:=mk ave func231 H.vQ (S L (J nC [(1,aa4)] (S L (B (ar [(1,.aW 1 0),(13,.own 13),(14,v2),(15,v2)] [(1,aa4),(13,a2)] cE))) b')) H.ak9
def avg:=mk avf func76 H.vP aN H.ak7
def avh:=mk avg func233 H.vR tl H.ak'
def avi:=jP avh [] func232 H.D8 1 aN H.ala
def avj:=mk avi func234 H.AB aN H.alb
def avk:=l2 avj [(232,1)] func172 H.vU (S L (S bG (J nC od (S L (B (ar [(1,.aW 1 0),(38,nB),(39,v2),(40,v2)] od cE))) (J nC od (S L (B (ar [(1,.aW 1 0),(57,nB),(58,v2),(59,v2)] od cE))) tl)))) H.alG
def avl:=mk avk func101 H.hr (S L (S bG (S mb b'))) H.alR
def avm:=mk avl func46 ar.rV kK ar.ar4
def QV:=px avm mz [(256,.fa aaU)] ⟨as',trivial⟩ func184 H.Jb (S L (S L (J [(0,BE),(3,v2)] [] (S L (B (ar [(0,BE),(3,v2),(9,BE),(10,v2),(11,v2)] [] (S L (S ei (J [(0,BE),(3,v2),(9,BE),(10,v2),(11,v2)] [] yU L)))))) (S L (J [(6,.own 50240)] [(50240,wM)] (S L (B (ar [(6,.own 50240),(25,BE),(26,v2),(27,v2)] [(50240,wM)] ed))) b'))))) H.aqX
def abO:cK:=⟨⟨[(0,.val DH)],[]⟩,⟨[(0,.own 50240)],[(50240,.bh t3)]⟩,[none],1,H.Jc⟩
theorem avn:cR Tryz.prog dD 185 abO:=d_ QV [(257,.fa aaT)] ⟨as_,trivial⟩ func185 (S L (S L (J [(0,BC),(3,v2)] [] (S L (B (ar [(0,BC),(3,v2),(9,BC),(10,v2),(11,v2)] [] (S L (S ei (J [(0,BC),(3,v2),(9,BC),(10,v2),(11,v2)] [] yU L)))))) (S L (J [(6,.own 50240)] [(50240,a2)] (S L (B (ar [(6,.own 50240),(25,BC),(26,v2),(27,v2)] [(50240,a2)] ed))) b'))))) H.aqY
def abP:cK:=⟨⟨[(0,.own 200001)],[(200001,.bh t3)]⟩,⟨[(0,.sub 200001)],[(200001,.bh t3)]⟩,[none],1,H.Je⟩
theorem avo:cR Tryz.prog dD 186 abP:=d_ QV [] trivial func186 (S L (S bG (J [(0,.own 200001)] [(200001,a2)] (S L (B (ar [(0,.own 200001),(3,v2)] [(200001,a2)] (S aw (J [(0,.own 200001),(3,v2)] [(200001,a2)] (B (S L (C (S L (J [(0,.own 200001),(3,v2)] [(200001,a2)] (S L (B (ar [(0,.own 200001),(3,v2),(4,.sub 200001),(5,v2)] [(200001,a2)] (S aw (J [(0,.own 200001),(3,v2),(4,.sub 200001),(5,v2)] [(200001,a2)] (B bG) L))))) aN)) L))) L))))) b'))) H.aq4
def avp:=mk QV func187 H.ES kK H.ara
def u2:=px avp mz [(161,.fa QD),(185,.fa abO),(186,.fa abP)] ⟨aaS,avn,avo,trivial⟩ func117 H.Bt (S L (S mb (S L (S L (S mb (S L (S bG (S L BI)))))))) H.arc
def avq:cK:=⟨⟨[(0,.val t22)],[]⟩,⟨[(0,.own 60)],[(60,.bh Ak)]⟩,[none],1,ar.qG⟩
theorem avr:cR Tryz.prog dD 188 avq:=d_ u2 [] trivial func188 kK ar.wG
abbrev QW:e5:=.kC (hG.kC (ar.fR kH).dv)
theorem abQ:e5.hA Tryz.prog dD 188 QW:=yQ (sh:=(ar.fR kH).sh) avr (λx h=>⟨h,λbm gi=>by have h:bm=_:=gi;subst h;exact (A.gz).symm⟩)
def avt:cK:=⟨⟨[(0,.val DG)],[]⟩,⟨[(0,.own 60)],[(60,.bh vF)]⟩,[none],1,ar.qG⟩
theorem avu:cR Tryz.prog dD 189 avt:=d_ u2 [] trivial func189 kK ar.wG
abbrev QX:e5:=.kC (hG.kC (ar.fR k3).dv)
theorem abR:e5.hA Tryz.prog dD 189 QX:=yQ (sh:=(ar.fR k3).sh) avu (λx h=>⟨h,λbm gi=>by have h:bm=_:=gi;subst h;exact (A.gz).symm⟩)
def avv:cK:=⟨⟨[(0,.val Hr)],[]⟩,⟨[(0,.own 60)],[(60,.bh tn)]⟩,[none],1,ar.qG⟩
theorem avw:cR Tryz.prog dD 190 avv:=d_ u2 [] trivial func190 kK ar.wG
abbrev QY:e5:=.kC (hG.kC (ar.fR jV).dv)
theorem abS:e5.hA Tryz.prog dD 190 QY:=yQ (sh:=(ar.fR jV).sh) avw (λx h=>⟨h,λbm gi=>by have h:bm=_:=gi;subst h;exact (A.gz).symm⟩)
def QZ:cK:=⟨⟨[(0,.val Hq)],[]⟩,⟨[(0,.own 60)],[(60,.bh Al)]⟩,[none],1,ar.qG⟩
theorem abT:cR Tryz.prog dD 191 QZ:=d_ u2 [] trivial func191 kK ar.wG
def abU:cK:=⟨⟨[(0,.val eX)],[]⟩,⟨[(0,.own 60)],[(60,.bh t3)]⟩,[none],1,ar.Jk⟩
theorem abV:cR Tryz.prog dD 192 abU:=d_ u2 [] trivial func192 kK ar.arI
abbrev Q0:e5:=.kC (hG.kC H.oS.dv)
theorem abW:e5.hA Tryz.prog dD 192 Q0:=yQ (sh:=H.oS.sh) abV (λx h=>⟨h,λbm gi=>by have h:bm=_:=gi;subst h;exact (A.gz).symm⟩)
def avx:cK:=⟨⟨[(0,.val t28)],[]⟩,⟨[(0,.own 60)],[(60,.bh xY)]⟩,[none],1,ar.qG⟩
theorem avy:cR Tryz.prog dD 193 avx:=d_ u2 [] trivial func193 kK ar.wG
abbrev Q1:e5:=.kC (hG.kC (ar.fR nm).dv)
theorem abX:e5.hA Tryz.prog dD 193 Q1:=yQ (sh:=(ar.fR nm).sh) avy (λx h=>⟨h,λbm gi=>by have h:bm=_:=gi;subst h;exact (A.gz).symm⟩)
def avz:cK:=⟨⟨[(0,.val Hs)],[]⟩,⟨[(0,.own 60)],[(60,.bh vG)]⟩,[none],1,ar.qG⟩
theorem avA:cR Tryz.prog dD 194 avz:=d_ u2 [] trivial func194 kK ar.wG
abbrev JN:e5:=.kC (hG.kC (ar.fR mG).dv)
theorem Q2:e5.hA Tryz.prog dD 194 JN:=yQ (sh:=(ar.fR mG).sh) avA (λx h=>⟨h,λbm gi=>by have h:bm=_:=gi;subst h;exact (A.gz).symm⟩)
def avB:cK:=⟨⟨[(0,.val Am)],[]⟩,⟨[(0,.own 60)],[(60,.bh rp)]⟩,[none],1,ar.qG⟩
theorem avC:cR Tryz.prog dD 195 avB:=d_ u2 [] trivial func195 kK ar.wG
abbrev Q3:e5:=.kC (hG.kC (ar.fR pO).dv)
theorem abY:e5.hA Tryz.prog dD 195 Q3:=yQ (sh:=(ar.fR pO).sh) avC (λx h=>⟨h,λbm gi=>by have h:bm=_:=gi;subst h;exact (A.gz).symm⟩)
def abZ:=px u2 mz [(188,QW),(189,QX),(190,QY),(191,.fa QZ),(192,Q0),(193,Q1),(194,JN),(195,Q3)] ⟨abQ,abR,abS,abT,abW,abX,Q2,abY,trivial⟩ func118 ar.Jn la ar.arM
def ab0:cK:=⟨⟨[(0,.val wQ)],[]⟩,⟨[(0,.aW 17 0)],[(17,.fZ qp)]⟩,[none],1,ar.uy⟩
theorem avD:cR Tryz.prog dD 57 ab0:=d_ abZ [] trivial func57 tl ar.OH
def Fe:=mk abZ func58 ar.Jt aN ar.arZ
def JO:cK:=⟨⟨[(0,.aW 100000 0),(1,.val n2),(2,.val eX)],[(100000,.fZ qp)]⟩,⟨[(0,.val t9)],[(100000,.fZ qp)]⟩,[none],3,ar.Bv⟩
theorem Q4:cR Tryz.prog dD 196 JO:=d_ Fe [] trivial func196 BI ar.aro
def Q5:cK:=k_ (ar.fw 5 ar.P5)
theorem avE:cR Tryz.prog dD 119 Q5:=d_ Fe [(196,.fa JO)] ⟨Q4,trivial⟩ func119 aN ar.arp
def avF:cK:=k_ (ar.fw 4 ar.P6)
theorem avG:cR Tryz.prog dD 120 avF:=d_ Fe [(196,.fa JO)] ⟨Q4,trivial⟩ func120 aN ar.arq
def avH:cK:=k_ (ar.fw 1 ar.P7)
theorem avI:cR Tryz.prog dD 121 avH:=d_ Fe [(196,.fa JO)] ⟨Q4,trivial⟩ func121 aN ar.OI
def avJ:=mk Fe func339 H.HS aN H.alg
def avK:=mk avJ func280 H.HT (S L (S L (S L (S (S L (C (S bG b') L)) (S bG (S bG (S bG b'))))))) H.alh
def avL:=mk avK func279 H.l5 aN H.ali
def avM:=mk avL func211 It (S L (J [] [] (S L (B (ar [(0,er),(1,v2),(7,v2),(8,v2)] [] cE))) b')) aoy
def avN:=mk avM func157 mE aN aoz
def Ff:=jP avN [] func156 H.AW 1 aN H.OI
abbrev yW:=Ap (aji Ff) [(156,1)] []
def ab1:cK:=⟨⟨[(0,.val n2)],[]⟩,⟨[(0,.own 9),(1,.val t4)],[(9,.bh jb)]⟩,[none,none],1,H.H0⟩
theorem avO:cR Tryz.prog yW 154 ab1:=d_ Ff [] trivial func154 abG H.alQ
def ab2:cK:=⟨⟨[(0,.own 200001),(1,.val Nh)],[(200001,.bh jb)]⟩,⟨[(0,.sub 200001)],[(200001,.bh jb)]⟩,[none],2,H.H3⟩
theorem avP:cR Tryz.prog yW 155 ab2:=d_ Ff [] trivial func155 (S L (S L (S bG (J [(0,.own 200001),(5,v2)] [(200001,wM)] (S L (B (ar [(0,.own 200001),(1,QN),(5,v2),(6,v2)] [(200001,wM)] (S aw (J [(0,.own 200001),(1,QN),(5,v2),(6,v2)] [(200001,wM)] (B mb) L))))) aN)))) H.alS
def avQ:=mk Ff func192 H.oS kK H.alf
def avR:=mk avQ func291 H.Oh (S L (J [(0,v228),(2,v2)] [] bG (J [(0,v228),(2,v2)] [] bG (J [(0,v228),(2,v2)] [] bG b')))) H.alj
def BJ:=mk avR func215 H.Oi (S L (S (C b' L) b')) (H.alk (λ_=>A.fail))
def ab3:cK:=⟨⟨[(0,.own 200001),(1,.val t2),(2,.val t2),(3,.val DJ)],[(200001,.bh qq)]⟩,⟨[],[(200001,.bh qq)]⟩,[],4,H.HV⟩
theorem avS:cR Tryz.prog yW 375 ab3:=d_ BJ [] trivial func375 (S L (B (ar [(0,.own 200001),(1,v2),(2,v2),(3,JK),(8,v2)] [(200001,gT)] (S aw (J [(0,.own 200001),(1,v2),(2,v2),(3,JK),(8,v2)] [(200001,gT)] (B (S L (B (ar [(0,.own 200001),(1,v2),(2,v2),(3,JK),(8,v2),(9,v2)] [(200001,gT)] u1)))) L))))) H.alv
def ab4:cK:=⟨⟨[(0,.own 200001),(1,.val t2),(2,.val t2),(3,.val t2),(4,.val DJ)],[(200001,.bh qq)]⟩,⟨[],[(200001,.bh qq)]⟩,[],5,H.HX⟩
theorem avT:cR Tryz.prog yW 338 ab4:=d_ BJ [(375,.fa ab3)] ⟨avS,trivial⟩ func338 (S L (S L (B (ar [(0,.own 200001),(1,v2),(2,v2),(3,v2),(4,JK),(10,v4),(11,v4)] [(200001,gT)] (B (S L (S bG L))))))) H.alw
def ab5:cK:=⟨⟨[(0,.own 200001),(1,.val DJ)],[(200001,.bh qq)]⟩,⟨[],[(200001,.bh qq)]⟩,[],2,H.AE⟩
theorem avU:cR Tryz.prog yW 278 ab5:=d_ BJ [(338,.fa ab4)] ⟨avT,trivial⟩ func278 b' H.aly
def ab6:cK:=⟨⟨[(0,.aW 100000 0),(1,.val eX)],[(100000,.cells rq [.val qo,.val n2,.val eX,.val qo,.val t2,.val t2,.val t2,.val t2,.val t2,.val t2,.val t2,.val n2,.own 100002]),(100002,.bh pt)]⟩,⟨[(0,.val pt),(1,.val t4)],[(100000,.cells rq [.val qo,.val n2,.val eX,.val qo,.val t2,.val t2,.val t2,.val t2,.val t2,.val t2,.val t2,.val n2,.own 100002]),(100002,.bh pt)]⟩,[none,none],2,H.uy⟩
theorem avV:cR Tryz.prog yW 212 ab6:=d_ BJ [(278,.fa ab5)] ⟨avU,trivial⟩ func212 (S L (J [(0,.aW 100000 0),(1,er),(6,.aW 17 0)] [(17,.cells DI [er,.own 30000,.own 30001,.own 30002,.own 30003,.own 30004,.own 30005,.own 30006,.own 30007,.own 30008,.own 30009]),(100000,.cells rq [nB,pW,er,nB,v2,v2,v2,v2,v2,v2,v2,pW,.own 100002]),(100002,E'),(30000,gT),(30001,gT),(30002,gT),(30003,gT),(30004,gT),(30005,gT),(30006,gT),(30007,gT),(30008,gT),(30009,gT)] L (J [(6,.aW 17 0)] jz (S L (B (ar [(1,er),(6,.aW 17 0),(21,pW),(22,v2),(23,v2)] jz (S L (S ei (J [(1,er),(6,.aW 17 0),(21,pW),(22,v2),(23,v2)] jz (B (S L (.split 8 4 10 L))) L)))))) (J [(6,.aW 17 0)] jz (S L (B (.nT (.num 57 0 (S L (S ei (J nq jz (B (S L (S L (S L (B (ar [(6,.aW 17 0),(10,.own 30000),(56,.hF [30000,30001,30002,30003,30004,30005,30006,30007,30008,30009]),(57,v2),(62,.own 30000),(63,v2),(64,v2)] jz (S L (S ei (S (B (S L (S L (J [(6,.aW 17 0),(10,.own 30000),(11,v2),(12,.aW 12 0),(13,v2),(56,.hF [30000,30001,30002,30003,30004,30005,30006,30007,30008,30009]),(57,v2),(62,.own 30000),(63,v2),(64,v2)] tk aw bG)))) L))))))))) L)))) (.nT (.num 57 1 (S L (S ei (J nq jz (B (S L (S L (S L (B (ar [(6,.aW 17 0),(10,.own 30001),(56,.hF [30000,30001,30002,30003,30004,30005,30006,30007,30008,30009]),(57,v2),(62,.own 30001),(63,v2),(64,v2)] jz (S L (S ei (S (B (S L (S L (J [(6,.aW 17 0),(10,.own 30001),(11,v2),(12,.aW 12 0),(13,v2),(56,.hF [30000,30001,30002,30003,30004,30005,30006,30007,30008,30009]),(57,v2),(62,.own 30001),(63,v2),(64,v2)] tk aw bG)))) L))))))))) L)))) (.nT (.num 57 2 (S L (S ei (J nq jz (B (S L (S L (S L (B (ar [(6,.aW 17 0),(10,.own 30002),(56,.hF [30000,30001,30002,30003,30004,30005,30006,30007,30008,30009]),(57,v2),(62,.own 30002),(63,v2),(64,v2)] jz (S L (S ei (S (B (S L (S L (J [(6,.aW 17 0),(10,.own 30002),(11,v2),(12,.aW 12 0),(13,v2),(56,.hF [30000,30001,30002,30003,30004,30005,30006,30007,30008,30009]),(57,v2),(62,.own 30002),(63,v2),(64,v2)] tk aw bG)))) L))))))))) L)))) (.nT (.num 57 3 (S L (S ei (J nq jz (B (S L (S L (S L (B (ar [(6,.aW 17 0),(10,.own 30003),(56,.hF [30000,30001,30002,30003,30004,30005,30006,30007,30008,30009]),(57,v2),(62,.own 30003),(63,v2),(64,v2)] jz (S L (S ei (S (B (S L (S L (J [(6,.aW 17 0),(10,.own 30003),(11,v2),(12,.aW 12 0),(13,v2),(56,.hF [30000,30001,30002,30003,30004,30005,30006,30007,30008,30009]),(57,v2),(62,.own 30003),(63,v2),(64,v2)] tk aw bG)))) L))))))))) L)))) (.nT (.num 57 4 (S L (S ei (J nq jz (B (S L (S L (S L (B (ar [(6,.aW 17 0),(10,.own 30004),(56,.hF [30000,30001,30002,30003,30004,30005,30006,30007,30008,30009]),(57,v2),(62,.own 30004),(63,v2),(64,v2)] jz (S L (S ei (S (B (S L (S L (J [(6,.aW 17 0),(10,.own 30004),(11,v2),(12,.aW 12 0),(13,v2),(56,.hF [30000,30001,30002,30003,30004,30005,30006,30007,30008,30009]),(57,v2),(62,.own 30004),(63,v2),(64,v2)] tk aw bG)))) L))))))))) L)))) (.nT (.num 57 5 (S L (S ei (J nq jz (B (S L (S L (S L (B (ar [(6,.aW 17 0),(10,.own 30005),(56,.hF [30000,30001,30002,30003,30004,30005,30006,30007,30008,30009]),(57,v2),(62,.own 30005),(63,v2),(64,v2)] jz (S L (S ei (S (B (S L (S L (J [(6,.aW 17 0),(10,.own 30005),(11,v2),(12,.aW 12 0),(13,v2),(56,.hF [30000,30001,30002,30003,30004,30005,30006,30007,30008,30009]),(57,v2),(62,.own 30005),(63,v2),(64,v2)] tk aw bG)))) L))))))))) L)))) (.nT (.num 57 6 (S L (S ei (J nq jz (B (S L (S L (S L (B (ar [(6,.aW 17 0),(10,.own 30006),(56,.hF [30000,30001,30002,30003,30004,30005,30006,30007,30008,30009]),(57,v2),(62,.own 30006),(63,v2),(64,v2)] jz (S L (S ei (S (B (S L (S L (J [(6,.aW 17 0),(10,.own 30006),(11,v2),(12,.aW 12 0),(13,v2),(56,.hF [30000,30001,30002,30003,30004,30005,30006,30007,30008,30009]),(57,v2),(62,.own 30006),(63,v2),(64,v2)] tk aw bG)))) L))))))))) L)))) (.nT (.num 57 7 (S L (S ei (J nq jz (B (S L (S L (S L (B (ar [(6,.aW 17 0),(10,.own 30007),(56,.hF [30000,30001,30002,30003,30004,30005,30006,30007,30008,30009]),(57,v2),(62,.own 30007),(63,v2),(64,v2)] jz (S L (S ei (S (B (S L (S L (J [(6,.aW 17 0),(10,.own 30007),(11,v2),(12,.aW 12 0),(13,v2),(56,.hF [30000,30001,30002,30003,30004,30005,30006,30007,30008,30009]),(57,v2),(62,.own 30007),(63,v2),(64,v2)] tk aw bG)))) L))))))))) L)))) (.nT (.num 57 8 (S L (S ei (J nq jz (B (S L (S L (S L (B (ar [(6,.aW 17 0),(10,.own 30008),(56,.hF [30000,30001,30002,30003,30004,30005,30006,30007,30008,30009]),(57,v2),(62,.own 30008),(63,v2),(64,v2)] jz (S L (S ei (S (B (S L (S L (J [(6,.aW 17 0),(10,.own 30008),(11,v2),(12,.aW 12 0),(13,v2),(56,.hF [30000,30001,30002,30003,30004,30005,30006,30007,30008,30009]),(57,v2),(62,.own 30008),(63,v2),(64,v2)] tk aw bG)))) L))))))))) L)))) (.nT (.num 57 9 (S L (S ei (J nq jz (B (S L (S L (S L (B (ar [(6,.aW 17 0),(10,.own 30009),(56,.hF [30000,30001,30002,30003,30004,30005,30006,30007,30008,30009]),(57,v2),(62,.own 30009),(63,v2),(64,v2)] jz (S L (S ei (S (B (S L (S L (J [(6,.aW 17 0),(10,.own 30009),(11,v2),(12,.aW 12 0),(13,v2),(56,.hF [30000,30001,30002,30003,30004,30005,30006,30007,30008,30009]),(57,v2),(62,.own 30009),(63,v2),(64,v2)] tk aw bG)))) L))))))))) L)))) (.nT (.num 57 10 (S L (S ei L))) L))))))))))))) b')))) H.OH
def Q6(f:Nat):cK:=⟨⟨[(0,.aW 100000 0),(1,.val eX)],[(100000,.cells rq [.val qo,.val n2,.val eX,.val qo,.val t2,.val t2,.val t2,.val t2,.val t2,.val t2,.val t2,.val n2,.own 100002]),(100002,.bh pt)]⟩,⟨[],[(100000,.cells rq [.val qo,.val n2,.val eX,.val qo,.val t2,.val t2,.val t2,.val t2,.val t2,.val t2,.val t2,.val n2,.own 100002]),(100002,.bh pt)]⟩,[],2,H.yf f⟩
theorem ab7:∀f,cR Tryz.prog yW 158 (Q6 f)
 |0=>Nn func158 H.amp
 |f+1=>d_ BJ [(158,.fa (Q6 f)),(212,.fa ab6)] ⟨ab7 f,avV,trivial⟩ func158 (S L (S (S L (C (J [] abE (S L aw) L) L)) (S L (B (ar [(0,.aW 100000 0),(1,er),(4,v2),(7,v2)] abE u1))))) (H.ams f)
def avW:=px BJ (Ff.u [(156,1)] [] trivial) [(154,.fa ab1),(155,.fa ab2),(158,.fa (Q6 5))] ⟨avO,avP,ab7 5,trivial⟩ func74 H.v8 (S L (S mb (S L (S L (S L (J [(7,.aW 15 0)] [(15,.cells rq [nB,pW,er,nB,v2,v2,v2,v2,v2,v2,v2,.sub 50200,.own 30000]),(50200,wM),(30000,E')] bG kK)))))) H.amw
def avX:=mk avW func77 H.AX (S L (J [(4,.aW 4 0),(5,v4)] [(4,QH)] (S L (B (ar abv [(4,QH)] (S L (S ei (J abv [(4,QH)] (B (S L (S L (B (S L (C L aw)))))) L)))))) b')) H.amx
def avY:=jP avX [] func152 H.A2 1 aN H.amR
def avZ:=jP avY [(152,1)] func150 H.OS 1 aN H.amS (hc:=λx h=>by obtain⟨_,f,ao,_⟩:=h;exact sF ⟨trivial,rr ao⟩)
def Q7:=mk avZ func89 H.vY (S L (S L (J [(7,v2)] [] (S L (B (ar [(1,v2),(2,v2),(7,v2),(14,nB),(15,v2),(16,v2)] [] ed))) b'))) H.al1
def ab8:cK:=⟨⟨[(0,.hd),(1,.dV pt),(2,.dV vH),(1000000,.aV (.ay jb t2))],[]⟩,⟨[(1000000,.aV (.ay jb t2))],[]⟩,[],3,(H.HL H.vY.sh)⟩
theorem av0:cR Tryz.prog dD 159 ab8:=d_ (S:=(H.HL H.vY.sh)) Q7 [] trivial func159 (S L (B (ar abn [] (S L (S ei (J abn [] (B (S L (S L (B (ar [(0,.hd),(2,.dV vH),(5,aa'),(6,v2),(10,aba),(11,v2),(1000000,.aV (.ay jb t2))] [] (S aw (S (B aw) L))))))) L)))))) (λx=>A.le_refl _)
theorem av1:wW Tryz.prog 159 ⟨[pt,vH],(.ay jb t2),H.s3⟩:=M6 (c:=ab8) av0 mz (λx l L=>(l,x.1.getD none,x.2.getD none,(l,L,[],false),())) rfl (by decide) (by simp[gm])
 (λx l L i ah=>by
  obtain⟨T,aU⟩:=ah;obtain⟨t,b,E,U,an,_⟩:=aU;obtain⟨w9,w8⟩:=x;change w9=some (some t) at E;change w8=some (some b) at U;subst E;subst U;by_cases aX:i=0
  ·subst aX;exact .inr (.inr (.inl ⟨rfl,rfl⟩))
  ·by_cases E:i=1
   ·subst E;exact .inr (.inl ⟨by decide,by decide,_,_,rfl,rfl⟩)
   by_cases ag:i=2
   ·subst ag;exact .inr (.inl ⟨by decide,by decide,_,_,rfl,rfl⟩)
   by_cases U:i=b5
   ·subst U;exact .inr (.inr (.inr ⟨rfl,rfl⟩))
   ·refine .inl ?_;exact (if_neg aX).trans ((if_neg E).trans ((if_neg ag).trans (if_neg U))))
 rfl (λbm=>⟨_,_,_,_,rfl⟩) (λx l ah=>by
  obtain⟨T,aU⟩:=ah;obtain⟨t,b,E,U,an,_⟩:=aU;obtain⟨w9,w8⟩:=x;change w9=some (some t) at E;change w8=some (some b) at U;subst E;subst U;have h:=H.amC l t b an;refine⟨h.1,λbm gi dH e6 p fl=>?_⟩;have e:aG.aV bm.1.1 (.ay jb t2) bm.1.2.1 bm.1.2.2.1 bm.1.2.2.2=.aV dH (.ay jb t2) e6 p false:=fl;injection e with aw aN cE ed dY
  rw[<-ed];exact h.2 bm gi dY)
def av2:=px Q7 (Q7.u [] [(159,⟨[pt,vH],(.ay jb t2),H.s3⟩)] ⟨av1,trivial⟩) [] trivial func79 H.AY aN H.amG
def av3:=jP av2 [] func153 H.OT 1 (S L (S (S L (B (cg [(2,.dV t2),(3,.dV Nb),(5,.aW 5 0),(6,.aW 6 0)] [(5,.cells t2 [v2]),(6,.cells t4 [v4])] [(2,.dV t2),(3,.dV Nb),(5,.aW 100005 0),(6,.aW 100006 0),(12,aa8),(13,v2)] [(100005,.cells t2 [v2]),(100006,.cells t4 [v4])] [] [(100005,.cells t2 [v2]),(100006,.cells t4 [v4])] b' (B bG)))) b')) H.amT (hc:=λx h=>by obtain⟨_,_,_,_,rfl,_⟩:=h;exact sF ⟨⟨⟨trivial,rfl⟩,rfl⟩,rfl⟩)
def av4:=l2 av3 [(150,1),(153,1)] func70 H.A3 (S L (S L (S bG kK))) H.amU
def av5:=mk av4 func71 H.yh aN H.amV
def av6:=l2 av5 [] func34 H.H_ aN H.amW
def av7:=mk av6 func199 ar.yK (S L (S bG (S L (J [(3,.own 3)] [(3,a9)] (S L (B (ar [(3,.own 3),(9,er),(10,v2),(11,v2)] [(3,a9)] ed))) b')))) ar.ark
def av8:=mk av7 func198 ar.qF abK ar.arl
def ab9:=mk av8 func197 ar.yL aN ar.arn
def av9:cK:=k_ (ar.fw 1 ar.P8)
theorem av_:cR Tryz.prog dD 122 av9:=d_ ab9 [] trivial func122 aN ar.ars
def awa:=mk ab9 func73 H.vZ kK H.al3
def awb:=jP awa [] func72 H.yi 1 aN H.amX
def ab_:=l2 awb [(72,1)] func35 H.AV aN H.amZ
def awc:cK:=k_ (ar.fw 1 ar.P9)
theorem awd:cR Tryz.prog dD 123 awc:=d_ ab_ [] trivial func123 aN ar.art
def awe:=jP ab_ [] func75 H.OU 1 aN H.am0
def awf:=jP awe [] func78 H.OV 1 (S L (S L (S (S L (B (cg [(2,.dV t2),(3,.dV tm),(7,.aW 7 0)] [(7,.cells t2 [v2])] [(2,.dV t2),(3,.dV tm),(7,.aW 100007 0),(13,aa8),(14,v2)] [(100007,.cells t2 [v2])] [] [(100007,.cells t2 [v2])] b' (B aw)))) b'))) H.am1 (hc:=λx h=>by obtain⟨_,_,_,_,rfl,_⟩:=h;exact sF ⟨⟨⟨trivial,rfl⟩,rfl⟩,rfl⟩)
def ab':=l2 awf [(75,1),(78,1)] func36 H.Ib BI H.am4
def awg:cK:=k_ (ar.fw 1 ar.P_)
theorem awh:cR Tryz.prog dD 124 awg:=d_ ab' [] trivial func124 aN ar.aru
def awi:=mk ab' func81 H.x' aN H.ak6
def awj:=jP awi [] func80 H.A4 1 aN H.X'
def awk:=mk awj func83 H.yj (S L (S L (S L (J [(6,.aW 6 0),(8,.aW 8 0),(9,v4)] [(6,yS),(8,yS)] (S L (B (ar abo [(6,yS),(8,yS)] (S L (S ei (J abo [(6,yS),(8,yS)] yV L)))))) b')))) H.am6
def awl:=jP awk [] func82 H.OZ 1 (S L (S L (J [(6,v2)] [] (S L (B (ar [(0,aa_),(1,.dV t2),(2,.dV tm),(6,v2),(10,v2)] [] (S L (S ei (J [(0,aa_),(1,.dV t2),(2,.dV tm),(6,v2),(10,v2)] [] yU L)))))) b'))) H.am9 (hc:=λx h=>by obtain⟨_,_,_,rfl,_⟩:=h;exact sF ⟨⟨trivial,rfl⟩,rfl⟩)
def aca:=l2 awl [(80,1),(82,1)] func37 H.Ie BI H.am'
def awm:cK:=k_ (ar.fw 1 ar.P')
theorem awn:cR Tryz.prog dD 125 awm:=d_ aca [] trivial func125 aN ar.arv
def Q8:=jP aca [] func84 H.O2 1 aN H.ane (hc:=λx h=>by obtain⟨a,b,ao⟩:=h;exact sF ⟨⟨trivial,rr (congrArg (λo=>o.1) ao)⟩,rr (congrArg (λo=>o.2) ao)⟩)
def acb:cK:=⟨⟨[(0,.hd),(1,.dV Ht),(1000000,.aV t2)],[]⟩,⟨[(1000000,.aV t2)],[]⟩,[],2,H.Ob⟩
theorem awo:cR Tryz.prog dD 162 acb:=d_ (S:=H.Ob) Q8 [] trivial func162 (S L (B (ar [(0,.hd),(5,.j2 5),(1000000,.aV t2)] [(5,.cr t2 t2)] (S L (S ei yV))))) (λx=>A.le_refl _)
theorem awp:wW Tryz.prog 162 ⟨[Ht],t2,H.jR⟩:=M6 (c:=acb) awo mz (λx l L=>(l,x.getD [],(l,L,[],false),())) rfl (by decide) (by simp[gm])
 (λx l L i ah=>by
  obtain⟨T,aU⟩:=ah;obtain⟨m,hm,_⟩:=aU;subst hm;by_cases aX:i=0
  ·subst aX;exact .inr (.inr (.inl ⟨rfl,rfl⟩))
  ·by_cases E:i=1
   ·subst E;exact .inr (.inl ⟨by decide,by decide,_,_,rfl,rfl⟩)
   by_cases U:i=b5
   ·subst U;exact .inr (.inr (.inr ⟨rfl,rfl⟩))
   ·refine .inl ?_;exact (if_neg aX).trans ((if_neg E).trans (if_neg U)))
 rfl (λbm=>⟨_,_,_,_,rfl⟩) (λx l ah=>by
  obtain⟨T,aU⟩:=ah;obtain⟨m,hm,_⟩:=aU;subst hm;have h:=H.amy l m;refine⟨h.1,λbm gi dH e6 p fl=>?_⟩;have e:aG.aV bm.1.1 t2 bm.1.2.1 bm.1.2.2.1 bm.1.2.2.2=.aV dH t2 e6 p false:=fl;injection e with aw aN cE ed dY
  rw[<-ed];exact h.2 bm gi dY)
def awq:=px Q8 (Q8.u [] [(162,⟨[Ht],t2,H.jR⟩)] ⟨awp,trivial⟩) [] trivial func87 H.HY aN H.alD
def acd:=l2 awq [(84,1)] func38 H.If (S L (S L (S bG (S L (J [(10,.fI 24)] [(24,.mp t2 t2)] (S L (B (ar abp [(4,.gJ t2),(5,.gJ t2),(24,.mp t2 t2)] (S L (S ei (J abp [(4,.gJ t2),(5,.gJ t2),(24,.mp t2 t2)] yU L)))))) b'))))) H.anf
def awr:cK:=k_ (ar.fw 2 ar.Qb)
theorem aws:cR Tryz.prog dD 126 awr:=d_ acd [] trivial func126 (S L (S L (S bG (S bG b')))) ar.ary
def awt:=jP acd [] func88 H.A4 1 aN H.am8
def ace:=l2 awt [(88,1)] func39 H.Ig (S L (S L (S bG (J [(4,.own 4),(5,.own 5)] [(4,a2),(5,a2)] (S L (B (ar abq BH (S L (S ei (J abq BH (B (S L (S L (J abl BH (S L (B (ar abh BH (S L (S ei (J abh BH yU L)))))) (J abl BH aw aw))))) L)))))) b')))) H.ank
def awu:cK:=k_ (ar.fw 1 ar.Qd)
theorem awv:cR Tryz.prog dD 127 awu:=d_ ace [] trivial func127 (S L kK) ar.arA
def aww:=mk ace func143 s7 tl aoK
def awx:=jP aww [] func142 yp 1 aN aoL (hc:=λx h=>by obtain⟨i,w,n,ao,_⟩:=h;exact sF ⟨⟨⟨trivial,rr (congrArg (λo=>o.1) ao)⟩,rr (congrArg (λo=>o.2.1) ao)⟩,rr (congrArg (λo=>o.2.2) ao)⟩)
def awy:=l2 awx [(142,1)] func63 Bd (S L (S mb (S bG (S L (J [(7,.aW 22 0)] [(22,.cells xZ [v22,pU,v2,qJ,.own 61]),(61,E9)] (S L (B (ar [(2,.aW 2 0),(7,.aW 22 0),(24,v22),(25,v2),(26,v2)] abF (S L (S ei (J [(2,.aW 2 0),(7,.aW 22 0),(24,v22),(25,v2),(26,v2)] abF (B (S L (S L (J [(2,.aW 2 0),(7,.aW 22 0),(10,.own 10),(24,v22),(25,v2),(26,v2)] [(2,.gJ n1),(10,a2),(22,.cells xZ [v22,pU,v2,qJ,.own 61]),(61,E9)] (S L (B (ar abg [(2,.gJ n1),(8,.gJ t2),(9,abc),(10,a2),(11,.cells t2 [v2]),(22,.cells xZ [v22,pU,v2,qJ,.own 61]),(61,E9)] (S aw (J abg [(2,.gJ n1),(8,.gJ t2),(9,abc),(10,a2),(11,.gJ t2),(22,.cells xZ [v22,pU,v2,qJ,.own 61]),(61,E9)] yV (S b' L)))))) (S bG L))))) L)))))) b'))))) aoO
def DZ:=mk awy func24 s8 BI aoW
def BK:cK:=⟨⟨[(0,.val t32)],[]⟩,⟨[(0,.val t22),(1,.val DG),(2,.val t2),(3,.own 28),(4,.own 11),(5,.own 16),(6,.own 20),(7,.own 24),(8,.val t2)],[(28,.bh tn),(11,.bh t2),(16,.bh xY),(20,.bh vG),(24,.bh rp)]⟩,[some 9],1,ar.wH⟩
theorem Fg:cR Tryz.prog dD 118 BK:=d_ DZ [(188,QW),(189,QX),(190,QY),(191,.fa QZ),(192,Q0),(193,Q1),(194,JN),(195,Q3)] ⟨abQ,abR,abS,abT,abW,abX,Q2,abY,trivial⟩ func118 la ar.arL
def awz:cK:=k_ (ar.fw 4 ar.uU)
theorem awA:cR Tryz.prog dD 128 awz:=d_ DZ [(118,.fa BK)] ⟨Fg,trivial⟩ func128 (S L (S L (S L (S L (S bG (S mb aN)))))) ar.arP
def awB:=mk DZ func146 Ir abK aoP
def awC:=mk awB func66 Iy (S L (S L (J [(0,aa7),(1,v2),(9,v2)] [] (S L (B (ar abr [] (S L (S ei (J abr [] yV L)))))) b'))) aoU
def ry:=mk awC func23 uJ (S L kK) aoY
def awD:cK:=k_ (ar.fw 3 ar.Qe)
theorem awE:cR Tryz.prog dD 129 awD:=d_ ry [] trivial func129 (S L kK) ar.arC
def Fh:cK:=⟨⟨[(0,.aW 100000 0),(1,.val t32)],[(100000,.fZ qp)]⟩,⟨[(0,.val t9)],[(100000,.fZ qp)]⟩,[none],2,ar.wI⟩
theorem JP:cR Tryz.prog dD 200 Fh:=d_ ry [] trivial func200 (S L (S bG aN)) ar.arN
def awF:cK:=k_ (ar.fw 2 ar.yG)
theorem awG:cR Tryz.prog dD 130 awF:=d_ ry [(118,.fa BK),(200,.fa Fh)] ⟨Fg,JP,trivial⟩ func130 BI ar.arQ
def awH:cK:=k_ (ar.fw 3 ar.Qf)
theorem awI:cR Tryz.prog dD 131 awH:=d_ ry [(118,.fa BK),(200,.fa Fh)] ⟨Fg,JP,trivial⟩ func131 qM ar.arR
def awJ:cK:=k_ (ar.fw 4 ar.Qg)
theorem awK:cR Tryz.prog dD 132 awJ:=d_ ry [(118,.fa BK),(200,.fa Fh)] ⟨Fg,JP,trivial⟩ func132 qM ar.arS
def awL:cK:=k_ (ar.fw 5 ar.Qh)
theorem awM:cR Tryz.prog dD 133 awL:=d_ ry [(118,.fa BK),(200,.fa Fh)] ⟨Fg,JP,trivial⟩ func133 qM ar.arT
def acf:cK:=⟨⟨[(0,.own 200001),(1,.val t3),(2,.val t3)],[(200001,.bh vG)]⟩,⟨[(0,.sub 200001)],[(200001,.bh vG)]⟩,[none],3,(ar.Jl ar.Jp)⟩
theorem awN:cR Tryz.prog dD 201 acf:=d_ ry [] trivial func201 (S L (S L (S bG qM))) (ar.arJ ar.Jp)
def awO:cK:=k_ (ar.fw 1 ar.yH)
theorem awP:cR Tryz.prog dD 134 awO:=d_ ry [(194,JN),(201,.fa acf)] ⟨Q2,awN,trivial⟩ func134 (S L (S bG (S .Gw b'))) ar.arU
def awQ:=mk ry func217 s9 (S L (S L (S L (S L (S L (S L (S L (S L qM)))))))) apq
def awR:=mk awQ func165 s9 (S L (S (C aN L) aN)) (aps (λ_=>A.fail))
def awS:=mk awR func163 IJ (S L (J [(0,nB),(1,v2)] [] aw (S L (J [(0,nB),(6,v228)] [] aw (S L (S L (J [(7,.own 30)] [(30,JJ)] (B (ar [(7,.own 30),(8,v2)] [(30,JJ)] (S aw (B L)))) b'))))))) apA
def awT:=mk awS func90 Bi (S L (S mb (S bG (S L (J [(2,.aW 2 0),(7,.aW 30 0)] wN (S L (C mb L)) (J [(2,.aW 2 0),(7,.aW 30 0)] wN (S L (B (ar [(2,.aW 2 0),(7,.aW 30 0),(46,v2),(47,v2)] wN (S L (S ei (J [(2,.aW 2 0),(7,.aW 30 0),(46,v2),(47,v2)] wN (B (S L (S L (B (ar abm wN (S L (S ei (J abm wN (B (S L (S L (B (ar abi wN (S L (S ei (J abi wN yU L)))))))) L)))))))) L)))))) (J [(2,.aW 2 0),(7,.aW 30 0)] abC (S L (B (ar [(2,.aW 2 0),(7,.aW 30 0),(92,er),(93,v2),(94,v2)] abC ed))) (J [(7,.aW 30 0)] abD (S L (B (ar [(7,.aW 30 0),(114,pV),(115,v2),(116,v2)] abD ed))) b')))))))) apO
def acg:=mk awT func91 Pu aN apD
def ach:cK:=⟨⟨[(0,.val eX),(1,.val t3)],[]⟩,⟨[(0,.own 30)],[(30,.bh t3)]⟩,[none],2,wk⟩
theorem awU:cR Tryz.prog dD 92 ach:=d_ acg [] trivial func92 tC Zx
def awV:=mk acg func168 wm (S L (S (B (S L (C b' (S L (C b' bG))))) b')) apF
def aci:=mk awV func96 IT (S L (S L (J [(6,.own 6)] [(6,wL)] (S L (B (ar [(0,kJ),(6,.own 6),(14,er),(15,v2),(16,v2)] [(6,wL)] (S L (S ei (J [(0,kJ),(6,.own 6),(14,er),(15,v2),(16,v2)] [(6,wL)] (B (S L (S aw (S L (S L (J [(0,kJ),(6,.own 6),(10,.aW 10 0),(11,v2),(14,er),(15,v2),(16,v2)] [(6,wL),(10,aa6)] (S L (B (S L (C b' aw)))) (S bG (S L (B (ar [(0,kJ),(6,.own 6),(10,.aW 10 0),(11,v2),(14,er),(15,v2),(16,v2),(58,er),(59,v2),(60,v2)] [(6,wL),(10,aa6)] ed)))))))))) L)))))) b'))) ap0
def acj:cK:=⟨⟨[(0,.val eX),(1,.val t2)],[]⟩,⟨[(0,.own 30)],[(30,.bh t2)]⟩,[none],2,wk⟩
theorem awW:cR Tryz.prog dD 92 acj:=d_ aci [] trivial func92 tC Zx
def ack:=mk aci func169 Bn aN ap'
def Q9(f:Nat):cK:=⟨⟨[(0,.val oL),(1,.own 200001),(2,.val Am),(3,.val t2),(4,.fI 100002)],[(100002,.mp t2 t2),(200001,.bh t2)]⟩,⟨[(0,.val t4)],[(100002,.mp t2 t2),(200001,.bh t2)]⟩,[none],5,uQ f⟩
theorem acm:∀f,cR Tryz.prog dD 170 (Q9 f)
 |0=>Nn func170 aqi
 |f+1=>d_ ack [(170,.fa (Q9 f))] ⟨acm f,trivial⟩ func170 (S L (J [] QS (S L (B (ar abk QS (S L (S ei (J abk QS (B (S L (S aw (S L (S L (C aN L)))))) L)))))) b')) (aqh f)
def awX:=px ack mz [(92,.fa acj),(170,.fa (Q9 201))] ⟨awW,acm 201,trivial⟩ func98 IX (S L (S L (S L (J [(6,v2)] [] (S L (B (ar abw [(50140,a2)] (S L (S ei (J abw [(50140,a2)] yV L)))))) b')))) aqk
def awY:=mk awX func93 wz tl aql
def acn:=px awY mz [(92,.fa ach)] ⟨awU,trivial⟩ func40 I4 (S L (S L (S bG (S L (S L (J [(8,.own 8)] [(8,a2)] (S L (B (ar abt [(8,a2),(50260,a2)] (S L (S ei (J abt [(8,a2),(50260,a2)] yU L)))))) b')))))) aqH
def awZ:cK:=k_ (ar.fw 1 ar.Qi)
theorem aw0:cR Tryz.prog dD 135 awZ:=d_ acn [] trivial func135 tl ar.arE
def aw1:=mk acn func181 Pv aN apE
def aw2:=mk aw1 func108 IK (S L (J [(1,er),(2,.aW 2 0)] [(2,wK)] (S L (B (ar [(1,er),(2,.aW 2 0),(7,er),(8,v2),(9,v2)] [(2,wK)] cE))) b')) apG
def aw3:=mk aw2 func109 tb (S L (J [(4,v2)] [] (S L (B (ar [(0,kJ),(4,v2),(7,er),(8,v2),(9,v2)] [] (S L (S ei (J [(0,kJ),(4,v2),(7,er),(8,v2),(9,v2)] [] yV L)))))) b')) ap2
def aco:=mk aw3 func49 I5 (S L (S L (S bG (S bG b')))) aqJ
def aw4:cK:=k_ (ar.fw 0 ar.Qj)
theorem aw5:cR Tryz.prog dD 136 aw4:=d_ aco [(192,.fa abU)] ⟨abV,trivial⟩ func136 (S L (S L (J [(0,.aW 100000 0),(5,.own 50100)] [(50100,a2),(100000,E_)] (S L (B (ar [(0,.aW 100000 0),(5,.own 50100),(12,v2),(13,v2)] [(50100,a2),(100000,E_)] ed))) aN))) ar.arF
def Q_:=mk aco func92 IH tC apz
def JQ(f:Nat):cK:=⟨⟨[(0,.val oL),(1,.val eX),(2,.val t2),(3,.hd),(1000000,.aV eX)],[]⟩,⟨[(0,.val t4),(1000000,.aV eX)],[]⟩,[none],4,rO f⟩
theorem Q':∀f,cR Tryz.prog dD 167 (JQ f)
 |0=>Nn func167 aqv
 |f+1=>d_ Q_ [(167,.fa (JQ f))] ⟨Q' f,trivial⟩ func167 (S L (S L (S bG (J [(0,kJ),(1,er),(2,v2),(3,.hd),(9,v2),(1000000,.aV eX)] [] (S L (B (ar abj [] (S L (S ei (J abj [] (B (S L (S aw bG))) L)))))) b')))) (aqu f)
def acp:cK:=⟨⟨[(0,.val oL),(1,.hd),(1000000,.aV eX)],[]⟩,⟨[(1000000,.aV eX)],[]⟩,[],2,(HH (rO 10))⟩
theorem aw6:cR Tryz.prog dD 218 acp:=d_ (S:=(HH (rO 10))) Q_ [(167,.fa (JQ 10))] ⟨Q' 10,trivial⟩ func218 L (λx=>A.le_refl _)
def JR:zK:=⟨oL,eX,yB,IZ⟩
theorem aw7:C8 Tryz.prog 218 JR:=UK (c:=acp) aw6 mz (ic:=JR) (λx l L=>(x,l,(l,L,[],false),())) rfl (by decide) (by simp[JR])
 (λx l L i=>by
  by_cases aX:i=0
  ·subst aX;exact .inr (.inl ⟨by decide,rfl⟩)
  ·by_cases E:i=1
   ·subst E;exact .inr (.inr (.inl ⟨rfl,rfl⟩))
   ·by_cases U:i=b5
    ·subst U;exact .inr (.inr (.inr ⟨rfl,rfl⟩))
    ·refine .inl ?_;exact (if_neg aX).trans ((if_neg E).trans (if_neg U)))
 rfl (λbm=>⟨_,_,_,_,rfl⟩) (λx l an=>by
  obtain⟨s,aD,ae⟩:=an;subst aD;have h:=aqw s ae l;refine⟨h.1,λbm gi dH e6 n fl=>?_⟩;have e:aG.aV bm.1.1 eX bm.1.2.1 bm.1.2.2.1 bm.1.2.2.2=.aV dH eX e6 n false:=fl;injection e with aw aN cE ed dY
  exact ed.symm.trans ((h.2 bm gi).2.2 dY))
def aw8:=px Q_ mz [(218,.cr JR)] ⟨aw7,trivial⟩ func166 PY (S L (S L (S (S L (B (cg [(1,.aW 1 0),(3,.aW 3 0)] [(1,.cells oL [kJ]),(3,.cells eX [er])] [(1,.aW 100001 0),(3,.aW 100003 0),(15,er)] [(100001,.cells oL [kJ]),(100003,.cells eX [er])] [] [(100001,.cells oL [kJ]),(100003,.cells eX [er])] L (B aw)))) b'))) aqC
def aw9:=mk aw8 func94 P0 (S L kK) aqD
def Ra:=mk aw9 func41 I2 aN aqE
def aw_:cK:=k_ (ar.fw 0 ar.Qk)
theorem aw':cR Tryz.prog dD 137 aw_:=d_ Ra [] trivial func137 tl ar.arG
def acq:cK:=⟨⟨[(0,.val oL),(1,.hd),(1000000,.aV eX)],[]⟩,⟨[(1000000,.aV eX)],[]⟩,[],2,(HI (rO 10))⟩
theorem axa:cR Tryz.prog dD 95 acq:=d_ (S:=(HI (rO 10))) Ra [(167,.fa (JQ 10))] ⟨Q' 10,trivial⟩ func95 L (λx=>A.le_refl _)
def JS:zK:=⟨oL,eX,yB,PU⟩
theorem axb:C8 Tryz.prog 95 JS:=UK (c:=acq) axa mz (ic:=JS) (λx l L=>(x,l,(l,L,[],false),())) rfl (by decide) (by simp[JS])
 (λx l L i=>by
  by_cases aX:i=0
  ·subst aX;exact .inr (.inl ⟨by decide,rfl⟩)
  ·by_cases E:i=1
   ·subst E;exact .inr (.inr (.inl ⟨rfl,rfl⟩))
   ·by_cases U:i=b5
    ·subst U;exact .inr (.inr (.inr ⟨rfl,rfl⟩))
    ·refine .inl ?_;exact (if_neg aX).trans ((if_neg E).trans (if_neg U)))
 rfl (λbm=>⟨_,_,_,_,rfl⟩) (λx l an=>by
  obtain⟨s,aD,ae⟩:=an;subst aD;have h:=aqx s ae l;refine⟨h.1,λbm gi dH e6 n fl=>?_⟩;have e:aG.aV bm.1.1 eX bm.1.2.1 bm.1.2.2.1 bm.1.2.2.2=.aV dH eX e6 n false:=fl;injection e with aw aN cE ed dY
  exact ed.symm.trans ((h.2 bm gi).2.2 dY))
def axc:=mk Ra func97 PN (S L (J [] [] (S L (B (ar [(0,kJ),(9,pV),(10,v2),(11,v2)] [] (S L (S ei (J [(0,kJ),(9,pV),(10,v2),(11,v2)] [] (B (S L (S L (J [(0,kJ),(7,v4),(9,pV),(10,v2),(11,v2)] [] (S L (B (ar [(0,kJ),(6,.aW 6 0),(7,v4),(9,pV),(10,v2),(11,v2),(20,v2),(21,v2)] [(6,atB)] ed))) bG)))) L)))))) b')) aqb
def Rb:=px axc mz [(95,.cr JS)] ⟨axb,trivial⟩ func42 Bq (S L (S L (S bG (S L (S (S L (B (cg [(4,.aW 4 0),(6,.aW 6 0)] [(4,.cells oL [kJ]),(6,.cells t2 [v2])] [(4,.aW 100004 0),(6,.aW 100006 0),(21,er)] [(100004,.cells oL [kJ]),(100006,.cells t2 [v2])] [] [(100004,.cells oL [kJ]),(100006,.cells t2 [v2])] L (B (S L (S aw (S L aw))))))) (S bG b')))))) aqF
def axd:cK:=k_ (ar.fw 0 ar.Ql)
theorem axe:cR Tryz.prog dD 138 axd:=d_ Rb [] trivial func138 tl ar.arH
theorem axf:∀ k∈[119,120,121,122,123,124,125,126,127,128,129,130,131,132,133,134,135,136,137,138],cR Tryz.prog dD k {Q5 with sh:=ar.EZ k}:=E4.mem (l:=[119,120,121,122,123,124,125,126,127,128,129,130,131,132,133,134,135,136,137,138]) ⟨avE,avG,avI,av_,awd,awh,awn,aws,awv,awA,awE,awG,awI,awK,awM,awP,aw0,aw5,aw',axe,trivial⟩
def acr:cK:=⟨⟨[(0,.aW 100000 0),(1,.val Na),(2,.val t9)],[(100000,.fZ qp)]⟩,⟨[(0,.val t9)],[(100000,.fZ qp)]⟩,[none],3,ar.Jv⟩
theorem axg:cR Tryz.prog dD 59 acr:=d_ Rb [(999999,.Gf Q5 ar.EZ [119,120,121,122,123,124,125,126,127,128,129,130,131,132,133,134,135,136,137,138])] ⟨axf,trivial⟩ func59 (S L (S L (S L (S mb (S L (J [(0,.aW 100000 0),(8,.aW 8 0),(11,.own 48)] [(8,abb),(48,a2),(100000,E_)] (S L (B (ar [(0,.aW 100000 0),(8,.aW 8 0),(11,.own 48),(50,rX),(51,v2),(52,v2)] [(8,abb),(48,a2),(100000,E_)] (S L (S ei (S (B (S L (S L (S bG L)))) L)))))) b')))))) ar.ar2
def N2:=px Rb mz [(57,.fa ab0),(59,.fa acr)] ⟨avD,axg,trivial⟩ func20 ar.uW (S L (S mb (S bG (S L (J [(4,.own 4),(5,.aW 5 0),(8,.aW 50230 0)] abA (S L (B (ar [(4,.own 4),(5,.aW 5 0),(8,.aW 50230 0),(9,atC),(25,rX),(26,v2),(27,v2)] abA ed))) b'))))) ar.ar9
def axh:=mk N2 func183 Pq aN ao6
def axi:=mk axh func115 I8 aN aqP
def axj:=mk axi func54 ar.Jw aN ar.ar'
def DW:=mk axj func17 ar.E6 (S L qM) ar.atm
def axk:=mk DW func45 ar.JH (S L (S bG (S L (J [(3,v9)] [] (B (ar [(0,v2),(3,v9)] [] (S aw (B b')))) b')))) ar.atb
def DX:=mk axk func18 ar.E5 (S L (J [(0,v9)] [] (S L (B (ar [(0,v9),(1,er),(5,v2)] [] u1))) b')) ar.atd
def axl:=mk DX func116 vS (S L (S L (S L (S L (J BF [(2,.cells n1 [.cu,.cu,v2,.cu]),(3,.cells n1 [.own 8,.own 59,v2,.own 12]),(8,BD),(12,BB),(59,Fa)] (S L (B (ar QP abB (S aw (J QP abB (B (S L (J [(1,.aW 1 0),(2,.aW 2 0),(3,.aW 3 0),(4,v2),(5,.aW 5 0)] abz (S L (B (ar [(1,.aW 1 0),(2,.aW 2 0),(3,.aW 3 0),(4,v2),(5,.aW 5 0),(6,v2)] abz u1))) L))) L))))) b'))))) Og
def axm:=mk axl func55 I6 (S L (S L (S L (S L (S L (J [(1,.aW 1 0),(2,.aW 2 0),(3,.aW 3 0)] QR (S L (B (ar QP QR u1))) (J BF [(2,.cells t32 [.cu,.cu,v2,.cu,.cu,.cu,.cu,.cu,v2]),(3,.cells t32 [v22,pU,v2,qJ,.own 11,.own 16,.own 20,.own 24,v2]),(11,a2),(16,QJ),(20,QI),(24,wL)] (S L (B (ar [(1,.aW 1 0),(2,.aW 2 0),(3,.aW 3 0),(5,v2)] QR u1))) b'))))))) aqM
def axn:=mk axm func56 H.vS qM H.Og
def DY:=mk axn func19 ar.E8 aN ar.atp
def N3:=mk DY func21 ar.E7 (S L (J [(0,rX),(1,v2)] [] (S L (B (ar [(0,rX),(1,v2),(5,v2)] [] dY))) b')) ar.ato
def axo:=mk N3 func62 ar.uY (S L (S bG (J [] [] (S L (B (ar [(0,er),(1,er),(5,v2)] [] dY))) b'))) ar.asj
def axp:=mk axo func60 ar.JC (S L (S bG (J BF Fb (S L (B (ar [(2,.aW 2 0),(3,.aW 3 0),(5,v2)] Fb dY))) (J BF Fb (S L (B (ar [(2,.aW 2 0),(3,.aW 3 0),(6,v2)] Fb dY))) (J [] [] (S L (B (ar QQ Fb dY))) b'))))) ar.asl
def axq:=mk axp func61 ar.JD (S L (S bG (J BF yT (S L (B (ar [(2,.aW 2 0),(3,.aW 3 0),(5,v2)] yT dY))) (J BF yT (S L (B (ar [(2,.aW 2 0),(3,.aW 3 0),(6,v2)] yT dY))) (J [] [] (S L (B (ar QQ yT (S aw (J QQ yT (B (S L (S bG (S L (B (ar [(2,.aW 2 0),(3,.aW 3 0),(7,v2),(8,QM),(9,QM),(10,v2)] yT dY)))))) L))))) b'))))) ar.asm
def N4:=mk axq func22 ar.E1 (S L (S L (S bG (J [(5,.aW 5 0),(6,.aW 6 0)] Fc (S L (B (ar [(5,.aW 5 0),(6,.aW 6 0),(7,v2)] Fc wO))) (J [(5,.aW 5 0),(6,.aW 6 0)] Fc (S L (B (ar [(5,.aW 5 0),(6,.aW 6 0),(10,v2)] Fc wO))) (J [] [] (S L (B (ar [(5,.aW 5 0),(6,.aW 6 0),(13,v2)] Fc dY))) b')))))) ar.asn
theorem acI:h1 Tryz.prog 3 (.ay wQ tn) t4 (λx=>Pb ar.E3.sh ar.rV.sh Ba.sh ar.E6.sh ar.E5.sh ar.E8.sh ar.uW.sh ar.E7.sh ar.E1.sh uJ.sh s8.sh x):=HB N4 mz (sp:=[]) trivial func3 (ann:=(S L (S bG (S L (S L (J [(2,.aW 2 0),(3,.aW 3 0),(5,.aW 5 0),(6,.own 6)] [(2,yR),(3,aa5),(5,qK),(6,a9)] (S L (B (ar [(2,.aW 2 0),(3,.aW 3 0),(5,.aW 5 0),(6,.own 6),(7,v2)] [(2,yR),(3,aa5),(5,qK),(6,a9)] (S aw (S (B b') L))))) (S L (S L (S L (S bG (S L qM))))))))))) (λx=>A.le_refl _) (by kernel_rfl) λx=>by kernel_rfl
end
end Go.Fer.oe
namespace Go.Fer.oe
open Go Go.Proofs
theorem acF{H:Type}{enc:TypeId×Value->H}{a:Assume}{C:Checked}{os:Os}{f:FuncId}{fn:Func}{s:ChangeSpec}{conds:List PathCond}{apart Gd handsOn again:Bool}{X:World->Array Value->Prop}
  (zX:∀ (w w':World) (args:Array Value),w.heap=w'.heap->X w args->X w' args)
  (own:ownKnob C.prog.godebug=none) (started:os.Started) (axr:C.prog.inits.idxOf? f=none) (tp:C.prog.funcs[f]?=some fn)
  (witness:∃ (w:World) (tape:Tape) (i:Input),w.os=os/\(w.forCall tape i).Shaped C.prog/\i.vars=[]/\Input.okWide C.prog (w.forCall tape i) .any w.heap.size f i/\
   ((s.pre enc C.prog fn conds apart (w.forCall tape i).memory i.args/\X (w.forCall tape i).memory i.args)/\sizedMet enc C.prog fn (OpenSpec.ofChange s) apart (w.forCall tape i).memory i.args)/\a.holds C.prog (lone (Frame.enter C.prog f i.args .normal) [] (w.forCall tape i)))
  (axs:∀ (ar:World) (base:Nat) (args:Array Value) (bj gs:List (DataW H)) (before:List MemPlace),(∀ (j:Nat) t v,fn.params[j]?=some t->args[j]?=some v->Value.okWide C.prog ar .any base t v)->
   DataW.Whole enc C.prog fn.params.toList s.vars apart ar args.toList bj gs before->
   ar.ShapedOpen C.prog->X ar args->
   Calls C.prog f args ar λe ql=>∃ v,e=.returned v/\s.post enc C.prog fn apart Gd handsOn again ar args v ql) :
  ReturnsInHanded a C os f .any (λw args=>(s.pre enc C.prog fn conds apart w args/\X w args)/\sizedMet enc C.prog fn (OpenSpec.ofChange s) apart w args) (s.post enc C.prog fn apart Gd handsOn again):=by
 refine returnsInHanded_of_calls own started axr witness ?_;intro w tape i _ nE _ cL gM ayT;obtain⟨_,_,_,axt,axu,_,_,_,_,xW⟩:=cL;have e:axt=fn:=Option.some.inj (axu.symm.trans tp);subst e;obtain⟨⟨⟨bj,gs,before,hw,hc⟩,ah⟩,bk⟩:=gM;have CY:=DataW.Whole.of_heap (w':=w.forCall tape i) (by rfl) hw;refine (axs (w.forCall tape i) w.heap.size i.args bj gs before xW CY nE (zX (w.forCall tape i).memory (w.forCall tape i) i.args rfl ah)).mono λe ql ⟨v,he,an⟩=>?_;subst he;exact ChangeSpec.post_blind an
theorem JU{P:Program}{w:World}:∀ {l:List (String×DataW Unit)} {ps:List MemPlace},DataW.LaidVars P w l ps->∀ n d,(n,d)∈l->∃ g t cs cj p,P.globalNamed n=some g/\(P.globals[g]?).map (·.type)=some t/\w.var? P n=some cs/\DataW.trod (λ_=>()) P w 0 (λ_=>true) false cj t cs.toList=some (d,p)
 | [],_,_,_,_,hm=>by cases hm
 | (iY,u7)::r,ps,h,n,d,hm=>by
  obtain⟨g,t,cs,cj,p,q,E,U,ag,a1,bL,_⟩:=h;rcases List.mem_cons.1 hm with e | e
  ·cases e;exact⟨g,t,cs,cj,p,E,U,ag,a1⟩
  ·exact JU bL n d e
theorem acE{P:Program}{w:World}{n:String}{g:Nat}{t:TypeId}{d:DataW Unit}{cj:Nat}{cs:Array Value}{p:List MemPlace}(aB:P.globalNamed n=some g)(ae:w.var? P n=some cs)(hu:∃ ms,P.underlying t=some (.interface ms))
  (h:DataW.trod (λ_=>()) P w 0 (λ_=>true) false cj t cs.toList=some (d,p)):∃ v,w.cell? ⟨g,0,none⟩=some v/\(v=.nilIface\/∃ lI mc,v=.iface lI mc):=by
 obtain⟨ms,hu⟩:=hu;have hc:w.cell? ⟨g,0,none⟩=cs[0]?:=by
  unfold World.var? at ae;rw[aB]at ae;simp only[Option.bind_some]at ae;cases af:w.heap[g]? with
  | none=>rw[af]at ae;cases ae
  | some o=>
   rw[af]at ae;cases o with
   | cells a T sS=>cases ae;simp[World.cell?,af]
   | _=>cases ae
 have aH:cs[0]?=cs.toList[0]?:=by simp
 rw[hc,aH];generalize cs.toList=l at h;cases cj with
 | zero=>simp[DataW.trod]at h
 | succ cj=>
  match l with
  | []=>simp[DataW.trod,hu]at h
  | [.nilIface]=>exact⟨_,rfl,.inl rfl⟩
  | [.iface u v]=>exact⟨_,rfl,.inr ⟨u,v,rfl⟩⟩
  | _::_::_=>simp[DataW.trod,hu]at h
  | [x]=>cases x<;>first | exact⟨_,rfl,.inl rfl⟩ | exact⟨_,rfl,.inr ⟨_,_,rfl⟩⟩ | (simp[DataW.trod,hu]at h;done)
theorem axv:((List.range 8).all λb=>(((begin Tryz.prog (λ_ _=>0) default).world.heap[b]?).bind Obj.row?).isSome)=true:=by kernel_rfl
theorem acK{ar : World}(h : ar.ShapedOpen Tryz.prog)(E : ∃ v, ar.cell? ⟨1, 0, none⟩ = some v /\ (v = .nilIface \/ ∃ lI mc, v = .iface lI mc))(U : ∃ v, ar.cell? ⟨2, 0, none⟩ = some v /\ (v = .nilIface \/ ∃ lI mc, v = .iface lI mc))(aH : Lib.TabIs Tryz.prog ar "internal/strconv.uint64pow10" .u64 Lib.pow10Tab) : nG Tryz.prog (qn ar) ar := λb W => by
 have jg:b<8:=Nat.lt_of_lt_of_le W (of_decide_eq_true (by kernel_rfl));refine⟨?_,?_⟩
 ·have M:=List.all_eq_true.1 axv b (List.mem_range.2 jg);obtain⟨⟨zero,t⟩,bk⟩:=Option.isSome_iff_exists.1 M;obtain⟨cs,cV,_⟩:=h.1 b zero t W bk;exact (Array.getElem?_eq_some_iff.1 cV).1
 ·match b,W,jg with
  | 0,W,_=>exact cell_of_shapedOpen_int (t:=3) (zero:=#[.int .i64 0]) h W (by kernel_rfl) rfl (by kernel_rfl) (by kernel_rfl) Tryz.underlying3
  | 1,_,_=>exact E
  | 2,_,_=>exact U
  | 3,_,_=>trivial
  | 4,_,_=>trivial
  | 5,_,_=>
   show ∀ i,ar.cell? ⟨5,i,none⟩=if i<20 then some (.int .u64 (10 ^ i)) else none
   unfold Lib.TabIs World.var? at aH;rw[show Tryz.prog.globalNamed "internal/strconv.uint64pow10" = some 5 by kernel_rfl]at aH;change (match ar.heap[5]? with | some (.cells cs _ _)=>some cs | _=>none)=_ at aH;intro i;cases af:ar.heap[5]? with
   | none=>rw[af]at aH;cases aH
   | some o=>
    rw[af]at aH;cases o with
    | cells cs T sS=>
     simp only[Option.some.injEq]at aH;simp only[World.cell?,af,aH];simp only[Option.isSome_none,Bool.false_eq_true,if_false,List.getElem?_toArray,List.getElem?_map,Lib.pow10Tab];split
     ·rename_i By;rw[List.getElem?_range By];simp
     ·rename_i By;rw[List.getElem?_eq_none (by simp;omega)];rfl
    | _=>cases aH
  | 6,_,_=>trivial
  | 7,_,_=>trivial
end Go.Fer.oe
