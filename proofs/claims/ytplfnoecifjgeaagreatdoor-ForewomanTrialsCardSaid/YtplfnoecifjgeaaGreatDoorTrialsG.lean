/- Part 7 of the proof of Trials: shallow programs of Go functions, and what they compute. No condition. -/
import Derived.Test.YtplfnoecifjgeaaGreatDoorTrialsF
import Derived.Lib.AtoiAll
import Derived.Lib.ItoaLen
import Derived.Lib.Join
import Derived.Shelf.SlGeneric
import Derived.Shelf.Spec.SlicesGrow
import Derived.Shelf.Strings.OnBuilder
import Derived.Shelf.LaysM
import Derived.Shelf.Strconv.Itoa3
import Derived.Shelf.LaysC
import Derived.Shelf.Strconv.AtoiAll
import Derived.Shelf.Strings.Split
import Derived.Shelf.Slices.In.SortNone
import Derived.Test.YtplfnoecifjgeaaGreatDoorProg
import Derived.WalkKit
import Derived.WalkSpells
import Derived.Handy
import Derived.Shelf.Sort.AssemblyIn
import Derived.Sort.EveryDepth
import Derived.Handed
import Derived.Shelf.Vars
import Derived.Lib.LaidTab
import Derived.Lib.ItoaNum
noncomputable section
set_option linter.unusedVariables false
set_option linter.unusedSimpArgs false
namespace Go.Fer.H
open M (aa)
def IG(x:Int×Unit):M (z1'×Unit):=M.dv (0<=x.1/\x.1<60000) ([],())
def IH(x:Int×Unit):M (List aU×Unit):=M.dv (0<=x.1/\x.1<60000) ([],())
section
variable {aj gb:Type}
def II(g:Int×Unit->M (List aj×Unit))(x:List (List aj))(k:List aj->M gb):M gb:=
 M.bind (M.loop (λ(A:List (List aj)×Int×List (List aj)×Int×Int×Unit)=>if decide (A.2.2.2.2.1<A.2.2.2.1)=true then M.bind (M.ae (0<=A.2.2.2.2.1/\
 A.2.2.2.2.1<Int.ofNat (List.length A.2.2.1)) (if decide (IntKind.wrap .i64 (Add.add A.2.1 (Int.ofNat (List.length (List.getD A.2.2.1 (Int.toNat A.2.2.2.2.1) [])))) <
 0)=true then M.ae False (M.ae False (M.pure (aa.next (A.1,IntKind.wrap .i64 (Add.add A.2.1 (Int.ofNat (List.length (List.getD A.2.2.1 (Int.toNat A.2.2.2.2.1)
 [])))),A.2.2.1,A.2.2.2.1,A.2.2.2.2.1,())))) else M.pure (aa.next (A.1,IntKind.wrap .i64 (Add.add A.2.1 (Int.ofNat (List.length (List.getD A.2.2.1 (Int.toNat
 A.2.2.2.2.1) [])))),A.2.2.1,A.2.2.2.1,A.2.2.2.2.1,())))) (aa.bm λ(A:List (List aj)×Int×List (List aj)×Int×Int×Unit)=>M.pure (aa.next (A.1,A.2.1,A.2.2.1,A.2.2.2.1,IntKind.wrap .i64 (Add.add A.2.2.2.2.1 1),()))) else M.bind (M.pure (aa.next (A.1,A.2.1,()))) λr=>M.pure (aa.done r)) (x,0,x,Int.ofNat
 (List.length x),0,())) (aa.bm λ(A:List (List aj)×Int×Unit)=>M.bind (g (A.2.1,())) λy=>M.bind (M.loop (λ(A:List (List aj)×Int×Int×List aj×
 Unit)=>if decide (A.2.2.1<A.2.1)=true then M.ae (0<=A.2.2.1/\A.2.2.1<Int.ofNat (List.length A.1)) (M.ae (bT (Add.add (List.length A.2.2.2.1) (List.length
 (List.getD A.1 (Int.toNat A.2.2.1) [])))) (M.pure (aa.next (A.1,A.2.1,IntKind.wrap .i64 (Add.add A.2.2.1 1),A.2.2.2.1++List.getD A.1 (Int.toNat A.2.2.1) [],())))) else M.bind (M.pure (aa.next (A.2.2.2.1,()))) λr=>M.pure (aa.done r)) (A.1,Int.ofNat (List.length A.1),0,y.1,())) (aa.bm λ(A:List aj×Unit)
 =>k A.1))
theorem ZB:∀ (l:List (List aj)) (b:List aj),l.foldl (λb x=>b++x) b=b++l.flatten
 | [],b=>by simp
 | x::l,b=>by simp[ZB l]
theorem ZC(g:Int×Unit->M (List aj×Unit))(aA:∀ n,0<=n->n<60000->g (n,())=M.pure ([],()))(x:List (List aj))(k:List aj->M gb)(h1:x.length<=2)(h2:∀ l∈x,l.length<=40):II g x k=k x.flatten:=by
 unfold II;rw[M.fZ x (λi (n:Int)=>(x,n,x,(x.length:Int),(i:Int),())) (λl n=>.next (n+(l.length:Int))) (λn=>.next (x,n,())) (λi n=>0<=n/\n<=40*(i:Int)) 0 ?_ ?_ ?_ ?_]
 ·rw[dP,M.aE,M.bK];have hs:∀ (l:List (List aj)) (n:Int),0<=n->(∀ y∈l,y.length<=40)->0<=l.foldl (λn y=>n+(y.length:Int)) n/\l.foldl (λn y=>n+(y.length:Int)) n<=n+40*(l.length:Int):=by
   intro l;induction l with
   | nil=>simp
   | cons y l aH=>
    grind
  obtain⟨dt,eG⟩:=hs x 0 (Int.le_refl _) h2;rw[aA _ dt (by omega),M.aE];rw[M.fZ x (λi (b:List aj)=>(x,(x.length:Int),(i:Int),b,())) (λl b=>.next (b++l)) (λb=>.next (b,())) (λi b=>b.length<=40*i) [] ?_ ?_ ?_ ?_]
  ·rw[dP,M.aE,M.bK,ZB];rfl
  ·rfl
  ·simp
  ·intro i E b ab;have hw:=bn (n:=(i:Int)+1) (by omega) (by omega);have ai:=h2 _ (List.getElem_mem E);refine⟨?_,λaZ cS=>?_⟩
   ·simp only[bG,cC E,if_true,cV E,ct E,M.be,b2,hw];rw[M.bk (gp (by grind))];rfl
   grind
  simp
 ·rfl
 ·omega
 ·intro i E n az;have hw:=bn (n:=(i:Int)+1) (by omega) (by omega);have ai:=h2 _ (List.getElem_mem E);have gl:=bn (n:=n+(x[i].length:Int)) (by omega) (by omega);have au:decide (n+(x[i].length:Int)<0)=false:=by grind
  refine⟨?_,λaZ cS=>?_⟩
  ·simp only[bG,cC E,if_true,cV E,ct E,M.be,b2,hw,gl,au,Bool.false_eq_true,if_false,M.aE,M.bK];rfl
  grind
 simp
end
abbrev IJ:aJ:=⟨.slice (.slice gV),.slice gV,λx=>x.length<=2/\∀ l∈x,l.length<=40,λx=>x.flatten⟩
theorem aqs(x):M.le (Zz IH x) (IJ.sh x):=M.bg λh=>
 (show Zz IH x=II IH x M.pure from rfl).trans (ZC _ (λn a b=>M.bE ⟨a,b⟩ _) x _ h.1 h.2)
def IK(x:List (z1')×Unit):M (z1'×Unit):=M.dv (x.1.length<=2/\∀ l∈x.1,l.length<=40) (x.1.flatten,())
theorem aqt(x):M.le (ZA IG x) (IK x):=M.bg λh=>
 (show ZA IG x=II IG x.1 (λl=>M.pure (l,())) from rfl).trans (ZC _ (λn a b=>M.bE ⟨a,b⟩ _) x.1 _ h.1 h.2)
def nU(l:z1')(j:Nat):Bool:=decide (j=0)||decide (l.getD j 0≠l.getD (j - 1) 0)
def fa(l:z1')(p:Nat):z1':=((List.range p).filter (nU l)).map λj=>l.getD j 0
theorem Pz(l:z1')(p:Nat):fa l (p+1)=fa l p++if nU l p=true then [l.getD p 0] else []:=by
 unfold fa;rw[List.range_succ,List.filter_append,List.map_append];grind
theorem aqu(l:z1')(p:Nat):(fa l p).length<=p:=by
 unfold fa;grind
def Ep{R:Type}:Int×(Nat×Nat)×Int×z1'×Unit->M (aa (Int×(Nat×Nat)×Int×z1'×Unit) (aa (Int×z1'×Unit) R)):=
 (λ(A:Int×(Nat×Nat)×Int×z1'×Unit)=>if decide (A.2.2.1<Int.ofNat (A.2.1.2 - A.2.1.1))=true then M.bind (M.ae (0<=A.2.2.1/\A.2.2.1<Int.ofNat
 (A.2.1.2 - A.2.1.1)) (M.ae (0<=IntKind.wrap .i64 (A.2.2.1 - 1)/\IntKind.wrap .i64 (A.2.2.1 - 1)<Int.ofNat (A.2.1.2 - A.2.1.1)) (if decide (List.getD A.2.2.2.1
 (Add.add A.2.1.1 (Int.toNat A.2.2.1)) 0≠List.getD A.2.2.2.1 (Add.add A.2.1.1 (Int.toNat (IntKind.wrap .i64 (A.2.2.1 - 1)))) 0)=true then M.ae (0<=A.2.2.1/\A.2.2.1
 < Int.ofNat (A.2.1.2 - A.2.1.1)) (M.ae (0<=A.1/\A.1<Int.ofNat (List.length A.2.2.2.1)) (M.pure (aa.next (IntKind.wrap .i64 (Add.add A.1 1),A.2.1,A.2.2.1,List.set A.2.2.2.1 (Int.toNat A.1) (List.getD A.2.2.2.1 (Add.add A.2.1.1 (Int.toNat A.2.2.1)) 0),())))) else M.pure (aa.next (A.1,A.2.1,A.2.2.1,A.2.2.2.1,())))))
 (aa.bm λ(A:Int×(Nat×Nat)×Int×z1'×Unit)=>M.pure (aa.next (A.1,A.2.1,IntKind.wrap .i64 (Add.add A.2.2.1 1),A.2.2.2.1,()))) else M.bind
 (M.pure (aa.next (A.1,A.2.2.2.1,()))) λr=>M.pure (aa.done r))
def wa:Int×z1'×Unit->M (aa (Int×z1'×Unit) (aa (z1'×Unit) ((Nat×Nat)×z1'×Unit))):=
 (λ(A:Int×z1'×Unit)=>if decide (A.1<Int.ofNat (List.length A.2.1))=true then M.bind (M.ae (0<=A.1/\A.1<Int.ofNat (List.length A.2.1)) (M.ae (0<=
 IntKind.wrap .i64 (A.1 - 1)/\IntKind.wrap .i64 (A.1 - 1)<Int.ofNat (List.length A.2.1)) (if decide (List.getD A.2.1 (Int.toNat A.1) 0=List.getD A.2.1 (Int.toNat
 (IntKind.wrap .i64 (A.1 - 1))) 0)=true then M.ae (0<=A.1/\A.1<=Int.ofNat (List.length A.2.1)/\Int.ofNat (List.length A.2.1)<=Int.ofNat (List.length A.2.1))
 (M.bind (M.loop Ep (A.1,(Int.toNat A.1,Int.toNat (Int.ofNat (List.length A.2.1))),1,A.2.1,())) (aa.bm λ(A:Int×z1'×Unit)=>M.ae (0<=A.1/\A.1<=
 Int.ofNat (List.length A.2.1)/\Int.ofNat (List.length A.2.1)<=Int.ofNat (List.length A.2.1)) (M.ae True (M.ae ((0:Int)<=0/\0<=A.1/\A.1<=Int.ofNat (List.length
 (List.take (Int.toNat A.1) A.2.1++List.replicate (Int.toNat (Int.ofNat (List.length A.2.1)) - Int.toNat A.1) 0++List.drop (Add.add (Int.toNat A.1) (List.length
 (List.replicate (Int.toNat (Int.ofNat (List.length A.2.1)) - Int.toNat A.1) (0:Int)))) A.2.1))) (M.bind (M.bind (M.bind (M.pure ((Int.toNat 0,Int.toNat A.1),List.take
 (Int.toNat A.1) A.2.1++List.replicate (Int.toNat (Int.ofNat (List.length A.2.1)) - Int.toNat A.1) 0++List.drop (Add.add (Int.toNat A.1) (List.length (List.replicate
 (Int.toNat (Int.ofNat (List.length A.2.1)) - Int.toNat A.1) (0:Int)))) A.2.1,())) λr=>M.pure (aa.done r)) λr=>M.pure (aa.done r)) λr=>M.pure (aa.done
 r)))))) else M.pure (aa.next (A.1,A.2.1,()))))) (aa.bm λ(A:Int×z1'×Unit)=>M.pure (aa.next (IntKind.wrap .i64 (Add.add A.1 1),A.2.1,()))) else
 M.bind (M.pure (aa.next (A.2.1,()))) λr=>M.pure (aa.done r))
structure yn(l:z1')(p:Nat)(m:z1'):Prop where
 len:m.length=l.length
 BX:m.take (fa l p).length=fa l p
 lt:(fa l p).length<p
 b5:∀ j,p<=j+1->m.getD j 0=l.getD j 0
theorem aqv{aj:Type}{l:List aj}{i j:Nat}{v d:aj}(h:i<l.length):(l.set i v).getD j d=if j=i then v else l.getD j d:=by
 grind
theorem yn.step{l m:z1'}{p:Nat}(h:yn l p m)(hp:p<l.length):yn l (p+1) (if nU l p=true then m.set (fa l p).length (l.getD p 0) else m):=by
 have h1:=h.lt;have h2:=h.len;have hc:=Pz l p;by_cases ao:nU l p=true
 ·rw[if_pos ao]at hc ⊢;refine⟨by grind,?_,?_,λj aC=>?_⟩
  ·rw[hc,List.length_append,List.length_singleton];have aG:=h.BX;generalize fa l p=c at aG h1;apply List.ext_getElem?;intro j;rw[List.getElem?_take,List.getElem?_append,List.getElem?_set];grind
  ·grind
  ·rw[aqv (by omega),if_neg (by omega)];exact h.b5 j (by omega)
 ·rw[if_neg ao,List.append_nil]at hc;rw[if_neg ao];refine⟨h2,by rw[hc];exact h.BX,by grind,λj aC=>h.b5 j (by omega)⟩
theorem aqw{R:Type}{l m:z1'}{k p:Nat}(ai:l.length<60000)(ao:k<p)(mF:0<k)(h:yn l p m)(hp:p<l.length) :
  Ep (R:=R) (((fa l p).length:Nat),(k,l.length),((p - k:Nat):Int),m,())=M.pure (.next (((fa l (p+1)).length:Nat),(k,l.length),((p+1 - k:Nat):Int),(if nU l p=true then m.set (fa l p).length (l.getD p 0) else m),())):=by
 have h1:=h.lt;have h2:=h.len;have hc:=Pz l p;have b6:=bn (n:=((p - k:Nat):Int) - 1) (by omega) (by omega);have cI:IntKind.wrap .i64 (((p - k:Nat):Int)+1)=((p+1 - k:Nat):Int):=(bn (by omega) (by omega)).trans (by omega);have eD:=bn (n:=(((fa l p).length:Nat):Int)+1) (by omega) (by omega);have d1:decide (((p - k:Nat):Int)<((l.length - k:Nat):Int))=true:=by grind
 have bR:(0:Int)<=((p - k:Nat):Int)/\((p - k:Nat):Int)<((l.length - k:Nat):Int):=by omega
 have cp:(0:Int)<=((p - k:Nat):Int) - 1/\((p - k:Nat):Int) - 1<((l.length - k:Nat):Int):=by omega
 have dX:(0:Int)<=(((fa l p).length:Nat):Int)/\(((fa l p).length:Nat):Int)<(m.length:Int):=by omega
 have e1:k+(((p - k:Nat):Int)).toNat=p:=by omega
 have e2:k+(((p - k:Nat):Int) - 1).toNat=p - 1:=by omega
 have g1:=h.b5 p (by omega);have dW:=h.b5 (p - 1) (by omega);have zb:nU l p=decide (l.getD p 0≠l.getD (p - 1) 0):=by
  unfold nU;grind
 unfold Ep;simp only[bG,d1,if_true,b6,bR,cp,and_self,M.be,b2,hX,e1,e2,g1,dW,<-zb];by_cases IL:nU l p=true
 ·rw[if_pos IL]at hc;simp only[IL,if_true,dX,and_self,M.be,M.aE,M.bK,cI,eD,Int.toNat_natCast,decide_true];rw[hc];simp
 ·rw[if_neg IL,List.append_nil]at hc;simp only[IL,if_false,M.aE,M.bK,cI,Bool.false_eq_true,decide_true,if_true];rw[hc]
theorem aqx{R:Type}{l:z1'}{k:Nat}(ai:l.length<60000)(mF:0<k):∀ (n p:Nat) (m:z1'),l.length - p=n->p<=l.length->k<p->yn l p m->
  ∃ da,yn l l.length da/\M.loop (Ep (R:=R)) (((fa l p).length:Nat),(k,l.length),((p - k:Nat):Int),m,())=M.pure (.next (((fa l l.length).length:Nat),da,())):=by
 intro n;induction n with
 | zero=>
  intro p m az hp ao h;have:p=l.length:=by omega
  subst this;refine⟨m,h,M.rF ?_⟩;unfold Ep;simp
 | succ n aH=>
  intro p m az hp ao h;have hp:p<l.length:=by omega
  obtain⟨da,h1,h2⟩:=aH (p+1) _ (by omega) hp (by omega) (h.step hp);exact⟨da,h1,(M.yJ (aqw ai ao mF h hp)).trans h2⟩
def wb(l:z1'):(Nat×Nat)×z1'×Unit:=((0,(fa l l.length).length),fa l l.length++List.replicate (l.length - (fa l l.length).length) 0,())
theorem aqy{l:z1'}(ai:l.length<60000):∀ (n p:Nat),l.length - p=n->p<=l.length->0<p->fa l p=l.take p->
  M.bind (M.loop wa ((p:Int),l,())) (aa.bm λ(A:z1'×Unit)=>M.pure ((0,List.length A.1),A.1,()))=M.pure (wb l):=by
 intro n;induction n with
 | zero=>
  intro p az hp h0 hc;have:p=l.length:=by omega
  subst this;rw[List.take_length]at hc;have ab:wa ((l.length:Int),l,())=M.pure (.done (.next (l,()))):=by
   unfold wa;simp
  rw[M.rF ab,M.aE,M.bK];unfold wb;simp_all
 | succ n aH=>
  intro p az hp h0 hc;have hp:p<l.length:=by omega
  have b6:=bn (n:=(p:Int) - 1) (by omega) (by omega);have cI:=bn (n:=(p:Int)+1) (by omega) (by omega);have cp:(0:Int)<=(p:Int) - 1/\(p:Int) - 1<(l.length:Int):=by omega
  have e1:((p:Int) - 1).toNat=p - 1:=by omega
  have zb:nU l p=decide (l.getD p 0≠l.getD (p - 1) 0):=by
   unfold nU;rw[show decide (p=0)=false by grind,Bool.false_or]
  have oR:=Pz l p;have Y3:(l.take p).length=p:=by grind
  by_cases ao:nU l p=true
  ·have ea:¬l.getD p 0=l.getD (p - 1) 0:=by grind
   have ab:wa ((p:Int),l,())=M.pure (.next (((p+1:Nat):Int),l,())):=by
    unfold wa;simp_all
   rw[M.yJ ab];refine aH (p+1) (by omega) hp (by omega) ?_;simp_all
  ·have heq:l.getD p 0=l.getD (p - 1) 0:=by grind
   rw[if_neg ao,List.append_nil]at oR;have d_:yn l (p+1) l:=⟨rfl,by grind,by grind,λ_ _=>rfl⟩
   obtain⟨da,h1,h2⟩:=aqx (R:=aa (Int×z1'×Unit) (aa (Int×z1'×Unit) (aa (z1'×Unit) ((Nat×Nat)×z1'×Unit)))) ai h0 (l.length - (p+1)) (p+1) l rfl hp (by omega) d_;rw[show (fa l (p+1)).length=p by grind,show p+1 - p=1 from by omega]at h2;have lv:=aqu l l.length;have amQ:=h1.len;have kB:=h1.BX;have dX:(0:Int)<=((fa l l.length).length:Int)/\((fa l l.length).length:Int)<=(da.length:Int):=by omega
   have i':List.take (fa l l.length).length da++List.replicate (da.length - (fa l l.length).length) 0++List.drop ((fa l l.length).length+(List.replicate (da.length - (fa l l.length).length) (0:Int)).length) da=fa l l.length++List.replicate (l.length - (fa l l.length).length) 0:=by
    simp_all
   have ab:wa ((p:Int),l,())=M.pure (.done (.done (wb l))):=by
    unfold wa;simp only[bG,cC hp,if_true,ct hp,M.be,b6,cp,and_self,e1,Int.toNat_natCast,heq,decide_true];rw[M.bk (by omega)];erw [h2];simp only[M.aE,M.bK,bG,Int.toNat_natCast,hX,i',M.be];rw[M.bk ⟨dX.1,dX.2,Int.le_refl _⟩,M.bk ⟨Int.le_refl _,dX.1,by grind⟩];simp only[M.aE,M.pb,i'];rfl
   rw[M.rF ab,M.aE,M.pb]
def IM(x:z1'×Unit):M ((Nat×Nat)×z1'×Unit):=M.dv (x.1.length<60000) (wb x.1)
theorem aqz(x):M.le (aqr x) (IM x):=M.bg λh=>by
 obtain⟨l,u⟩:=x;change l.length<60000 at h;show (if decide (Int.ofNat l.length<2)=true then M.pure ((0,l.length),l,()) else M.bind (M.loop wa (1,l,())) (aa.bm λ(A:z1'×Unit)=>M.pure ((0,List.length A.1),A.1,())))=M.pure (wb l);have ny:∀ l:z1',l.length<2->fa l l.length=l:=λl ai=>by
  match l,ai with
  | [],_=>rfl
  | [a],_=>rfl
 by_cases h2:l.length<2
 ·have au:decide (Int.ofNat l.length<2)=true:=by grind
  rw[if_pos au];unfold wb;simp_all
 ·have au:¬decide (Int.ofNat l.length<2)=true:=by grind
  rw[if_neg au];refine aqy h (l.length - 1) 1 rfl (by omega) (by omega) ?_;match l,h2 with
  | a::l,_=>rfl
  | [],h2=>grind
end Go.Fer.H
namespace Go.Fer.H
open M (aa)
theorem aqA{l:z1'}:∀ j,j<l.length->l.getD j 0∈fa l l.length:=by
 intro j;induction j with
 | zero=>
  intro h;unfold fa;exact List.mem_map.2 ⟨0,List.mem_filter.2 ⟨by grind,by rfl⟩,rfl⟩
 | succ j aH=>
  intro h;by_cases ao:nU l (j+1)=true
  ·unfold fa;grind
  ·have:l.getD (j+1) 0=l.getD j 0:=by
    unfold nU at ao;grind
   grind
theorem aqB{l:z1'}{x:Int}:x∈fa l l.length<->x∈l:=by
 constructor
 ·intro h;unfold fa at h;grind
 ·intro h;obtain⟨j,aC,rfl⟩:=List.mem_iff_getElem.1 h;rw[<-sA (d:=0) aC];exact aqA j aC
theorem aqC{l:z1'}(h:l.Pairwise (·<=·)):(fa l l.length).Pairwise (·<·):=by
 unfold fa;rw[List.pairwise_map];have G:((List.range l.length).filter (nU l)).Pairwise (·<·):=List.Pairwise.filter _ List.pairwise_lt_range;refine List.Pairwise.imp_of_mem ?_ G;intro i j E aC zg;obtain⟨aqD,iO⟩:=List.mem_filter.1 aC;have aqD:j<l.length:=by grind
 have ea:l.getD j 0≠l.getD (j - 1) 0:=by
  unfold nU at iO;grind
 have hs:=List.pairwise_iff_getElem.1 h;grind
def ry(a b:z1'):z1':=(dJ 0 99).filter λid=>a.contains id||b.contains id
theorem ZD(a b:Int):(dJ a b).Pairwise (·<·):=by
 unfold dJ;rw[List.pairwise_map];exact (List.pairwise_lt_range).imp λh=>by omega
theorem aqE{a b:z1'}(aV:a.Pairwise (·<·))(ab:b.Pairwise (·<·))(h:∀ x,x∈a<->x∈b):a=b:=by
 have aqF:a.Nodup:=aV.imp λh=>by omega
 have ma:b.Nodup:=ab.imp λh=>by omega
 have hp:=(List.perm_ext_iff_of_nodup aqF ma).2 h;rw[<-Ah (aV.imp λh=>by omega) (List.Perm.refl a)];exact Ah (ab.imp λh=>by omega) hp
theorem aqG{a b:z1'}(aV:∀ x∈a,bM x 0 99=true)(ab:∀ x∈b,bM x 0 99=true):fa (e_ gX (a++b)) (e_ gX (a++b)).length=ry a b:=by
 refine aqE (aqC (NZ _)) (List.Pairwise.filter _ (ZD 0 99)) λx=>?_;rw[aqB,WG];unfold ry;simp only[List.mem_append,List.mem_filter,sn,Bool.or_eq_true,List.contains_iff_mem];refine⟨λh=>⟨?_,h⟩,λh=>h.2⟩;rcases h with h | h
 ·exact oA.1 (aV x h)
 ·exact oA.1 (ab x h)
abbrev IN:aQ:=([],[],[],[],0,0,0,0,0,0,0)
def m'(c:aQ)(more:List aU)(gL:z1'):aQ:=(c.1,more,gL,c.2.2.2)
def nV(c:aQ)(more:List aU)(gL:z1'):aQ×Int:=
 if cu c≠0 then (IN,cu c) else if cu (m' c more gL)≠0 then (IN,cu (m' c more gL)) else
 if kL (c.2.1++more)=true then (IN,91) else
 if (decide (Int.ofNat (gG (c.2.1++more)).length > 12)||decide (Int.ofNat (ry c.2.2.1 gL).length > 12))=true then (IN,90) else (m' c (gG (c.2.1++more)) (ry c.2.2.1 gL),0)
abbrev A9:aJ:=⟨.aw ji (.aw (.slice gV) fm),.aw ji tI,λx=>iF x.1/\x.2.1.length<2 ^ 63/\x.2.2.length<2 ^ 63,λx=>nV x.1 x.2.1 x.2.2⟩
abbrev Er:aJ:=⟨.slice mi,.slice mi,λx=>x.length<65536,λx=>x⟩
theorem aqH(x):M.le (V_ x) (Er.sh x):=M.sj λh=>by
 unfold V_;rw[M.fJ];refine⟨⟨false,by simp⟩,λb ab=>?_⟩;change b=true->x=[]at ab;cases b with
 | true=>rw[ab rfl];exact M.dF.2 rfl
 | false=>
  simp only[Bool.false_eq_true,if_false];exact M.kv.2 ⟨gp (by grind),M.dF.2 (by simp)⟩
structure ZE(c:aQ):Prop where
 dH:c.1.length<=3
 dM:c.2.1.length<=12
 jv:c.2.2.1.length<=12
 n4:c.2.2.2.1.length<=4
 ids:∀ s∈c.2.1,bM s.1 0 99=true
 gL:∀ n∈c.2.2.1,bM n 0 99=true
 cl:kL c.2.1=false
theorem IP{c:aQ}(h:cu c=0):ZE c:=by
 unfold cu at h;by_cases hc:jH c=true
 ·rw[if_pos hc]at h;have lv:kL c.2.1=false:=by
   grind
  have E:=Hx hc;unfold jH sz at hc;simp only[Bool.and_eq_true,List.all_eq_true,Bool.not_eq_true',Bool.or_eq_false_iff,decide_eq_false_iff_not]at hc;obtain⟨⟨⟨⟨⟨bb,_⟩,_⟩,h2⟩,h3⟩,_⟩:=hc;exact⟨by omega,by omega,by omega,by omega,E.2,h3,lv⟩
 grind
theorem aqI{a b:List aU}(aV:a.length<=12)(ab:b.length<=12)(h1:∀ s∈a,bM s.1 0 99=true)(h2:∀ s∈b,bM s.1 0 99=true):vD (a++b):=
 ⟨by grind,λs hs=>(List.mem_append.1 hs).elim (h1 s) (h2 s)⟩
theorem aqJ(x):M.le (Zy gY.sh Aq.sh IJ.sh IK xV IM Er.sh x) (A9.sh x):=M.bg λh=>by
 obtain⟨c,more,gL⟩:=x;obtain⟨h1,h2,h3⟩:=h;change iF c at h1;change more.length<2 ^ 63 at h2;change gL.length<2 ^ 63 at h3;have tC:iF (m' c more gL):=⟨h1.1,h2,h3,h1.2.2.2⟩
 unfold Zy;show _=M.pure (nV c more gL);unfold nV;rw[show gY.sh (c,more,gL).1=M.pure (cu c) from M.bE h1 _,M.aE];by_cases e1:cu c=0
 ·have g1:=IP e1;rw[show gY.sh ((c,more,gL).1.1,(c,more,gL).2.1,(c,more,gL).2.2,(c,more,gL).1.2.2.2)=M.pure (cu (m' c more gL)) from M.bE tC _,M.aE];by_cases e2:cu (m' c more gL)=0
  ·have dW:=IP e2;have dM:more.length<=12:=dW.dM;have jv:gL.length<=12:=dW.jv;have pS:=g1.dM;have l5:=g1.jv;have E:vD (c.2.1++more):=aqI g1.dM dW.dM g1.ids dW.ids;rw[if_neg (by grind),if_neg (by grind),if_neg (by omega),if_neg (by omega)];rw[show IJ.sh [(c,more,gL).1.2.1,(c,more,gL).2.1]=M.pure (c.2.1++more) from (M.bE ⟨by simp,by grind⟩ _).trans (congrArg M.pure (by simp)),M.aE];rw[show Aq.sh (c.2.1++more)=M.pure (if kL (c.2.1++more)=true then ([],false) else (gG (c.2.1++more),true)) from M.bE E _,M.aE];cases hc:kL (c.2.1++more) with
   | true=>simp
   | false=>
    simp only[Bool.false_eq_true,if_false,Bool.not_true];rw[show IK ([c.2.2.1,gL],())=M.pure (c.2.2.1++gL,()) from (M.bE ⟨by simp,by grind⟩ _).trans (congrArg M.pure (by simp)),M.aE];rw[show xV ((c.2.2.1++gL,()):z1'×Unit)=M.pure (e_ gX (c.2.2.1++gL),()) from M.bE (by grind) _,M.aE];rw[show IM ((e_ gX (c.2.2.1++gL),()):z1'×Unit)=M.pure (wb (e_ gX (c.2.2.1++gL))) from M.bE (by show (e_ gX (c.2.2.1++gL)).length<_;rw[Hq];grind) _,M.aE];have hZ:=aqG g1.gL dW.gL;unfold wb;rw[show (fa (e_ gX (c.2.2.1++gL)) (e_ gX (c.2.2.1++gL)).length)=ry c.2.2.1 gL from hZ];simp only[Nat.sub_zero,List.drop_zero,List.take_left];rw[show Er.sh c.1=M.pure c.1 from M.bE (by have:=g1.dH;omega) _,show Er.sh c.2.2.2.1=M.pure c.2.2.2.1 from M.bE (by have:=g1.n4;omega) _];simp only[M.iG,M.fi,M.be];split<;>rfl
  grind
 grind
end Go.Fer.H
namespace Go.Fer.W
open M (aa)
abbrev sT:af:=.slice .str
abbrev wc:af:=.st (.aw lR H.ji)
def cj:aL->List aL
 | []=>[[]]
 | c::s=>if c=32 then []::cj s else match cj s with
  | []=>[[c]]
  | w::l=>(c::w)::l
theorem uC:∀ (s:aL),1<=(cj s).length/\(cj s).length<=s.length+1
 | []=>by simp[cj]
 | c::s=>by
  have:=uC s;unfold cj;grind
theorem ZF:∀ (s:aL) {w:aL},w∈cj s->w.length<=s.length
 | [],w,h=>by simp[cj]at h;simp[h]
 | c::s,w,h=>by
  have aH:=@ZF s;unfold cj at h;grind
def fM:aL->Int->Int
 | [],n=>n
 | c::s,n=>if (decide ((c.toNat:Int)<48)||decide ((c.toNat:Int) > 57))=true then -1 else fM s (10*n+((c.toNat:Int) - 48))
def eF(s:aL):Int:=if (decide (s.length=0)||decide (s.length > 6)||decide (s.length > 1)&&decide ((s.getD 0 0).toNat=48))=true then -1 else fM s 0
theorem PA:∀ (s:aL) (n:Int) (k:Nat),0<=n->n<10 ^ k->fM s n<10 ^ (k+s.length)/\-1<=fM s n
 | [],n,k,h0,h1=>by simp[fM];omega
 | c::s,n,k,h0,h1=>by
  unfold fM;have hp:(0:Int)<10 ^ (k+(c::s).length):=Int.pow_pos (by decide);split
  ·omega
  ·rename_i hc;simp only[Bool.or_eq_true,decide_eq_true_eq,not_or]at hc;have:=PA s (10*n+((c.toNat:Int) - 48)) (k+1) (by omega) (by omega);grind
theorem aqK(s:aL):-1<=eF s/\eF s<=999999:=by
 unfold eF;split
 ·omega
 ·rename_i h;simp only[Bool.or_eq_true,decide_eq_true_eq,not_or]at h;have:=PA s 0 0 (by decide) (by decide);have h2:(10:Int) ^ (0+s.length)<=10 ^ 6:=by
   have:=Nat.pow_le_pow_right (n:=10) (by decide) (show 0+s.length<=6 by omega);grind
  omega
def sU(s:aL):Int:=match Go.Lib.atoiAll s with
 | .ok v=>v
 | .range=>Go.Lib.atoiSat s
 | _=>0
def qV(s:aL):Int×Bool:=(sU s,decide (0<=eF s))
def Es(l:List aL):Option (z1'):=if l.all (λw=>decide (0<=eF w))=true then some (l.map eF) else none
def rz(n:Int):aL:=Go.Lib.itoa (IntKind.wrap .i64 n)
theorem PB(n:Int):(rz n).length<=21:=by
 have:=pP .i64 n;exact Go.Lib.itoa_length_le _ this.1 this.2
abbrev qq:aL:=[111,107]
abbrev yo:aL:=[110,111]
abbrev ZG:aL:=[110,111,110,101]
abbrev PC:aL:=[115,104,111,112]
abbrev ZH:aL:=[108,105,97,114]
abbrev aqL:aL:=[63]
def rA(l:z1'):aL:=if l=[] then ZG else Go.Lib.join (l.map rz) [32]
def qt(e:Int)(l:z1'):aL:=if e=0 then rA l else if e=3 then ZG else yo
def yp(x:(Int×Int)×Int):aL:=qt x.2 [x.1.1,x.1.2]
abbrev ba(l:z1')(i:Nat):Int:=l.getD i 0
def nW(d:aX)(m:List H.aU)(v:z1'):aL×aX:=if (H.nV d.2 m v).2≠0 then (yo,d) else (qq,(d.1,(H.nV d.2 m v).1))
def kR(d:aX)(s:br):aL×aX:=if iW s≠0 then (yo,d) else (qq,(s,d.2))
def PD(d:aX)(l:z1'):aL×aX:=nW d [(ba l 0,ba l 1,ba l 2,1,ba l 3,ba l 4)] []
def PE(d:aX)(l:z1'):aL×aX:=nW d [(ba l 0,ba l 1,ba l 2,2,ba l 3,0)] []
def PF(d:aX)(l:z1'):aL×aX:=nW d [] l
def PG(d:aX)(l:z1'):aL×aX:=(yp (H.HE d.2 (ba l 0)),d)
def PH(d:aX)(l:z1'):aL×aX:=(yp (H.HG d.2 (ba l 0)),d)
def PI(d:aX)(l:z1'):aL×aX:=(yp (H.HI d.2 (ba l 0)),d)
def PJ(d:aX)(l:z1'):aL×aX:=(yp (H.HK d.2 (ba l 0)),d)
def PK(r:z1'×Int):aL:=if (decide (r.2≠0)||decide (r.1.getD 0 0>=0))=true then qt r.2 r.1 else if r.1.length=1 then PC else PC++[32]++rA (r.1.drop 1)
def PL(d:aX)(l:z1'):aL×aX:=(PK (H.ri d.2 (ba l 0) (ba l 1)),d)
def PM(r:z1'×z1'×Int):aL:=if r.2.2≠0 then qt r.2.2 [] else rA r.1++[32,47,32]++rA r.2.1
def PN(d:aX)(l:z1'):aL×aX:=(PM (H.sD d.2 (ba l 0)),d)
def lV(w:a7)(t:Int×Int×Int×Int):a7:=(w.1,w.2.1,w.2.2.1,w.2.2.2++[t])
def na(d:aX)(l:z1'):aL×aX:=
 if cu (lV d.1.1 (ba l 0,ba l 1,ba l 2,ba l 3))≠0 then (yo,d) else if (sN (lV d.1.1 (ba l 0,ba l 1,ba l 2,ba l 3)) (ba l 0)).2≠0 then (ZH,d)
 else (qq,((lV d.1.1 (ba l 0,ba l 1,ba l 2,ba l 3),d.1.2),d.2))
def ux(r:Int×Int):aL:=if r.2≠0 then qt r.2 [] else List.getD [[],[115,117,114,101,108,121],[110,101,118,101,114],[112,101,114,104,97,112,115]] r.1.toNat []
def PO(d:aX)(l:z1'):aL×aX:=(ux (qo d.1.1 (ba l 0) (ba l 1) (ba l 2)),d)
def uD(d:aX)(l:z1'):aL×aX:=if ba l 0>=(d.1.2.1.length:Int) then (yo,d) else kR d (d.1.1,d.1.2.1.set (ba l 0).toNat (d.1.2.1.getD (ba l 0).toNat 0+ba l 1),d.1.2.2)
def PQ(d:aX)(l:z1'):aL×aX:=kR d (d.1.1,d.1.2.1,d.1.2.2.1,d.1.2.2.2.1,d.1.2.2.2.2.1++[(ba l 0,ba l 1,ba l 2)],d.1.2.2.2.2.2)
def PR(d:aX)(l:z1'):aL×aX:=kR d (d.1.1,d.1.2.1,d.1.2.2.1++[(ba l 0,ba l 1,ba l 2,ba l 3,l.drop 4)],d.1.2.2.2)
def PS(d:aX)(l:z1'):aL×aX:=kR d (d.1.1,d.1.2.1,d.1.2.2.1,d.1.2.2.2.1++[(l.drop 5,(ba l 0,ba l 1),ba l 2,ba l 3,ba l 4)],d.1.2.2.2.2)
def uE(d:aX)(l:z1'):aL×aX:=if ba l 0>=(d.1.2.2.2.1.length:Int) then (yo,d) else (qq,((d.1.1,d.1.2.1,d.1.2.2.1,d.1.2.2.2.1.eraseIdx (ba l 0).toNat,d.1.2.2.2.2),d.2))
def PT(d:aX)(l:z1'):aL×aX:=(qt (uA d.1 (ba l 0)).2 (uA d.1 (ba l 0)).1,d)
def PU(d:aX)(l:z1'):aL×aX:=(qt (A7 d.1 (l.map (· - 1))).2 [(A7 d.1 (l.map (· - 1))).1],d)
def PV(d:aX)(_:z1'):aL×aX:=(qt (ym d.1 true).2 [(ym d.1 true).1],d)
def PW(d:aX)(_:z1'):aL×aX:=(qt (A6 d.1).2 [(A6 d.1).1],d)
def qu:Nat->aX->z1'->aL×aX
 | 0=>PD | 1=>PE | 2=>PF | 3=>PG | 4=>PH | 5=>PI | 6=>PJ | 7=>PL | 8=>PN | 9=>na
 | 10=>PO | 11=>uD | 12=>PQ | 13=>PR | 14=>PS | 15=>uE | 16=>PT | 17=>PU | 18=>PV | _=>PW
def kt:List (aL×Int×Bool):=[([108,101,110,100],5,false),([98,97,99,107],4,false),([118,111,105,100],1,false),([108,97,115,116,115],1,false),([102,101,101],1,false),([111,119,101,115],1,false),([104,101,108,100],1,false),([119,104,101,114,101],2,false),([109,105,115,115,105,110,103],1,false),([116,114,105,97,108],4,false),([102,105,116,115],3,false),([115,116,111,99,107],2,false),([99,111,109,101,115],3,false),([112,105,101,99,101],4,true),([119,105,115,104],5,true),([100,114,111,112],1,false),([99,97,110],1,false),([116,97,107,101,115],0,true),([109,111,115,116],0,false),([101,120,116,114,97],0,false)]
def nX(w:aL):List (aL×Int×Bool)->Nat->Option (Int×Bool×Nat)
 | [],_=>none
 | p::l,i=>if w=p.1 then some (p.2.1,p.2.2,i) else nX w l (i+1)
def Et(s:aL):Option (Nat×z1'):=
 match nX ((cj s).getD 0 []) kt 0 with
 | none=>none
 | some (k,m,j)=>if (decide (((cj s).length:Int) - 1<k)||decide (((cj s).length:Int) - 1 > k)&&!m)=true then none else (Es ((cj s).drop 1)).map λl=>(j,l)
def kc(d:aX)(s:aL):aL×aX:=match Et s with
 | none=>(aqL,d)
 | some (j,l)=>qu j d l
def gZ:aX->List aL->List aL×aX
 | d,[]=>([],d)
 | d,s::l=>((kc d s).1::(gZ (kc d s).2 l).1,(gZ (kc d s).2 l).2)
theorem aqM(d:aX)(a b:List aL):gZ d (a++b)=((gZ d a).1++(gZ (gZ d a).2 b).1,(gZ (gZ d a).2 b).2):=by
 induction a generalizing d with
 | nil=>rfl
 | cons s a aH=>simp only[List.cons_append,gZ,aH]
theorem aqN(d:aX)(a:List aL):(gZ d a).1.length=a.length:=by
 induction a generalizing d with
 | nil=>rfl
 | cons s a aH=>simp only[gZ,List.length_cons,aH]
def jO(d:aX):Int:=if (decide (iW d.1≠0)||decide (H.cu d.2≠0))=true then 120 else 0
def hB(d:aX):aX:=(d.1,(H.nV d.2 [] []).1)
abbrev ZI:aX:=((([],[],0,[]),[],[],[],[],0),[],[],[],[],0,0,0,0,0,0,0)
def we(d:aX)(l:List aL):List aL×aX×Int:=
 if jO d≠0 then ([],ZI,jO d) else if l.length > 40 then ([],ZI,2) else ((gZ (hB d) l).1,(gZ (hB d) l).2,0)
structure dc(d:aX):Prop where
 gv:fb d.1
 yq:iW d.1=0
 yr:H.cu d.2=0
 A_:H.j' d.2.1<=60
theorem dc.val{d:aX}(h:dc d):lS d.1:=AY h.gv h.yq
theorem dc.aqO{d:aX}(h:dc d):jO d=0:=by simp[jO,h.yq,h.yr]
theorem dc.aqP{d:aX}(h:dc d):H.ZE d.2:=H.IP h.yr
theorem dc.gA{d:aX}(h:dc d):H.gA d.2:=by
 have:=h.aqP;exact⟨⟨by have:=this.dH;omega,by have:=this.dM;omega,by have:=this.jv;omega,by have:=this.n4;omega⟩,λ_=>h.A_⟩
theorem dc.iF{d:aX}(h:dc d):H.iF d.2:=h.gA.gv
structure ed(k:Nat)(l:z1'):Prop where
 PX:k<=l.length
 IQ:l.length<=10000
 num:∀ n∈l,0<=n/\n<=999999
theorem ed.ba{k:Nat}{l:z1'}(h:ed k l)(i:Nat):0<=ba l i/\ba l i<=999999:=by
 rcases Nat.lt_or_ge i l.length with E | E
 ·have:=h.num l[i] (by simp);grind
 ·grind
end Go.Fer.W
namespace Go.Fer.W
open M (aa)
open H (gp)
abbrev IS:aJ:=⟨.int .i64,.str,λ_=>True,rz⟩
abbrev Eu:aJ:=⟨.aw sT .str,.str,λx=>x.1.length<=60000/\(∀ w∈x.1,w.length<=21)/\x.2.length=1,λx=>Go.Lib.join x.1 x.2⟩
theorem ZJ:∀ (l:List aL) (s:aL) (n:Nat),(∀ w∈l,w.length<=n)->(Go.Lib.join l s).length<=l.length*(n+s.length)
 | [],s,n,h=>by simp[Go.Lib.join_nil]
 | x::r,s,n,h=>by
  rw[Go.Lib.join_cons];have aG:∀ (r:List aL),(∀ w∈r,w.length<=n)->(Go.Lib.joinTail s r).length<=r.length*(n+s.length):=by
   intro r;induction r with
   | nil=>intro _;simp[Go.Lib.joinTail]
   | cons y r aH=>
    intro h;have h1:=aH λw hw=>h w (by grind);have h2:=h y (by simp);simp only[Go.Lib.joinTail,List.map_cons,List.flatten_cons,List.length_append,List.length_cons,Nat.succ_mul]at h1 ⊢;omega
  have h1:=aG r λw hw=>h w (by grind);have h2:=h x (by simp);simp only[List.length_append,List.length_cons,Nat.succ_mul];omega
theorem PY(l:z1'):(rA l).length<=l.length*22+4:=by
 unfold rA;split
 ·simp
 ·have:=ZJ (l.map rz) [32] 21 λw hw=>by
   obtain⟨n,_,rfl⟩:=List.mem_map.1 hw;exact PB n
  grind
abbrev yt:aJ:=⟨fm,.str,λx=>x.length<=60000,rA⟩
theorem aqQ(x):M.le (X0 IS.sh Eu.sh x) (yt.sh x):=M.bg λh=>by
 change x.length<=60000 at h;unfold X0;show _=M.pure (rA x);unfold rA;by_cases hx:x=[]
 ·grind
 ·have ai:x.length≠0:=by grind
  rw[if_neg (by grind),if_neg hx];rw[M.fZ x (λi (o:List aL)=>(x,(x.length:Int),(i:Int),o,())) (λn o=>.next (o++[rz n])) (λo=>.next (o,())) (λi o=>o.length=i) [] ?_ rfl ?_ ?_]
  ·rw[dP,xK,List.nil_append,M.aE,M.bK];rw[show Eu.sh (x.map rz,[32])=M.pure (Go.Lib.join (x.map rz) [32]) from M.bE ⟨by grind,λw hw=>by
    obtain⟨n,_,rfl⟩:=List.mem_map.1 hw;exact PB n,rfl⟩ _,M.aE]
  ·rfl
  ·intro i E o ag;have hw:=bn (n:=(i:Int)+1) (by omega) (by omega);refine⟨?_,λaZ cS=>?_⟩
   ·simp only[bG,cC E,if_true,cV E,ct E,M.be,b2,hw];rw[show IS.sh x[i]=M.pure (rz x[i]) from rfl,M.aE,M.bk (gp (by grind))];rfl
   ·grind
  simp
abbrev qv:aJ:=⟨.aw (.int .i64) fm,.str,λx=>x.2.length<=60000,λx=>qt x.1 x.2⟩
theorem aqR(x):M.le (XZ yt.sh x) (qv.sh x):=M.bg λh=>by
 change x.2.length<=60000 at h;unfold XZ;show _=M.pure (qt x.1 x.2);unfold qt;rw[show yt.sh x.2=M.pure (rA x.2) from M.bE h _,M.aE];grind
abbrev yu:aJ:=⟨.aw mi (.int .i64),.str,λ_=>True,yp⟩
theorem aqS(x):M.le (XY qv.sh x) (yu.sh x):=M.bg λ_=>by
 unfold XY;rw[show qv.sh (x.2,[x.1.1,x.1.2])=M.pure (yp x) from M.bE (show 2<=60000 by decide) _,M.aE]
theorem yv{e:Int}{l:z1'}(h:l.length<=60000):qv.sh (e,l)=M.pure (qt e l):=M.bE h _
theorem PZ{l:z1'}(h:l.length<=60000):yt.sh l=M.pure (rA l):=M.bE h _
theorem IT(x:(Int×Int)×Int):yu.sh x=M.pure (yp x):=rfl
def shD(k:Nat)(g:aX->z1'->aL×aX)(x:z1'×aX×Unit):M (aL×aX×Unit):=M.dv (dc x.2.1/\ed k x.1) ((g x.2.1 x.1).1,(g x.2.1 x.1).2,())
theorem nb:Int.toNat 0=0:=rfl
theorem nc:Int.toNat 1=1:=rfl
theorem nd:Int.toNat 2=2:=rfl
theorem nf:Int.toNat 3=3:=rfl
theorem ng:Int.toNat 4=4:=rfl
theorem nh:Int.toNat 5=5:=rfl
theorem ni{aj:Type}{k:Nat}{l:z1'}(h:ed k l)(m:M aj)(i:Int)(E:0<=i/\i<(k:Int)):M.ae (0<=i/\i<Int.ofNat l.length) m=m:=
 M.bk ⟨E.1,by have:=h.PX;grind⟩ m
def A'(x:List H.aU×z1'×aX×Unit):M (aL×aX×Unit):=M.dv (dc x.2.2.1/\x.1.length<2 ^ 63/\x.2.1.length<2 ^ 63) ((nW x.2.2.1 x.1 x.2.1).1,(nW x.2.2.1 x.1 x.2.1).2,())
theorem aqT(x):M.le (XU H.A9.sh x) (A' x):=M.bg λh=>by
 obtain⟨m,v,d,⟨⟩⟩:=x;obtain⟨au,h1,h2⟩:=h;unfold XU;rw[M.be,show H.A9.sh (d.2,m,v)=M.pure (H.nV d.2 m v) from M.bE ⟨au.iF,h1,h2⟩ _,M.aE];unfold nW;by_cases e:(H.nV d.2 m v).2=0<;>simp[e]
theorem P0{d:aX}(au:dc d)(m:List H.aU)(v:z1')(h1:m.length<2 ^ 63)(h2:v.length<2 ^ 63):A' (m,v,d,())=M.pure ((nW d m v).1,(nW d m v).2,()):=M.bE ⟨au,h1,h2⟩ _
theorem aqU(x):M.le (XT A' x) (shD 5 PD x):=M.bg λh=>by
 obtain⟨l,d,⟨⟩⟩:=x;obtain⟨au,ai⟩:dc d/\ed _ l:=h;unfold XT;simp (disch:=decide) only [ni ai,M.be,nb,nc,nd,nf,ng,nh];rw[P0 au _ _ (by simp) (by simp),M.aE];rfl
theorem aqV(x):M.le (XV A' x) (shD 4 PE x):=M.bg λh=>by
 obtain⟨l,d,⟨⟩⟩:=x;obtain⟨au,ai⟩:dc d/\ed _ l:=h;unfold XV;simp (disch:=decide) only [ni ai,M.be,nb,nc,nd,nf,ng,nh];rw[P0 au _ _ (by simp) (by simp),M.aE];rfl
theorem Of(x):M.le (XW A' x) (shD 1 PF x):=M.bg λh=>by
 obtain⟨l,d,⟨⟩⟩:=x;obtain⟨au,ai⟩:dc d/\ed _ l:=h;unfold XW;rw[P0 au _ _ (by simp) (show l.length<2 ^ 63 by have:=ai.IQ;omega),M.aE];rfl
theorem aqW(x):M.le (XX H.HF.sh yu.sh x) (shD 1 PG x):=M.bg λh=>by
 obtain⟨l,d,⟨⟩⟩:=x;obtain⟨au,ai⟩:dc d/\ed _ l:=h;unfold XX;simp (disch:=decide) only [ni ai,M.be,nb,nc,nd,nf,ng,nh];rw[show H.HF.sh (d.2,ba l 0)=M.pure _ from M.bE au.gA _];simp only[M.iG,M.fi,M.be,IT];rfl
theorem aqX(x):M.le (X1 H.HH.sh yu.sh x) (shD 1 PH x):=M.bg λh=>by
 obtain⟨l,d,⟨⟩⟩:=x;obtain⟨au,ai⟩:dc d/\ed _ l:=h;unfold X1;simp (disch:=decide) only [ni ai,M.be,nb,nc,nd,nf,ng,nh];rw[show H.HH.sh (d.2,ba l 0)=M.pure _ from M.bE au.gA _];simp only[M.iG,M.fi,M.be,IT];rfl
theorem aqY(x):M.le (X2 H.HJ.sh yu.sh x) (shD 1 PI x):=M.bg λh=>by
 obtain⟨l,d,⟨⟩⟩:=x;obtain⟨au,ai⟩:dc d/\ed _ l:=h;unfold X2;simp (disch:=decide) only [ni ai,M.be,nb,nc,nd,nf,ng,nh];rw[show H.HJ.sh (d.2,ba l 0)=M.pure _ from M.bE au.gA _];simp only[M.iG,M.fi,M.be,IT];rfl
theorem aqZ(x):M.le (X3 H.HL.sh yu.sh x) (shD 1 PJ x):=M.bg λh=>by
 obtain⟨l,d,⟨⟩⟩:=x;obtain⟨au,ai⟩:dc d/\ed _ l:=h;unfold X3;simp (disch:=decide) only [ni ai,M.be,nb,nc,nd,nf,ng,nh];rw[show H.HL.sh (d.2,ba l 0)=M.pure _ from M.bE au.gA _];simp only[M.iG,M.fi,M.be,IT];rfl
theorem P1{a b:Int}:(dJ a b).length=(b+1 - a).toNat:=by simp[dJ];omega
theorem aq0(c:H.aQ)(u t:Int):(H.ri c u t).1.length<=101:=Nat.le_trans (List.length_filter_le ..) (by rw[P1];decide)
theorem aq1{c:H.aQ}{u t:Int}(h:(H.ri c u t).2=0):0<(H.ri c u t).1.length:=by
 unfold H.ri at h ⊢;rcases H.AF c (H.vH u t) with⟨h1,_⟩ | ⟨h1,h2,h3,aR⟩
 ·omega
 ·have aA:=H.oC h2;have cq:(0<=u/\u<=9)/\0<=t/\t<=9999:=by
   unfold H.vH at h3;rw[Bool.and_eq_true,H.oA,H.oA]at h3;exact h3
  have ea:H.cw c≠[]:=by
   intro he;unfold H.cW at h1;grind
  obtain⟨w,T,hT⟩:=List.exists_cons_of_ne_nil ea;have hw:H.iE c w=true:=H.vL (by grind);have ao:=H.XK aA hw cq.1 t;have ab:-1<=H.ld c w u t/\H.ld c w u t<=99:=by
   rcases H.OD c w u t with h | ⟨s,hs,h⟩
   ·omega
   ·rw[h];obtain⟨e,he,rfl⟩:=List.mem_map.1 hs;have:=H.Oz aA (List.mem_filter.1 he).1;omega
  refine List.length_pos_of_mem (a:=H.ld c w u t) (List.mem_filter.2 ⟨sn.2 ab,?_⟩);rw[List.contains_iff_mem];unfold H.N';grind
theorem aq2(x):M.le (X4 H.HM.sh qv.sh yt.sh x) (shD 2 PL x):=M.bg λh=>by
 obtain⟨l,d,⟨⟩⟩:=x;obtain⟨au,ai⟩:dc d/\ed _ l:=h;unfold X4;simp (disch:=decide) only [ni ai,M.be,nb,nc,nd,nf,ng,nh];have h1:=aq0 d.2 (ba l 0) (ba l 1);have h2:=aq1 (c:=d.2) (u:=ba l 0) (t:=ba l 1);have hc:H.HM.sh (d.2,ba l 0,ba l 1)=M.pure (H.ri d.2 (ba l 0) (ba l 1)):=M.bE au.gA _;simp only[hc];show _=M.pure (PK (H.ri d.2 (ba l 0) (ba l 1)),d,());generalize H.ri d.2 (ba l 0) (ba l 1)=r at *
 simp only[M.iG,M.fi,M.be];rw[M.bk (λab=>⟨⟨ab,trivial⟩,⟨by decide,by grind⟩,trivial⟩),yv (by omega),M.aE];unfold PK;by_cases e:(decide (r.2≠0)||decide (r.1.getD 0 0>=0))=true
 ·grind
 ·rw[if_neg e,if_neg e];have e0:r.2=0:=by grind
  have hp:=h2 e0;by_cases e1:r.1.length=1
  ·grind
  ·rw[if_neg (by grind),if_neg e1];rw[M.bk ⟨by decide,by grind,Int.le_refl _⟩];have pn:List.take (Int.ofNat r.1.length).toNat r.1=r.1:=by simp
   rw[pn];rw[PZ (by grind),M.aE];have kC:=PY (r.1.drop 1);rw[M.bk (gp (by grind))];rfl
theorem aq3(c:H.aQ)(t:Int):(H.sD c t).1.length<=10/\(H.sD c t).2.1.length<=10:=by
 unfold H.sD;split
 ·simp
 ·exact⟨Nat.le_trans (List.length_filter_le ..) (by rw[P1];decide),Nat.le_trans (List.length_filter_le ..) (by rw[P1];decide)⟩
theorem aq4(x):M.le (X5 H.HN.sh qv.sh yt.sh x) (shD 1 PN x):=M.bg λh=>by
 obtain⟨l,d,⟨⟩⟩:=x;obtain⟨au,ai⟩:dc d/\ed _ l:=h;unfold X5;simp (disch:=decide) only [ni ai,M.be,nb,nc,nd,nf,ng,nh];have h1:=aq3 d.2 (ba l 0);have hc:H.HN.sh (d.2,ba l 0)=M.pure (H.sD d.2 (ba l 0)):=M.bE au.gA _;simp only[hc];show _=M.pure (PM (H.sD d.2 (ba l 0)),d,());generalize H.sD d.2 (ba l 0)=r at *
 simp only[M.iG,M.fi,M.be];rw[yv (by simp),PZ (by omega),PZ (by omega)];have eR:=PY r.1;have pI:=PY r.2.1;unfold PM;by_cases e:r.2.2=0
 ·simp only[M.aE];rw[M.bk (gp (by grind)),M.bk (gp (by grind))];simp[e]
 ·simp[e]
theorem aq5(w:a7)(i m k:Int):0<=ur w i m k/\ur w i m k<4:=by
 unfold ur HX;grind
theorem aq6(x):M.le (X7 AR.sh qv.sh x) (shD 3 PO x):=M.bg λh=>by
 obtain⟨l,d,⟨⟩⟩:=x;obtain⟨au,ai⟩:dc d/\ed _ l:=h;unfold X7;simp (disch:=decide) only [ni ai,M.be,nb,nc,nd,nf,ng,nh];have hc:AR.sh (d.1.1,ba l 0,ba l 1,ba l 2)=M.pure (qo d.1.1 (ba l 0) (ba l 1) (ba l 2)):=M.bE au.gv.1 _;simp only[hc];show _=M.pure (ux (qo d.1.1 (ba l 0) (ba l 1) (ba l 2)),d,());have h1:0<=(qo d.1.1 (ba l 0) (ba l 1) (ba l 2)).1/\(qo d.1.1 (ba l 0) (ba l 1) (ba l 2)).1<4:=by
  have:=aq5 d.1.1 (ba l 0) (ba l 1) (ba l 2);unfold qo;grind
 generalize qo d.1.1 (ba l 0) (ba l 1) (ba l 2)=r at *
 simp only[M.iG,M.fi,M.be];rw[yv (by simp),M.bk ⟨h1.1,h1.2⟩];unfold ux;by_cases e:r.2=0<;>simp[e]
theorem aq7{s:br}(h:lS s)(w:Int):(uA s w).1.length<=2000:=by
 have:=h.Ii;unfold uA Zv;grind
theorem aq8(x):M.le (Yd IB.sh qv.sh x) (shD 1 PT x):=M.bg λh=>by
 obtain⟨l,d,⟨⟩⟩:=x;obtain⟨au,ai⟩:dc d/\ed _ l:=h;unfold Yd;simp (disch:=decide) only [ni ai,M.be,nb,nc,nd,nf,ng,nh];rw[show IB.sh (d.1,ba l 0)=M.pure (uA d.1 (ba l 0)) from M.bE au.gv _];have:=aq7 au.val (ba l 0);simp only[M.iG,M.fi,M.be];rw[yv (show (uA d.1 (ba l 0)).1.length<=60000 by omega),M.aE];rfl
def IU(x:z1'×Unit):M (z1'×Unit):=M.dv (x.1.length<=3000000) x
theorem aq9(x):M.le (Ye IC.sh IU qv.sh x) (shD 0 PU x):=M.bg λh=>by
 obtain⟨l,d,⟨⟩⟩:=x;obtain⟨au,ai⟩:dc d/\ed _ l:=h;have an:=ai.IQ;change l.length<=10000 at an;unfold Ye;rw[show IU (l,())=M.pure (l,()) from M.bE (by grind) _,M.aE];rw[M.fZ l (λi (o:z1')=>((l.length:Int),(i:Int),o++l.drop i,d,())) (λn o=>.next (o++[n - 1])) (λo=>.next (o,d,())) (λi o=>o.length=i) [] ?_ rfl ?_ ?_]
 ·rw[dP,xK,List.nil_append,M.aE,M.bK,M.be];rw[show IC.sh (d.1,l.map (· - 1))=M.pure (A7 d.1 (l.map (· - 1))) from M.bE ⟨au.gv,by grind⟩ _,M.aE,yv (by simp),M.aE];rfl
 ·simp
 ·intro i E o ag;have hw:=bn (n:=(i:Int)+1) (by omega) (by omega);have az:=ai.num l[i] (by simp);have gl:=bn (n:=l[i] - 1) (by omega) (by omega);subst ag;have b4:o.length<(o++l.drop o.length).length:=by grind
  have aA:(o++l.drop o.length)[o.length]=l[o.length]:=by simp
  have hs:(o++l.drop o.length).set o.length (l[o.length] - 1)=o++[l[o.length] - 1]++l.drop (o.length+1):=by
   rw[List.set_append_right _ _ (Nat.le_refl _),Nat.sub_self,List.drop_eq_getElem_cons E,List.set_cons_zero,List.append_assoc];rfl
  refine⟨?_,λaZ cS=>?_⟩
  ·simp only[bG,cC E,if_true,ct b4,M.be,b2,hw];rw[show (o++l.drop o.length).getD (Int.toNat (o.length:Int)) 0=l[o.length] by grind,gl,Int.toNat_natCast,hs];rfl
  ·grind
 simp
theorem aq_(x):M.le (Yf Iy.sh qv.sh x) (shD 0 PV x):=M.bg λh=>by
 obtain⟨l,d,⟨⟩⟩:=x;obtain⟨au,ai⟩:dc d/\ed _ l:=h;unfold Yf;rw[M.be,show Iy.sh d.1=M.pure (ym d.1 true) from M.bE au.gv _,M.aE,yv (by simp),M.aE];rfl
theorem aq'(x):M.le (Yg IA.sh qv.sh x) (shD 0 PW x):=M.bg λh=>by
 obtain⟨l,d,⟨⟩⟩:=x;obtain⟨au,ai⟩:dc d/\ed _ l:=h;unfold Yg;rw[M.be,show IA.sh d.1=M.pure (A6 d.1) from M.bE au.gv _,M.aE,yv (by simp),M.aE];rfl
def P2{aj:Type}(x:List aj×Unit):M (List aj×Unit):=M.bind (M.any λ(b:Bool)=>b=true->x.1=[]) λ(y:Bool)=>if y=true then M.pure ([],()) else M.ae (bT (Add.add 0 (List.length x.1))) (M.pure ([]++x.1,()))
abbrev fy(t:af):aJ:=⟨.slice t,.slice t,λx=>x.length<=3000000,λx=>x⟩
def qw{aj:Type}(x:List aj×Unit):M (List aj×Unit):=M.dv (x.1.length<=3000000) x
theorem wg{aj:Type}(x:List aj×Unit):M.le (P2 x) (qw x):=M.sj λh=>by
 unfold P2;rw[M.fJ];refine⟨⟨false,by simp⟩,λb ab=>?_⟩;change b=true->x.1=[]at ab;obtain⟨l,⟨⟩⟩:=x;cases b with
 | true=>rw[show l=[] from ab rfl];exact M.dF.2 rfl
 | false=>
  simp only[Bool.false_eq_true,if_false];exact M.kv.2 ⟨by change l.length<=3000000 at h;simp only[hX,bT];omega,M.dF.2 (by simp)⟩
theorem ara(x:z1'×Unit):M.le (P2 x) (IU x):=wg x
def ZK{aj:Type}(z:aj)(x:Int×Int×List aj×Unit):M ((Nat×Nat)×List aj×Unit):=
 M.ae (0<=x.1/\x.1<=x.2.1/\x.2.1<=Int.ofNat (List.length x.2.2.1)/\Int.ofNat (List.length x.2.2.1)<=Int.ofNat (List.length x.2.2.1)) (if decide
 (x.1=x.2.1)=true then M.pure ((0,List.length x.2.2.1),x.2.2.1,()) else M.ae ((0:Int)<=0/\0<=x.1/\x.1<=Int.ofNat (List.length x.2.2.1))
 (M.ae (0<=x.2.1/\x.2.1<=Int.ofNat (List.length x.2.2.1)/\Int.ofNat (List.length x.2.2.1)<=Int.ofNat (List.length x.2.2.1)) (M.ae (Add.add
 (Int.toNat x.1) (List.length (List.drop (Int.toNat x.2.1) (List.take (Int.toNat (Int.ofNat (List.length x.2.2.1))) x.2.2.1)))<=List.length x.2.2.1)
 (M.ae (0<=Int.ofNat (Add.add (Int.toNat x.1) (List.length (List.drop (Int.toNat x.2.1) (List.take (Int.toNat (Int.ofNat (List.length x.2.2.1)))
 x.2.2.1))) - Int.toNat 0)/\Int.ofNat (Add.add (Int.toNat x.1) (List.length (List.drop (Int.toNat x.2.1) (List.take (Int.toNat (Int.ofNat (List.length
 x.2.2.1))) x.2.2.1))) - Int.toNat 0)<=Int.ofNat (List.length x.2.2.1)/\Int.ofNat (List.length x.2.2.1)<=Int.ofNat (List.length (List.take
 (Int.toNat x.1) x.2.2.1++List.drop (Int.toNat x.2.1) (List.take (Int.toNat (Int.ofNat (List.length x.2.2.1))) x.2.2.1)++List.drop (Add.add
 (Int.toNat x.1) (List.length (List.drop (Int.toNat x.2.1) (List.take (Int.toNat (Int.ofNat (List.length x.2.2.1))) x.2.2.1)))) x.2.2.1) - Int.toNat
 0)) (M.ae True (M.pure ((Int.toNat 0,Add.add (Int.toNat x.1) (List.length (List.drop (Int.toNat x.2.1) (List.take (Int.toNat (Int.ofNat (List.length
 x.2.2.1))) x.2.2.1)))),List.take (Add.add (Int.toNat 0) (Int.toNat (Int.ofNat (Add.add (Int.toNat x.1) (List.length (List.drop (Int.toNat x.2.1)
 (List.take (Int.toNat (Int.ofNat (List.length x.2.2.1))) x.2.2.1))) - Int.toNat 0)))) (List.take (Int.toNat x.1) x.2.2.1++List.drop (Int.toNat
 x.2.1) (List.take (Int.toNat (Int.ofNat (List.length x.2.2.1))) x.2.2.1)++List.drop (Add.add (Int.toNat x.1) (List.length (List.drop (Int.toNat
 x.2.1) (List.take (Int.toNat (Int.ofNat (List.length x.2.2.1))) x.2.2.1)))) x.2.2.1)++List.replicate (Add.add (Int.toNat 0) (Int.toNat (Int.ofNat
 (List.length x.2.2.1))) - Add.add (Int.toNat 0) (Int.toNat (Int.ofNat (Add.add (Int.toNat x.1) (List.length (List.drop (Int.toNat x.2.1) (List.take
 (Int.toNat (Int.ofNat (List.length x.2.2.1))) x.2.2.1))) - Int.toNat 0)))) z++List.drop (Add.add (Add.add (Int.toNat 0) (Int.toNat (Int.ofNat
 (Add.add (Int.toNat x.1) (List.length (List.drop (Int.toNat x.2.1) (List.take (Int.toNat (Int.ofNat (List.length x.2.2.1))) x.2.2.1))) - Int.toNat
 0)))) (List.length (List.replicate (Add.add (Int.toNat 0) (Int.toNat (Int.ofNat (List.length x.2.2.1))) - Add.add (Int.toNat 0) (Int.toNat (Int.ofNat
 (Add.add (Int.toNat x.1) (List.length (List.drop (Int.toNat x.2.1) (List.take (Int.toNat (Int.ofNat (List.length x.2.2.1))) x.2.2.1))) - Int.toNat
 0)))) z))) (List.take (Int.toNat x.1) x.2.2.1++List.drop (Int.toNat x.2.1) (List.take (Int.toNat (Int.ofNat (List.length x.2.2.1))) x.2.2.1)++
 List.drop (Add.add (Int.toNat x.1) (List.length (List.drop (Int.toNat x.2.1) (List.take (Int.toNat (Int.ofNat (List.length x.2.2.1))) x.2.2.1))))
 x.2.2.1),())))))))
def IV{aj:Type}(z:aj)(x:Int×Int×List aj×Unit):M ((Nat×Nat)×List aj×Unit):=M.dv (0<=x.1/\x.2.1=x.1+1/\x.1<(x.2.2.1.length:Int)/\x.2.2.1.length<=3000000) ((0,x.2.2.1.length - 1),x.2.2.1.eraseIdx x.1.toNat++[z],())
theorem arb{aj:Type}(z:aj)(x):M.le (ZK z x) (IV z x):=M.bg λh=>by
 obtain⟨i,j,l,⟨⟩⟩:=x;obtain⟨h0,h1,h2,h3⟩:0<=i/\j=i+1/\i<(l.length:Int)/\l.length<=3000000:=h;subst h1;obtain⟨n,rfl⟩:∃ n:Nat,i=n:=⟨i.toNat,by omega⟩
 have az:n<l.length:=by omega
 have e1:((n:Int)+1).toNat=n+1:=by omega
 unfold ZK;simp only[bG,Int.toNat_natCast,e1,List.take_length,hX,Int.toNat_zero,Nat.sub_zero,Nat.zero_add,List.length_drop];have e2:n+(l.length - (n+1))=l.length - 1:=by omega
 have e3:(l.take n++l.drop (n+1)++l.drop (l.length - 1))=l.eraseIdx n++l.drop (l.length - 1):=by rw[List.eraseIdx_eq_take_drop_succ]
 have e4:(l.eraseIdx n).length=l.length - 1:=by rw[List.length_eraseIdx_of_lt az]
 have dC:l.length - (l.length - 1)=1:=by omega
 rw[M.bk (by omega),if_neg (by simp;omega),M.bk (by omega),M.bk (by omega),M.bk (by omega)];rw[e2,e3,M.bk (by simp[e4]),M.be];show _=M.pure ((0,l.length - 1),l.eraseIdx n++[z],());have kS:(l.eraseIdx n++l.drop (l.length - 1)).take (l.length - 1)=l.eraseIdx n:=by rw[List.take_append_of_le_length (by omega),List.take_of_length_le (by omega)]
 have ti:(l.eraseIdx n++l.drop (l.length - 1)).drop l.length=[]:=List.drop_eq_nil_of_le (by simp[e4]);simp only[dC,kS,List.replicate_one,List.length_cons,List.length_nil,Nat.zero_add];rw[show l.length - 1+1=l.length by omega,ti,List.append_nil]
def wh(x:br×Unit):M vN:=M.dv (Eo x.1) (iC x.1)
theorem IW{x:z1'}(h:x.length<=2000000):H.fcClone.sh x=M.pure x:=M.bE (by show List.length x<=3000000;omega) _
theorem yw{t:af}{x:(af.slice t).ah}(h:List.length x<=2000000):(fy t).sh x=M.pure x:=M.bE (by show List.length x<=3000000;omega) _
theorem ZL{gb:Type}{s:br}(h:Eo s)(fin:br->M gb):HR (fy ks).sh (fy kN).sh (fy jK).sh qw H.fcClone.sh (fy mW).sh (fy tWi).sh (fy pz).sh s fin=fin s:=by
 obtain⟨⟨b6,cI,eD,Aw⟩,h2,h3,aR,bw,cZ,fN⟩:=h;obtain⟨⟨sp,mk,cut,tr⟩,st,jP,wi,de,iM⟩:=s;change sp.length<=2000000 at b6;change mk.length<=2000000 at cI;change tr.length<=2000000 at eD;change ∀ m∈mk,m.length<=2000000/\∀ s∈m,s.2.1.length<=2000000 at Aw;change st.length<=2000000 at h2;change jP.length<=2000000 at h3;change wi.length<=2000000 at aR;change de.length<=2000000 at bw;change ∀ p∈jP,p.2.2.2.2.length<=2000000 at cZ;change ∀ p∈wi,p.1.length<=2000000 at fN;have aO:(fy ks).sh sp=M.pure sp:=yw b6;have aP:(fy kN).sh mk=M.pure mk:=yw cI;have bA:(fy jK).sh tr=M.pure tr:=yw eD;have gi:H.fcClone.sh st=M.pure st:=IW h2;have oY:(fy mW).sh jP=M.pure jP:=yw h3;have xo:(fy tWi).sh wi=M.pure wi:=yw aR;have GP:(fy pz).sh de=M.pure de:=yw bw;unfold HR;simp only[aO,aP,bA,M.iG,M.fi,M.be];rw[M.dh mk (λi (_:Unit)=>((mk.length:Int),(i:Int),cut,st,jP,wi,de,iM,0,0,sp,mk,tr,())) (λp b=>.next b) (λ_=>.next (cut,st,jP,wi,de,iM,0,0,sp,mk,tr,())) () ?_ ?_ ?_]
 ·rw[dP,M.aE,M.bK];simp only[gi,oY,xo,GP,M.iG,M.fi,M.be];rw[M.dh jP (λi (_:Unit)=>((jP.length:Int),(i:Int),cut,iM,0,0,sp,mk,tr,st,jP,wi,de,())) (λp b=>.next b) (λ_=>.next (cut,iM,0,0,sp,mk,tr,st,jP,wi,de,())) () ?_ ?_ ?_]
  ·rw[dP,M.aE,M.bK];rw[M.dh wi (λi (_:Unit)=>((wi.length:Int),(i:Int),cut,iM,0,0,sp,mk,tr,st,jP,wi,de,())) (λp b=>.next b) (λ_=>.next (cut,iM,0,0,sp,mk,tr,st,jP,wi,de,())) () ?_ ?_ ?_]
   ·rw[dP,M.aE,M.bK]
   ·rfl
   ·intro i E b;have hw:=bn (n:=(i:Int)+1) (by omega) (by omega);have hc:H.fcClone.sh wi[i].1=M.pure wi[i].1:=IW (fN _ (List.getElem_mem E));have oV:wi.set i (wi[i].1,wi[i].2)=wi:=List.set_getElem_self E;simp only[bG,cC E,if_true,cV E,ct E,M.be,b2,hw];simp only[hc,M.iG,M.fi,M.be,Int.toNat_natCast,oV];rfl
   ·simp
  ·rfl
  ·intro i E b;have hw:=bn (n:=(i:Int)+1) (by omega) (by omega);have hc:H.fcClone.sh jP[i].2.2.2.2=M.pure jP[i].2.2.2.2:=IW (cZ _ (List.getElem_mem E));have oV:jP.set i (jP[i].1,jP[i].2.1,jP[i].2.2.1,jP[i].2.2.2.1,jP[i].2.2.2.2)=jP:=List.set_getElem_self E;simp only[bG,cC E,if_true,cV E,ct E,M.be,b2,hw];simp only[hc,M.iG,M.fi,M.be,Int.toNat_natCast,oV];rfl
  ·simp
 ·rfl
 ·intro i E b;have hw:=bn (n:=(i:Int)+1) (by omega) (by omega);obtain⟨an,hs⟩:=Aw _ (List.getElem_mem E);have hc:qw (mk[i],())=M.pure (mk[i],()):=M.bE (by show mk[i].length<=3000000;omega) _;have arc:mk.set i mk[i]=mk:=List.set_getElem_self E;simp only[bG,cC E,if_true,cV E,ct E,M.be,b2,hc,M.aE];simp only[Int.toNat_natCast];rw[M.dh mk[i] (λj (_:Unit)=>(i,(mk.length:Int),(i:Int),(mk[i].length:Int),(j:Int),cut,st,jP,wi,de,iM,0,0,sp,(mk,i),tr,mk[i],())) (λp b=>.next b) (λ_=>.next ((mk.length:Int),(i:Int),cut,st,jP,wi,de,iM,0,0,sp,(mk,i),tr,mk[i],())) () ?_ ?_ ?_]
  ·rw[dP,M.aE,M.bK];simp only[hw,arc];rfl
  ·rfl
  ·intro j aC b;have hw:=bn (n:=(j:Int)+1) (by omega) (by omega);have hc:H.fcClone.sh mk[i][j].2.1=M.pure mk[i][j].2.1:=IW (hs _ (List.getElem_mem aC));have oV:mk[i].set j (mk[i][j].1,mk[i][j].2.1,mk[i][j].2.2)=mk[i]:=List.set_getElem_self aC;simp only[Prod.cK,Prod.e8,Prod.gy,bG,cC aC,if_true,cV aC,ct aC,M.be,b2,hw];simp only[hc,M.iG,M.fi,M.be,Int.toNat_natCast,oV];rfl
  ·simp
 ·simp
theorem sClo(x):M.le (ant (fy ks).sh (fy kN).sh (fy jK).sh qw H.fcClone.sh (fy mW).sh (fy tWi).sh (fy pz).sh x) (wh x):=M.bg λh=>ZL h _
abbrev IX:aJ:=⟨lR,lR,Eo,λs=>s⟩
theorem ard(x):M.le (anr (fy ks).sh (fy kN).sh (fy jK).sh qw H.fcClone.sh (fy mW).sh (fy tWi).sh (fy pz).sh x) (IX.sh x):=M.bg λh=>ZL h _
def wj(x:br×aX×Unit):M (aL×aX×Unit):=M.dv (dc x.2.1/\fb x.1) ((kR x.2.1 x.1).1,(kR x.2.1 x.1).2,())
theorem are(x):M.le (X9 pB.sh x) (wj x):=M.bg λh=>by
 obtain⟨s,d,⟨⟩⟩:=x;obtain⟨au,hs⟩:dc d/\fb s:=h;unfold X9;rw[show pB.sh s=M.pure (iW s) from M.bE hs _,M.aE];show _=M.pure ((kR d s).1,(kR d s).2,());unfold kR;by_cases e:iW s=0<;>simp[e]
theorem arf{d:aX}(au:dc d){s:br}(hs:fb s):wj (s,d,())=M.pure ((kR d s).1,(kR d s).2,()):=M.bE ⟨au,hs⟩ _
theorem IY{d:aX}(au:dc d)(s:br)(hs:fb s):M.bind (wj (s,d,())) (λy=>M.pure (y.1,y.2.1,()))=M.pure ((kR d s).1,(kR d s).2,()):=by rw[arf au hs,M.aE]
theorem dc.copy{d:aX}(h:dc d):Eo d.1:=aqi h.val
theorem Ev{d:aX}(h:dc d):wh (d.1,())=M.pure (iC d.1):=M.bE h.copy _
theorem arh(x):M.le (X6 x9.sh wh gY.sh x) (shD 4 na x):=M.bg λh=>by
 obtain⟨l,d,⟨⟩⟩:=x;obtain⟨au,ai⟩:dc d/\ed _ l:=h;have hc:=au.copy;have hs:fG (lV d.1.1 (ba l 0,ba l 1,ba l 2,ba l 3)):=⟨au.gv.1.1,au.gv.1.2.1,by have:=hc.1.2.2.1;simp only[lV,List.length_append,List.length_cons,List.length_nil];omega,au.gv.1.2.2.2⟩
 unfold X6;rw[M.be,Ev au,M.aE];simp (disch:=decide) only [ni ai,M.be,nb,nc,nd,nf,ng,nh];rw[M.bk (by have:=hc.1.2.2.1;simp only[hX,bT,iC];omega)];show M.bind (gY.sh (lV d.1.1 (ba l 0,ba l 1,ba l 2,ba l 3))) _=M.pure ((na d l).1,(na d l).2,());rw[show gY.sh (lV d.1.1 (ba l 0,ba l 1,ba l 2,ba l 3))=M.pure (cu (lV d.1.1 (ba l 0,ba l 1,ba l 2,ba l 3))) from M.bE hs _,M.aE];have hlen:x9.sh (lV d.1.1 (ba l 0,ba l 1,ba l 2,ba l 3),ba l 0)=M.pure (sN (lV d.1.1 (ba l 0,ba l 1,ba l 2,ba l 3)) (ba l 0)):=M.bE hs _;have B7:x9.sh (((iC d.1).1,(iC d.1).2.1,(iC d.1).2.2.1,(iC d.1).2.2.2.2.1++[(ba l 0,ba l 1,ba l 2,ba l 3)]),ba l 0)=M.pure (sN (lV d.1.1 (ba l 0,ba l 1,ba l 2,ba l 3)) (ba l 0)):=hlen;simp only[B7,M.iG,M.fi,M.be];unfold na;by_cases e:cu (lV d.1.1 (ba l 0,ba l 1,ba l 2,ba l 3))=0
 ·by_cases e2:(sN (lV d.1.1 (ba l 0,ba l 1,ba l 2,ba l 3)) (ba l 0)).2=0
  ·simp only[e,e2,ne_eq,not_true_eq_false,decide_false,Bool.false_eq_true,if_false];rfl
  grind
 grind
theorem ari(x):M.le (X8 wh wj x) (shD 2 uD x):=M.bg λh=>by
 obtain⟨l,d,⟨⟩⟩:=x;obtain⟨au,ai⟩:dc d/\ed _ l:=h;have hc:=au.copy;unfold X8;rw[M.be,Ev au,M.aE];simp (disch:=decide) only [ni ai,M.be,nb,nc,nd,nf,ng,nh];show _=M.pure ((uD d l).1,(uD d l).2,());unfold uD;have h0:=ai.ba 0;have h1:=ai.ba 1;by_cases e:ba l 0>=(d.1.2.1.length:Int)
 ·rw[if_pos (by simpa [iC]using e),if_pos e]
 ·rw[if_neg (by simpa [iC]using e),if_neg e];have az:(ba l 0).toNat<d.1.2.1.length:=by omega
  rw[M.bk ⟨h0.1,by show ba l 0<(d.1.2.1.length:Int);omega⟩,M.bk ⟨h0.1,by show ba l 0<(d.1.2.1.length:Int);omega⟩];have hv:∀ n∈d.1.2.1,0<=n/\n<=10:=λn az=>by
   have:=au.val.sF.2;have fB:=au.yq;unfold iW at fB;grind [mX,bM]
  have ab:=hv _ (List.getElem_mem az);have aA:d.1.2.1.getD (ba l 0).toNat 0=d.1.2.1[(ba l 0).toNat]:=by grind
  have hw:=bn (n:=d.1.2.1.getD (ba l 0).toNat 0+ba l 1) (by omega) (by omega);have gl:IntKind.wrap .i64 (Add.add ((iC d.1).2.2.2.2.2.1.getD (ba l 0).toNat 0) (ba l 1))=d.1.2.1.getD (ba l 0).toNat 0+ba l 1:=hw;rw[gl];exact IY au (d.1.1,d.1.2.1.set (ba l 0).toNat (d.1.2.1.getD (ba l 0).toNat 0+ba l 1),d.1.2.2) ⟨au.gv.1,by show (List.set d.1.2.1 _ _).length<_;rw[List.length_set];exact au.gv.2.1,au.gv.2.2⟩
theorem arj(x):M.le (X_ wh wj x) (shD 3 PQ x):=M.bg λh=>by
 obtain⟨l,d,⟨⟩⟩:=x;obtain⟨au,ai⟩:dc d/\ed _ l:=h;have hc:=au.copy;have bw:=hc.2.2.2.2.1;obtain⟨eg,ds,ei,oi,sV,sW,sX⟩:=au.gv;unfold X_;rw[M.be,Ev au,M.aE];simp (disch:=decide) only [ni ai,M.be,nb,nc,nd,nf,ng,nh];rw[M.bk (by simp only[hX,bT,iC];omega)];exact IY au (d.1.1,d.1.2.1,d.1.2.2.1,d.1.2.2.2.1,d.1.2.2.2.2.1++[(ba l 0,ba l 1,ba l 2)],d.1.2.2.2.2.2) ⟨eg,ds,ei,oi,by grind,sW,sX⟩
theorem ark(x):M.le (X' wh wj x) (shD 4 PR x):=M.bg λh=>by
 obtain⟨l,d,⟨⟩⟩:=x;obtain⟨au,ai⟩:dc d/\ed _ l:=h;have hc:=au.copy;have bw:=hc.2.2.1;have an:=ai.IQ;have hle:4<=l.length:=ai.PX;obtain⟨eg,ds,ei,oi,sV,sW,sX⟩:=au.gv;unfold X';rw[M.be,Ev au,M.aE];simp (disch:=decide) only [ni ai,M.be,nb,nc,nd,nf,ng,nh];rw[M.bk ⟨by decide,by grind,Int.le_refl _⟩,M.bk (by simp only[hX,bT,iC];omega)];simp only[bG,Int.toNat_natCast,List.take_length];exact IY au (d.1.1,d.1.2.1,d.1.2.2.1++[(ba l 0,ba l 1,ba l 2,ba l 3,l.drop 4)],d.1.2.2.2) ⟨eg,ds,by grind,oi,sV,λp hp=>by
  grind,sX⟩
theorem arl(x):M.le (Ya wh wj x) (shD 5 PS x):=M.bg λh=>by
 obtain⟨l,d,⟨⟩⟩:=x;obtain⟨au,ai⟩:dc d/\ed _ l:=h;have hc:=au.copy;have bw:=hc.2.2.2.1;have an:=ai.IQ;have hle:5<=l.length:=ai.PX;obtain⟨eg,ds,ei,oi,sV,sW,sX⟩:=au.gv;unfold Ya;rw[M.be,Ev au,M.aE];simp (disch:=decide) only [ni ai,M.be,nb,nc,nd,nf,ng,nh];rw[M.bk ⟨by decide,by grind,Int.le_refl _⟩,M.bk (by simp only[hX,bT,iC];omega)];simp only[bG,Int.toNat_natCast,List.take_length];exact IY au (d.1.1,d.1.2.1,d.1.2.2.1,d.1.2.2.2.1++[(l.drop 5,(ba l 0,ba l 1),ba l 2,ba l 3,ba l 4)],d.1.2.2.2.2) ⟨eg,ds,ei,by grind,sV,sW,λp hp=>by
  grind⟩
abbrev IZ:dr:=([],(0,0),0,0,0)
theorem arn(x):M.le (Yb (fy tWi).sh (IV IZ) x) (shD 1 uE x):=M.bg λh=>by
 obtain⟨l,d,⟨⟩⟩:=x;obtain⟨au,ai⟩:dc d/\ed _ l:=h;have hc:=au.copy.2.2.2.1;have h0:=ai.ba 0;unfold Yb;simp (disch:=decide) only [ni ai,M.be,nb,nc,nd,nf,ng,nh];show _=M.pure ((uE d l).1,(uE d l).2,());unfold uE;by_cases e:ba l 0>=(d.1.2.2.2.1.length:Int)
 ·grind
 ·rw[if_neg (by grind),if_neg e];have lv:(fy tWi).sh d.1.2.2.2.1=M.pure d.1.2.2.2.1:=yw hc;have hw:=bn (n:=ba l 0+1) (by omega) (by omega);simp only[lv,M.iG,M.fi,M.be,b2,hw];rw[show IV IZ (ba l 0,ba l 0+1,d.1.2.2.2.1,())=M.pure _ from M.bE ⟨h0.1,rfl,by grind,by grind⟩ _,M.aE];grind
theorem ZM{c:H.aQ}{m:List H.aU}{v:z1'}(h:(H.nV c m v).2=0):H.cu c=0/\H.cu (H.nV c m v).1=0/\(H.nV c m v).1=H.m' c (H.gG (c.2.1++m)) (H.ry c.2.2.1 v):=by
 unfold H.nV at h ⊢;split at h
 ·omega
 split at h
 ·omega
 split at h
 ·omega
 split at h
 ·omega
 rename_i bV a2 a3 a4;rw[if_neg bV,if_neg a2,if_neg a3,if_neg a4];have dt:H.cu c=0:=by omega
 have eG:H.cu (H.m' c m v)=0:=by omega
 refine⟨dt,?_,rfl⟩;have g1:H.jH c=true:=by unfold H.cu at dt;grind
 have dW:H.jH (H.m' c m v)=true:=by unfold H.cu at eG;grind
 have az:H.kL (H.gG (c.2.1++m))=false:=by
  rw[H.Ap];have:=(H.Ap (c.2.1++m)).1 (by grind);exact λa aV b ab=>this a (H.DN aV) b (H.DN ab)
 have lC:H.jH (H.m' c (H.gG (c.2.1++m)) (H.ry c.2.2.1 v))=true:=by
  unfold H.jH H.sz at g1 dW ⊢;simp only[Bool.and_eq_true,List.all_eq_true,Bool.not_eq_true',Bool.or_eq_false_iff,H.m']at g1 dW ⊢;obtain⟨⟨⟨⟨⟨⟨⟨⟨n7,z2⟩,z3⟩,z4⟩,z5⟩,aO⟩,aP⟩,bA⟩,gi⟩:=g1;obtain⟨⟨⟨⟨_,_⟩,aro⟩,ayg⟩,_⟩:=dW;simp only[Bool.or_eq_true,not_or,bG,Bool.not_eq_true]at a4;refine⟨⟨⟨⟨⟨⟨⟨⟨n7,a4.1⟩,a4.2⟩,z4⟩,z5⟩,aO⟩,λs hs=>?_⟩,λn az=>?_⟩,gi⟩
  ·rcases List.mem_append.1 (H.DN hs) with h | h
   ·exact aP s h
   ·exact aro s h
  ·have:=(List.mem_filter.1 az).2;grind
 unfold H.cu;rw[if_pos lC,if_neg (by show ¬H.kL (H.gG (c.2.1++m))=true;grind)]
theorem P3{d:aX}(au:dc d)(m:List H.aU)(v:z1'):dc (nW d m v).2:=by
 unfold nW;split
 ·exact au
 ·rename_i h;obtain⟨h1,h2,h3⟩:=ZM (c:=d.2) (m:=m) (v:=v) (by omega);exact⟨au.gv,au.yq,h2,by rw[h3];exact au.A_⟩
theorem I0{d:aX}(au:dc d){s:br}(hs:fb s):dc (kR d s).2:=by
 unfold kR;split
 ·exact au
 ·rename_i h;exact⟨hs,by grind,au.yr,au.A_⟩
theorem arp{d:aX}(au:dc d){l:z1'}(ai:l.length<=10000)(j:Nat):dc (qu j d l).2:=by
 have hc:=au.copy;obtain⟨eg,ds,ei,oi,sV,sW,sX⟩:=au.gv;obtain⟨c1,c2,c3,c4,c5,lu,n6⟩:=au.copy;unfold qu;split<;>try exact au
 ·exact P3 au _ _
 ·exact P3 au _ _
 ·exact P3 au _ _
 ·unfold na;split
  ·exact au
  split
  ·exact au
  rename_i h _;have h:cu (lV d.1.1 (ba l 0,ba l 1,ba l 2,ba l 3))=0:=by omega
  refine⟨⟨⟨eg.1,eg.2.1,by have:=hc.1.2.2.1;simp only[lV,List.length_append,List.length_cons,List.length_nil];omega,eg.2.2.2⟩,ds,ei,oi,sV,sW,sX⟩,?_,au.yr,au.A_⟩;have hs:=au.yq;unfold iW at hs ⊢;rw[if_neg (by omega)];have:mX (lV d.1.1 (ba l 0,ba l 1,ba l 2,ba l 3),d.1.2)=mX d.1:=rfl;grind
 ·unfold uD;split
  ·exact au
  ·exact I0 au ⟨eg,by grind,ei,oi,sV,sW,sX⟩
 ·exact I0 au ⟨eg,ds,ei,oi,by grind,sW,sX⟩
 ·exact I0 au ⟨eg,ds,by grind,oi,sV,λp hp=>by
   grind,sX⟩
 ·exact I0 au ⟨eg,ds,ei,by grind,sV,sW,λp hp=>by
   grind⟩
 ·unfold uE;split
  ·exact au
  ·refine⟨⟨eg,ds,ei,by grind,sV,sW,λp hp=>sX p (List.mem_of_mem_eraseIdx hp)⟩,?_,au.yr,au.A_⟩;have hs:=au.yq;unfold iW at hs ⊢;split at hs
   ·omega
   ·rename_i uQ;rw[if_neg uQ];split at hs
    ·rename_i hv;rw[if_pos];unfold mX at hv ⊢;simp only[Bool.and_eq_true,List.all_eq_true,decide_eq_true_eq]at hv ⊢;obtain⟨⟨⟨⟨⟨⟨⟨⟨c7,q2⟩,q3⟩,rq⟩,cK⟩,e8⟩,gy⟩,ib⟩,jF⟩:=hv;exact⟨⟨⟨⟨⟨⟨⟨⟨c7,q2⟩,q3⟩,rq⟩,by grind⟩,λx hx=>e8 x (List.mem_of_mem_eraseIdx hx)⟩,gy⟩,ib⟩,jF⟩
    omega
theorem ZN:∀ (s:aL) (n k:Nat),n<10 ^ k->k+s.length<=18->0<=fM s n->Go.Lib.parseUint10 n s=.ok (fM s n).toNat
 | [],n,k,_,_,_=>by rfl
 | c::s,n,k,h1,h2,h3=>by
  unfold fM at h3 ⊢;split at h3
  ·omega
  ·rename_i hc;rw[if_neg hc];simp only[Bool.or_eq_true,decide_eq_true_eq,not_or]at hc;have GJ:48<=c.toNat/\c.toNat<=57:=by omega
   have ao:(10:Nat) ^ (k+1)<=10 ^ 18:=Nat.pow_le_pow_right (by decide) (by grind);have WM:(10:Nat) ^ (k+1)=10 ^ k*10:=Nat.pow_succ ..;have e:10*(n:Int)+((c.toNat:Int) - 48)=((n*10+(c.toNat - 48):Nat):Int):=by omega
   rw[e]at h3 ⊢;unfold Go.Lib.parseUint10;rw[if_pos GJ,if_neg (by omega),if_neg (by omega)];exact ZN s _ (k+1) (by omega) (by grind) h3
theorem P4{s:aL}(h:0<=eF s):Go.Lib.atoiAll s=.ok (eF s):=by
 unfold eF at h ⊢;split at h
 ·omega
 ·rename_i ab;rw[if_neg ab];simp only[Bool.or_eq_true,decide_eq_true_eq,not_or]at ab;obtain⟨⟨h0,cZ⟩,_⟩:=ab;cases s with
  | nil=>grind
  | cons c r=>
   have hp:=ZN (c::r) 0 0 (by decide) (by omega) h;have ai:=PA (c::r) 0 0 (by decide) (by decide);have fV:(10:Int) ^ (0+(c::r).length)<=10 ^ 6:=by
    have:=Nat.pow_le_pow_right (n:=10) (by decide) (show 0+(c::r).length<=6 by omega);grind
   have au:¬(decide ((c.toNat:Int)<48)||decide ((c.toNat:Int) > 57))=true:=by
    intro hc;unfold fM at h;grind
   simp only[Bool.or_eq_true,decide_eq_true_eq,not_or]at au;unfold Go.Lib.atoiAll;simp only;rw[if_neg (by omega)];unfold Go.Lib.parseMag;grind
theorem arq{s:aL}(h:0<=eF s):sU s=eF s:=by
 unfold sU;rw[P4 h]
abbrev Ew:aJ:=⟨.str,.aw (.int .i64) .bool,λx=>x.length<=10000,qV⟩
abbrev I1:aJ:=⟨.aw .str .str,sT,λx=>x.1.length<=10000/\x.2=[32],λx=>cj x.1⟩
abbrev ars:af:=.st (.aw tI (.aw .bool .dT))
def I2:List (aL×Int×Bool)->Nat->List (aL×AK)
 | [],_=>[]
 | p::l,i=>(p.1,p.2.1,p.2.2,some (119+i))::I2 l (i+1)
def wk:List (aL×AK):=I2 kt 0
abbrev I3:aJ:=⟨.cz,.map .str ars,λ_=>True,λ_=>wk⟩
theorem art(x):M.le (am1 x) (I3.sh x):=M.bg λ_=>congrArg M.pure (show _=wk by decide +kernel)
theorem ZO(w:aL):∀ (l:List (aL×Int×Bool)) (i:Nat),((I2 l i).find? λp=>decide (w=p.1)).map (λx=>x.2)=(nX w l i).map λr=>(r.1,r.2.1,some (119+r.2.2))
 | [],_=>rfl
 | p::l,i=>by
  unfold I2 nX;rw[List.find?_cons];by_cases h:w=p.1
  ·simp[h]
  ·simp[h,ZO w l (i+1)]
theorem ZP{w:aL}:∀ {l:List (aL×Int×Bool)} {i:Nat} {r:Int×Bool×Nat},nX w l i=some r->i<=r.2.2/\r.2.2<i+l.length/\l[r.2.2 - i]?=some (w,r.1,r.2.1)
 | [],_,_,h=>by simp[nX]at h
 | p::l,i,r,h=>by
  unfold nX at h;split at h
  ·grind
  ·have:=ZP h;grind
def I4(j:Nat):Nat:=(kt.getD j ([],0,false)).2.1.toNat
def Ex(k:Nat):z1'×aX×Unit->M (aL×aX×Unit):=shD (I4 (k - 119)) (qu (k - 119))
theorem aru:∀ p∈kt,0<=p.2.1:=by decide
def I5(x:List (aL×AK)×aL×aX×Unit):M (aL×aX×Unit):=M.dv (x.1=wk/\x.2.1.length<=10000/\dc x.2.2.1) ((kc x.2.2.1 x.2.1).1,(kc x.2.2.1 x.2.1).2,())
theorem arv{l:List aL}(h:l.all (λw=>decide (0<=eF w))=true):l.map sU=l.map eF:=List.map_congr_left λw hw=>arq (by grind)
theorem ZQ{aF:Type}(r:aF)(fin:z1'->aF):∀ (l:List aL) (b:z1'),eE (λw b=>if (!decide (0<=eF w))=true then .done r else .next (b++[sU w])) fin l b=if l.all (λw=>decide (0<=eF w))=true then fin (b++l.map sU) else r
 | [],b=>by simp[eE]
 | w::l,b=>by
  unfold eE;rw[List.all_cons,List.map_cons];cases h:decide (0<=eF w) with
  | true=>
   simp only[Bool.not_true,Bool.false_eq_true,if_false,Bool.true_and];rw[ZQ r fin l,List.append_assoc];rfl
  | false=>rfl
theorem arw(x):M.le (XS I1.sh Ew.sh Ex x) (I5 x):=M.bg λh=>by
 obtain⟨arx,s,d,⟨⟩⟩:=x;obtain⟨hv,hs,au⟩:arx=wk/\s.length<=10000/\dc d:=h;subst hv;unfold XS;show _=M.pure ((kc d s).1,(kc d s).2,());rw[show I1.sh (s,[32])=M.pure (cj s) from M.bE ⟨hs,rfl⟩ _,M.aE];have ai:=uC s;rw[M.bk ⟨by decide,by grind⟩];have ar:((wk.find? λp=>decide ((cj s).getD (Int.toNat 0) []=p.1)).map λx=>x.2)=(nX ((cj s).getD 0 []) kt 0).map λr=>(r.1,r.2.1,some (119+r.2.2)):=ZO _ _ _;have hw:=bn (n:=((cj s).length:Int) - 1) (by omega) (by omega);simp only[ar,bG,hw];unfold kc Et;cases F9:nX ((cj s).getD 0 []) kt 0 with
 | none=>simp
 | some r=>
  obtain⟨k,m,j⟩:=r;obtain⟨_,aC,ao⟩:=ZP F9;simp only[Option.map_some,Option.isSome_some,Option.getD_some,Bool.not_true,Bool.false_or];by_cases ab:(decide (((cj s).length:Int) - 1<k)||decide (((cj s).length:Int) - 1 > k)&&!m)=true
  ·grind
  ·rw[if_neg ab,if_neg ab];rw[M.bk ⟨by decide,by omega,Int.le_refl _⟩];simp only[Int.toNat_natCast,List.take_length,show Int.toNat 1=1 from rfl];have u1:((cj s).drop 1).length=(cj s).length - 1:=by simp
   rw[M.fZ ((cj s).drop 1) (λi (o:z1')=>((cj s).drop 1,(((cj s).drop 1).length:Int),(i:Int),(k,m,some (119+j)),o,d,())) (λw o=>if (!decide (0<=eF w))=true then .done (.done ([63],d,())) else .next (o++[sU w])) (λo=>.next ((k,m,some (119+j)),o,d,())) (λi o=>o.length=i) [] ?_ rfl ?_ ?_]
   ·rw[ZQ,M.aE];unfold Es;by_cases aV:((cj s).drop 1).all (λw=>decide (0<=eF w))=true
    ·rw[if_pos aV,if_pos aV,M.bK,arv aV,List.nil_append];rw[M.bk]
     ·have yN:0<=k:=aru _ (List.mem_of_getElem? ao);have b4:I4 j=k.toNat:=by
       unfold I4;grind
      have cq:ed (I4 j) (((cj s).drop 1).map eF):=by
       simp only[Bool.or_eq_true,decide_eq_true_eq,not_or]at ab;refine⟨by grind,by grind,λn az=>?_⟩;obtain⟨w,hw,rfl⟩:=List.mem_map.1 az;have:=List.all_eq_true.1 aV w hw;exact⟨by grind,(aqK w).2⟩
      have ayh:Ex (119+j) (((cj s).drop 1).map eF,d,())=M.pure ((qu j d (((cj s).drop 1).map eF)).1,(qu j d (((cj s).drop 1).map eF)).2,()):=by
       unfold Ex;rw[show 119+j - 119=j by omega];exact M.bE ⟨au,cq⟩ _
      simp_all
     ·have:j<20:=by simpa [kt]using aC
      exact⟨119+j,by
       have e:∀ j:Fin 20,(119+j.val)∈[119,120,121,122,123,124,125,126,127,128,129,130,131,132,133,134,135,136,137,138]:=by decide
       exact e ⟨j,this⟩,rfl⟩
    ·rw[if_neg aV,if_neg aV];rfl
   ·rfl
   ·intro i E o ag;have hw:=bn (n:=(i:Int)+1) (by omega) (by omega);refine⟨?_,λaZ cS=>?_⟩
    ·simp only[cC E,if_true,cV E,ct E,M.be,b2,hw];rw[show Ew.sh ((cj s).drop 1)[i]=M.pure (qV ((cj s).drop 1)[i]) from M.bE (Nat.le_trans (ZF s (List.mem_of_mem_drop (List.getElem_mem E))) hs) _,M.aE];unfold qV;by_cases az:0<=eF ((cj s).drop 1)[i]
     ·simp only[az,decide_true,Bool.not_true,Bool.false_eq_true,if_false];rw[M.bk (gp (by grind))];rfl
     simp_all
    grind
   simp
theorem ZR{d:aX}(au:dc d){s:aL}(hs:s.length<=10000):dc (kc d s).2:=by
 unfold kc;split
 ·exact au
 ·rename_i j l hp;refine arp au ?_ j;unfold Et at hp;split at hp
  ·grind
  ·split at hp
   ·grind
   ·unfold Es at hp;have:=uC s;grind
abbrev sY:aJ:=⟨wc,.int .i64,λd=>fb d.1/\H.iF d.2,jO⟩
theorem ary(x):M.le (XP pB.sh H.gY.sh x) (sY.sh x):=M.bg λh=>by
 obtain⟨h1,h2⟩:fb x.1/\H.iF x.2:=h;unfold XP;rw[show pB.sh x.1=M.pure (iW x.1) from M.bE h1 _,M.aE,show H.gY.sh x.2=M.pure (H.cu x.2) from M.bE h2 _,M.j6,M.aE];show _=M.pure (jO x);unfold jO;grind
theorem arz(l:List H.aU):(H.gG l).length<=l.length:=by
 have qP:(H.gG l).map (·.1) ⊆ l.map (·.1):=by
  intro x hx;obtain⟨s,hs,rfl⟩:=List.mem_map.1 hx;exact List.mem_map_of_mem (H.DN hs)
 have:=(H.Xr l).length_le_of_subset qP;grind
theorem arA(l:z1'):(H.ry l []).length<=l.length:=by
 unfold H.ry;have az:((dJ 0 99).filter λid=>l.contains id||List.contains [] id).Nodup:=((H.ZD 0 99).imp λh=>by omega:(dJ 0 99).Nodup).filter _;refine az.length_le_of_subset λx hx=>?_;grind
theorem ZS{c:H.aQ}(h:H.cu c=0):H.nV c [] []=(H.m' c (H.gG c.2.1) (H.ry c.2.2.1 []),0):=by
 have E:=H.IP h;have g:H.jH c=true:=by unfold H.cu at h;grind
 have h2:H.cu (H.m' c [] [])=0:=by
  have:H.jH (H.m' c [] [])=true:=by
   unfold H.jH H.sz at g ⊢;simp only[Bool.and_eq_true,List.all_eq_true,Bool.not_eq_true',Bool.or_eq_false_iff,H.m']at g ⊢;grind
  unfold H.cu;rw[if_pos this];rfl
 have eR:=arz c.2.1;have pI:=arA c.2.2.1;have dM:=E.dM;have jv:=E.jv;unfold H.nV;rw[if_neg (by simp[h]),if_neg (by omega),List.append_nil,if_neg (by rw[E.cl];decide),if_neg];grind
theorem arB{d:aX}(h:dc d):hB d=(d.1,H.m' d.2 (H.gG d.2.2.1) (H.ry d.2.2.2.1 [])):=by
 unfold hB;rw[ZS h.yr]
theorem ZT{d:aX}(h:dc d):dc (hB d):=by
 have:=ZM (c:=d.2) (m:=[]) (v:=[]) (by rw[ZS h.yr]);exact⟨h.gv,h.yq,this.2.1,by rw[arB h];exact h.A_⟩
theorem P5{p:aX->Prop}{q:aL->Prop}(hp:∀ d s,p d->q s->p (kc d s).2):∀ (l:List aL) (d:aX),p d->(∀ s∈l,q s)->p (gZ d l).2
 | [],d,h,_=>h
 | s::l,d,h,bf=>P5 hp l _ (hp d s h (bf s (by simp))) λt aG=>bf t (by grind)
theorem ZU{d:aX}(h:dc d){l:List aL}(ai:∀ s∈l,s.length<=10000):dc (gZ d l).2:=P5 (p:=dc) (λd s h hs=>ZR h hs) l d h ai
def ug(x:aX×Unit):M (aX×Unit):=M.dv (dc x.1) (hB x.1,())
theorem Oe(x):M.le (XQ H.A9.sh IX.sh x) (ug x):=M.bg λh=>by
 obtain⟨d,⟨⟩⟩:=x;have h:dc d:=h;unfold XQ;rw[show H.A9.sh (d.2,[],[])=M.pure (H.nV d.2 [] []) from M.bE ⟨h.iF,by simp,by simp⟩ _,M.aE];rw[show IX.sh d.1=M.pure d.1 from M.bE h.copy _];simp only[M.iG,M.fi,M.be];rfl
abbrev ZV(x:aX×List aL):Prop:=fb x.1.1/\H.gA x.1.2/\x.2.length<2 ^ 63/\∀ s∈x.2,s.length<=10000
theorem ZW{d:aX}(h1:fb d.1)(h2:H.gA d.2)(h:jO d=0):dc d:=by
 unfold jO at h;split at h
 ·omega
 ·rename_i ab;simp only[Bool.or_eq_true,decide_eq_true_eq,not_or,ne_eq,Decidable.not_not]at ab;exact⟨h1,ab.1,ab.2,h2.2 ab.2⟩
abbrev uF:aJ:=⟨.aw wc sT,.aw sT (.aw wc (.int .i64)),ZV,λx=>we x.1 x.2⟩
theorem ZX:∀ (l:List aL) (o:List aL) (d:aX),l.foldl (λ(p:List aL×aX) s=>(p.1++[(kc p.2 s).1],(kc p.2 s).2)) (o,d)=(o++(gZ d l).1,(gZ d l).2)
 | [],o,d=>by simp[gZ]
 | s::l,o,d=>by
  rw[List.foldl_cons,ZX l];simp[gZ]
theorem arC(x):M.le (XO sY.sh ug I3.sh I5 x) (uF.sh x):=M.bg λh=>by
 obtain⟨d,l⟩:=x;obtain⟨h1,h2,h3,aR⟩:ZV (d,l):=h;unfold XO;show _=M.pure (we d l);unfold we;rw[show sY.sh d=M.pure (jO d) from M.bE ⟨h1,h2.gv⟩ _,M.aE];by_cases e:jO d=0
 ·rw[if_neg (show ¬decide (jO d≠0)=true by grind),if_neg (show ¬jO d≠0 by omega)];have au:=ZW h1 h2 e;by_cases e2:l.length > 40
  ·grind
  ·rw[if_neg (show ¬decide (Int.ofNat l.length > 40)=true by grind),if_neg e2];rw[show ug (d,())=M.pure (hB d,()) from M.bE au _,M.aE,show I3.sh ()=M.pure wk from rfl,M.aE];rw[M.fZ l (λi (p:List aL×aX)=>(wk,l,(l.length:Int),(i:Int),p.1,0,0,0,0,0,0,0,0,0,p.2,())) (λs p=>.next (p.1++[(kc p.2 s).1],(kc p.2 s).2)) (λp=>.next (p.1,0,0,0,0,0,0,0,0,0,p.2,())) (λi p=>dc p.2/\p.1.length=i) ([],hB d) ?_ ⟨ZT au,rfl⟩ ?_ ?_]
   ·rw[dP,ZX,M.aE,M.bK,M.be,List.nil_append]
   ·rfl
   ·rintro i E ⟨o,uR⟩ ⟨wI,ag⟩;have hw:=bn (n:=(i:Int)+1) (by omega) (by omega);have hs:=aR _ (List.getElem_mem E);change dc uR at wI;change o.length=i at ag;refine⟨?_,λaZ cS=>?_⟩
    ·simp only[bG,cC E,if_true,cV E,ct E,M.be,b2,hw];rw[show I5 (wk,l[i],uR,())=M.pure _ from M.bE ⟨rfl,hs,wI⟩ _,M.aE,M.bk (gp (by grind))];rfl
    ·simp only[aa.next.injEq]at cS;subst cS;exact⟨ZR wI hs,by grind⟩
   simp
 grind
end Go.Fer.W
namespace Go.Fer.W
open M (aa)
def oK:aX:=(A8,[(0,0)],[],[],[],10,30,100,500,1000,2000,300)
def ZY(arD:Unit->M br)(x:Unit):M aX:=M.bind (arD ()) λy=>M.pure (y,[(0,0)],[],[],[],10,30,100,500,1000,2000,300)
abbrev I6:aJ:=⟨.cz,wc,λ_=>True,λ_=>oK⟩
theorem arE(x):M.le (ZY IE.sh x) (I6.sh x):=M.bg λ_=>by
 unfold ZY;rw[show IE.sh ()=M.pure A8 from rfl,M.aE];rfl
def o9:List aL:=[[108,101,110,100,32,49,32,48,32,49,48,48,32,51,32,55],[98,97,99,107,32,50,32,48,32,49,55,49,32,51],[102,101,101,32,49],[119,104,101,114,101,32,51,32,49,55,49],[116,114,105,97,108,32,49,32,48,32,48,32,48],[115,116,111,99,107,32,48,32,49],[101,120,116,114,97],[100,114,111,112,32,51],[101,120,116,114,97]]
def I7:List aL:=[[111,107],[111,107],[51,48,48,32,51,48,48],[115,104,111,112],[108,105,97,114],[111,107],[49],[111,107],[48]]
theorem arF:jO oK=0:=by decide +kernel
theorem P6:(gZ (hB oK) o9).1=I7/\(gZ (hB oK) o9).2.2.2.1.length=2/\(gZ (hB oK) o9).2.1.2.2.2.1.length=3:=by decide +kernel
end Go.Fer.W
namespace Go.Fer.W
open M (aa)
open H (gp)
theorem arG(x):M.le (XN H.gY.sh pB.sh x) (sY.sh x):=M.bg λh=>by
 obtain⟨h1,h2⟩:fb x.1/\H.iF x.2:=h;unfold XN;rw[show pB.sh x.1=M.pure (iW x.1) from M.bE h1 _,M.aE,show H.gY.sh x.2=M.pure (H.cu x.2) from M.bE h2 _,M.j6,M.aE];show _=M.pure (jO x);unfold jO;grind
theorem ZZ(c:UInt8):c.1.1.1=c.toNat:=rfl
theorem Z0{n:Int}(h:0<=n)(h2:n<=255):IntKind.wrap .u8 n=n:=by
 show (if (false&&decide (n % 2 ^ 8>=(2 ^ (8 - 1):Int)))=true then n % 2 ^ 8 - 2 ^ 8 else n % 2 ^ 8)=n;grind
theorem P7{aj β aF:Type}{p:aj->Bool}{r:aF}{g:aj->β->β}{fin:β->aF}:∀ (l:List aj) (b:β),eE (λx b=>if p x=true then .done r else .next (g x b)) fin l b=if l.any p=true then r else fin (l.foldl (λb x=>g x b) b)
 | [],b=>rfl
 | x::l,b=>by
  unfold eE;rw[List.any_cons,List.foldl_cons];cases h:p x with
  | true=>rfl
  | false=>
   simp only[Bool.false_eq_true,if_false,Bool.false_or];exact P7 l (g x b)
def yx(c:UInt8):Bool:=decide ((c.toNat:Int)<48)||decide ((c.toNat:Int) > 57)
theorem arH(c:UInt8)(s:aL)(n:Int):fM (c::s) n=if yx c=true then -1 else fM s (10*n+((c.toNat:Int) - 48)):=rfl
theorem Z1{aF:Type}{r:aF}{fin:Int->aF}:∀ (s:aL) (n:Int),0<=n->eE (λc n=>if yx c=true then .done r else .next (10*n+((c.toNat:Int) - 48))) fin s n=if fM s n=-1 then r else fin (fM s n)
 | [],n,h=>by
  show fin n=if n=-1 then r else fin n
  grind
 | c::s,n,h=>by
  rw[arH];unfold eE;by_cases hc:yx c=true
  ·grind
  ·have om:=hc;unfold yx at om;simp only[Bool.or_eq_true,decide_eq_true_eq,not_or]at om;simp only[hc];exact Z1 s _ (by omega)
abbrev I8:aJ:=⟨.str,.int .i64,λ_=>True,eF⟩
theorem arI(x):M.le (Yp x) (I8.sh x):=M.bg λ_=>by
 unfold Yp;show _=M.pure (eF x);unfold eF;simp only[bG,ZZ,show Int.toNat 0=0 from rfl];rw[M.bk (λab=>⟨⟨ab,trivial⟩,⟨Int.le_refl _,by grind⟩,trivial⟩)];have e:(decide ((x.length:Int)=0)||decide ((x.length:Int) > 6)||decide ((x.length:Int) > 1)&&decide (((x.getD 0 0).toNat:Int)=48))=(decide (x.length=0)||decide (x.length > 6)||decide (x.length > 1)&&decide ((x.getD 0 0).toNat=48)):=by
  grind
 rw[e];by_cases ab:(decide (x.length=0)||decide (x.length > 6)||decide (x.length > 1)&&decide ((x.getD 0 0).toNat=48))=true
 ·grind
 ·rw[if_neg ab,if_neg ab];have cZ:x.length<=6:=by
   grind
  rw[M.fZ x (λi (n:Int)=>(x,n,(i:Int),())) (λc n=>if yx c=true then .done (.done (-1)) else .next (10*n+((c.toNat:Int) - 48))) (λn=>.next (n,())) (λi n=>0<=n/\n<10 ^ i) 0 ?_ ⟨Int.le_refl _,by decide⟩ ?_ ?_]
  ·rw[Z1 _ _ (Int.le_refl _),M.aE];by_cases au:fM x 0=-1
   ·rw[if_pos au,au];rfl
   ·rw[if_neg au];rfl
  ·rfl
  ·rintro i E n ⟨h0,h1⟩;have hw:=bn (n:=(i:Int)+1) (by omega) (by omega);have hp:(10:Int) ^ i<=10 ^ 5:=by
    have:=Nat.pow_le_pow_right (n:=10) (by decide) (show i<=5 by omega);grind
   have xt:(10:Int) ^ (i+1)=10 ^ i*10:=Int.pow_succ ..;refine⟨?_,λaZ cS=>?_⟩
   ·simp only[cC E,if_true,cV E,ct E,M.be,b2,hw];rw[M.bk (λh=>⟨⟨h,h⟩,trivial,trivial⟩)];by_cases hc:yx x[i]=true
    ·rw[if_pos hc];have om:(decide ((x[i].toNat:Int)<48)||decide ((x[i].toNat:Int) > 57))=true:=hc;simp_all
    ·rw[if_neg hc];have om:¬(decide ((x[i].toNat:Int)<48)||decide ((x[i].toNat:Int) > 57))=true:=hc;rw[if_neg om];simp only[Bool.or_eq_true,decide_eq_true_eq,not_or]at om;rw[Z0 (by omega) (by omega),bn (n:=(x[i].toNat:Int) - 48) (by omega) (by omega),bn (n:=10*n) (by omega) (by omega),bn (n:=10*n+((x[i].toNat:Int) - 48)) (by omega) (by omega)];rfl
   ·split at cS
    ·grind
    ·rename_i hc;unfold yx at hc;grind
  simp
def Ba(o:List aL)(c:UInt8):List aL:=if c=32 then o++[[]] else o.set (o.length - 1) (o.getD (o.length - 1) []++[c])
theorem P8:∀ (s:aL) (o:List aL) (w:aL),s.foldl Ba (o++[w])=o++(match cj s with | []=>[w] | v::l=>(w++v)::l)
 | [],o,w=>by simp[cj]
 | c::s,o,w=>by
  rw[List.foldl_cons];unfold cj;by_cases hc:c=32
  ·rw[if_pos hc,show Ba (o++[w]) c=o++[w]++[[]] from if_pos hc];have:=P8 s (o++[w]) [];rw[this];have ai:=uC s;grind
  ·rw[if_neg hc,show Ba (o++[w]) c=_ from if_neg hc];have e:(o++[w]).set ((o++[w]).length - 1) ((o++[w]).getD ((o++[w]).length - 1) []++[c])=o++[w++[c]]:=by
    simp
   rw[e];have:=P8 s o (w++[c]);rw[this];have ai:=uC s;cases h:cj s with
   | nil=>exact absurd ai.1 (by rw[h];decide)
   | cons v l=>simp
abbrev I9:aJ:=⟨.str,sT,λx=>x.length<=10000,cj⟩
theorem arJ(x):M.le (Yo x) (I9.sh x):=M.bg λh=>by
 change x.length<=10000 at h;unfold Yo;show _=M.pure (cj x);rw[M.fZ x (λi (o:List aL)=>(x,(i:Int),o,())) (λc o=>.next (Ba o c)) (λo=>.next (o,())) (λi o=>1<=o.length/\o.length<=i+1/\∀ w∈o,w.length<=i) [[]] ?_ ⟨by decide,by decide,by simp⟩ ?_ ?_]
 ·rw[dP,M.aE,M.bK];have:=P8 x [] [];rw[List.nil_append]at this;rw[this];have ai:=uC x;grind
 ·rfl
 ·rintro i E o ⟨h1,h2,h3⟩;have hw:=bn (n:=(i:Int)+1) (by omega) (by omega);have gl:=bn (n:=(o.length:Int) - 1) (by omega) (by omega);have e1:((o.length:Int) - 1).toNat=o.length - 1:=by omega
  have e2:((i:Int)+1).toNat=i+1:=by omega
  have arK:o.length - 1<o.length:=by omega
  have aA:o.getD (o.length - 1) []=o[o.length - 1]:=by grind
  have ayi:=h3 _ (List.getElem_mem arK);have au:(x.take (i+1)).drop i=[x[i]]:=by rw[List.drop_take,List.drop_eq_getElem_cons E,Nat.add_sub_cancel_left];rfl
  refine⟨?_,λaZ cS=>?_⟩
  ·simp only[bG,cC E,if_true,cV E,ct E,M.be,b2,hw,gl,e1,ZZ];unfold Ba;by_cases hc:x[i]=32
   ·have om:decide ((x[i].toNat:Int)=32)=true:=by simp_all
    rw[if_pos om,if_pos hc,M.bk (gp (by grind))];simp_all
   ·have om:¬decide ((x[i].toNat:Int)=32)=true:=by
     intro h;apply hc;simp only[decide_eq_true_eq]at h;exact UInt8.toNat_inj.1 (show x[i].toNat=32 by omega)
    rw[if_neg om,if_neg hc];rw[M.bk (by omega),M.bk (by omega),e2,Int.toNat_natCast,au,M.bk (gp (by grind)),M.bk (by omega)];simp_all
  ·simp only[aa.next.injEq]at cS;subst cS;unfold Ba;grind
 simp
def pD:List aL×z1'×z1':=(kt.map (·.1),kt.map (·.2.1),kt.map λp=>if p.2.2=true then -1 else p.2.1)
abbrev I_:aJ:=⟨.cz,.aw sT (.aw fm fm),λ_=>True,λ_=>pD⟩
theorem arL(x):M.le (ank x) (I_.sh x):=M.bg λ_=>congrArg M.pure (show _=pD by rfl)
def I'(k:Int)(m:Bool)(n:Nat):Bool:=decide ((n:Int)>=k)&&(decide ((if m=true then -1 else k)<(0:Int))||decide ((n:Int)<=if m=true then -1 else k))
def uG(s:aL):aL×z1'×Bool:=
 if ((cj s).drop 1).any (λw=>decide (eF w<0))=true then ([],[],false) else
 match nX ((cj s).getD 0 []) kt 0 with
 | none=>([],[],false)
 | some (k,m,_)=>((cj s).getD 0 [],((cj s).drop 1).map eF,I' k m ((cj s).drop 1).length)
theorem Z2{aF:Type}{w:aL}{g:Int->Bool->aF}{r:aF}:∀ (l:List (aL×Int×Bool)) (i:Nat),eE (λp (_:Unit)=>if decide (p.1=w)=true then .done (g p.2.1 p.2.2) else .next ()) (λ_=>r) l ()=match nX w l i with | none=>r | some q=>g q.1 q.2.1
 | [],_=>rfl
 | p::l,i=>by
  unfold eE nX;by_cases h:p.1=w
  ·simp[h]
  ·have h2:¬w=p.1:=λe=>h e.symm;simp only[h,decide_false,Bool.false_eq_true,if_false,h2];exact Z2 l (i+1)
abbrev Ja:aJ:=⟨.str,.aw .str (.aw fm .bool),λx=>x.length<=10000,uG⟩
theorem arM(x):M.le (Yn I9.sh I8.sh I_.sh x) (Ja.sh x):=M.bg λh=>by
 change x.length<=10000 at h;unfold Yn;show _=M.pure (uG x);unfold uG;rw[show I9.sh x=M.pure (cj x) from M.bE h _,M.aE];have ai:=uC x;have hx:List.length x<=10000:=h;have u1:((cj x).drop 1).length=(cj x).length - 1:=by simp
 rw[M.fZ ((cj x).drop 1) (λi (o:z1')=>(cj x,((1+i:Nat):Int),o,())) (λw o=>if decide (eF w<0)=true then .done (.done ([],[],false)) else .next (o++[eF w])) (λo=>.next (cj x,o,())) (λi o=>o.length=i) [] ?_ rfl ?_ ?_]
 ·rw[P7,M.aE];by_cases aV:((cj x).drop 1).any (λw=>decide (eF w<0))=true
  ·rw[if_pos aV,if_pos aV];rfl
  ·rw[if_neg aV,if_neg aV,M.bK,xK,List.nil_append];rw[show I_.sh ()=M.pure pD from rfl,M.aE];generalize mN:((cj x).drop 1).map eF=Bb;have az:Bb.length=((cj x).drop 1).length:=by grind
   rw[<-az];rw[M.fZ kt (λi (_:Unit)=>(cj x,pD.1,pD.2.1,pD.2.2,(i:Int),Bb,())) (λp (_:Unit)=>if decide (p.1=(cj x).getD 0 [])=true then .done (.done ((cj x).getD 0 [],Bb,I' p.2.1 p.2.2 Bb.length)) else .next ()) (λ_=>.next ()) (λ_ _=>True) () ?_ trivial ?_ ?_]
   ·rw[Z2 (g:=λk m=>aa.done ((cj x).getD 0 [],Bb,I' k m Bb.length)) kt 0,M.aE];cases nX ((cj x).getD 0 []) kt 0<;>rfl
   ·rfl
   ·intro i E _ _;have ayj:i<20:=E;have hw:=bn (n:=(i:Int)+1) (by omega) (by omega);have eR:i<pD.1.length:=E;have pI:i<pD.2.1.length:=E;have yH:i<pD.2.2.length:=E;have g1:pD.1[i]'eR=(kt[i]'E).1:=List.getElem_map ..;have dW:pD.2.1[i]'pI=(kt[i]'E).2.1:=List.getElem_map ..;have g3:pD.2.2[i]'yH=if (kt[i]'E).2.2=true then -1 else (kt[i]'E).2.1:=List.getElem_map ..
    have hp:((0:Int)<=0/\(0:Int)<((cj x).length:Int))=True:=eq_true ⟨by decide,by omega⟩;refine⟨?_,λ_ _=>trivial⟩;simp only[bG,cC eR,if_true,cV eR,cV pI,cV yH,ct eR,ct pI,ct yH,hp,M.be,b2,hw,g1,dW,g3,show Int.toNat 0=0 from rfl];by_cases hc:decide ((kt[i]'E).1=(cj x).getD 0 [])=true
    ·rw[if_pos hc,if_pos hc];unfold I';simp_all
    simp_all
   ·intro _ _;simp[pD]
 ·rfl
 ·intro i E o ag;have df:1+i<(cj x).length:=by omega
  have hw:=bn (n:=((1+i:Nat):Int)+1) (by omega) (by omega);have aA:(cj x)[1+i]=((cj x).drop 1)[i]:=by grind
  refine⟨?_,λaZ cS=>?_⟩
  ·simp only[bG,cC df,if_true,cV df,ct df,M.be,b2,hw,aA];rw[show I8.sh ((cj x).drop 1)[i]=M.pure (eF ((cj x).drop 1)[i]) from rfl,M.aE];by_cases az:decide (eF ((cj x).drop 1)[i]<0)=true
   ·simp_all
   ·rw[if_neg az,if_neg az,M.bk (gp (by grind))];rfl
  grind
 simp_all
theorem arN{s:aL}(h:s.length<=10000):Ja.sh s=M.pure (uG s):=M.bE h _
abbrev Ey:aJ:=⟨.aw sT sT,.bool,λx=>x.1.length<2 ^ 63,λx=>decide (x.1=x.2)⟩
theorem arO(a b:List aL)(h:a.length=b.length):((List.range a.length).any λi=>decide (a.getD i []≠b.getD i []))=!decide (a=b):=by
 rw[Bool.eq_iff_iff];simp only[List.any_eq_true,List.mem_range,decide_eq_true_eq,Bool.not_eq_true',decide_eq_false_iff_not];constructor
 ·grind
 ·intro ea;refine Classical.byContradiction λfo=>ea (List.ext_getElem h λi h1 h2=>?_);simp_all
theorem arP(x):M.le (Yr x) (Ey.sh x):=M.bg λh=>by
 obtain⟨a,b⟩:=x;change a.length<2 ^ 63 at h;unfold Yr;show _=M.pure (decide (a=b));by_cases ai:a.length=b.length
 ·rw[if_neg (by grind)];rw[M.dh (List.range a.length) (λi (_:Unit)=>(a,b,(i:Int),())) (λi (_:Unit)=>if decide (a.getD i []≠b.getD i [])=true then .done (.done false) else .next ()) (λ_=>.next ()) () ?_ ?_ ?_]
  ·rw[qd,arO a b ai,M.aE];cases decide (a=b)<;>rfl
  ·rfl
  ·intro i E _;have E:i<a.length:=by grind
   have ab:i<b.length:=by omega
   have hw:=bn (n:=(i:Int)+1) (by omega) (by omega);simp only[List.getElem_range,bG,cC E,if_true,ct E,ct ab,M.be,b2,hw,Int.toNat_natCast];by_cases hc:decide (a.getD i []≠b.getD i [])=true
   ·rw[if_pos hc,if_pos hc,M.aE,M.aE];rfl
   ·rw[if_neg hc,if_neg hc];rfl
  simp
 ·rw[if_pos (show decide (Int.ofNat a.length≠Int.ofNat b.length)=true by grind),show decide (a=b)=false from decide_eq_false λe=>ai (by rw[e])]
theorem arQ{a b:List aL}(h:a.length<2 ^ 63):Ey.sh (a,b)=M.pure (decide (a=b)):=M.bE h _
abbrev uH:aJ:=⟨.aw fm fm,.bool,λx=>x.1=x.2/\x.1.length<2 ^ 63,λ_=>true⟩
theorem arR(x):M.le (Yj x) (uH.sh x):=M.bg λh=>by
 obtain⟨a,b⟩:=x;obtain⟨rfl,h⟩:a=b/\a.length<2 ^ 63:=h;unfold Yj;rw[if_neg (by simp)];rw[M.dh a (λi (_:Unit)=>(a,a,(i:Int),())) (λ_ b=>.next b) (λ_=>.next ()) () ?_ ?_ ?_]
 ·rw[dP,M.aE,M.bK]
 ·rfl
 ·intro i E _;have hw:=bn (n:=(i:Int)+1) (by omega) (by omega);simp_all
 simp
theorem Ez{a:z1'}(h:a.length<2 ^ 63):uH.sh (a,a)=M.pure true:=M.bE ⟨rfl,h⟩ _
abbrev Jb:aJ:=⟨.aw H.ji H.ji,.bool,λx=>x.1=x.2/\H.iF x.1,λ_=>true⟩
theorem arS(x):M.le (Yi uH.sh x) (Jb.sh x):=M.bg λh=>by
 obtain⟨a,b⟩:=x;obtain⟨rfl,h1,h2,h3,aR⟩:a=b/\H.iF a:=h;unfold Yi;rw[Ez h3];simp only[M.j6,M.aE];rw[if_neg (by simp)];rw[M.dh a.1 (λi (_:Unit)=>((i:Int),a,a,())) (λ_ b=>.next b) (λ_=>.next (a,a,())) () ?_ ?_ ?_]
 ·rw[dP,M.aE,M.bK];rw[M.dh a.2.1 (λi (_:Unit)=>((i:Int),a,a,())) (λ_ b=>.next b) (λ_=>.next (a,a,())) () ?_ ?_ ?_]
  ·rw[dP,M.aE,M.bK];rw[M.dh a.2.2.2.1 (λi (_:Unit)=>((i:Int),a,a,())) (λ_ b=>.next b) (λ_=>.next ()) () ?_ ?_ ?_]
   ·rw[dP,M.aE,M.bK]
   ·rfl
   ·intro i E _;have hw:=bn (n:=(i:Int)+1) (by omega) (by omega);simp_all
   simp
  ·rfl
  ·intro i E _;have hw:=bn (n:=(i:Int)+1) (by omega) (by omega);simp_all
  simp
 ·rfl
 ·intro i E _;have hw:=bn (n:=(i:Int)+1) (by omega) (by omega);simp_all
 simp
abbrev Jc:aJ:=⟨.aw iV iV,.bool,λx=>x.1=x.2/\fG x.1,λ_=>true⟩
theorem arT(x):M.le (Yk uH.sh x) (Jc.sh x):=M.bg λh=>by
 obtain⟨a,b⟩:=x;obtain⟨rfl,h1,h2,h3,aR⟩:a=b/\fG a:=h;unfold Yk;rw[if_neg (by simp)];rw[M.dh a.1 (λi (_:Unit)=>((i:Int),a,a,())) (λ_ b=>.next b) (λ_=>.next (a,a,())) () ?_ ?_ ?_]
 ·rw[dP,M.aE,M.bK];rw[M.dh a.2.2.2 (λi (_:Unit)=>((i:Int),a,a,())) (λ_ b=>.next b) (λ_=>.next (a,a,())) () ?_ ?_ ?_]
  ·rw[dP,M.aE,M.bK];rw[M.dh a.2.1 (λi (_:Unit)=>((i:Int),a,a,())) (λ_ b=>.next b) (λ_=>.next ()) () ?_ ?_ ?_]
   ·rw[dP,M.aE,M.bK]
   ·rfl
   ·intro i E _;have hw:=bn (n:=(i:Int)+1) (by omega) (by omega);obtain⟨an,hs⟩:=aR _ (List.getElem_mem E);simp only[bG,cC E,if_true,cV E,ct E,M.be,b2,hw];rw[if_neg (by simp)];rw[M.dh a.2.1[i] (λj (_:Unit)=>((i:Int),a.2.1[i],a.2.1[i],(j:Int),a,a,())) (λ_ b=>.next b) (λ_=>.next ((i:Int),a,a,())) () ?_ ?_ ?_]
    ·rw[dP,M.aE,M.bK];simp_all
    ·rfl
    ·intro j aC _;have hw:=bn (n:=(j:Int)+1) (by omega) (by omega);have bf:uH.sh (a.2.1[i][j].2.1,a.2.1[i][j].2.1)=M.pure true:=Ez (hs _ (List.getElem_mem aC));simp_all
    simp
   simp
  ·rfl
  ·intro i E _;have hw:=bn (n:=(i:Int)+1) (by omega) (by omega);simp_all
  simp
 ·rfl
 ·intro i E _;have hw:=bn (n:=(i:Int)+1) (by omega) (by omega);simp_all
 simp
abbrev EA:aJ:=⟨.aw wc wc,.bool,λx=>x.1=x.2/\fb x.1.1/\H.iF x.1.2,λ_=>true⟩
theorem arU(x):M.le (Yh Jb.sh Jc.sh uH.sh x) (EA.sh x):=M.bg λh=>by
 obtain⟨a,b⟩:=x;obtain⟨rfl,⟨h1,h2,h3,aR,bw,cZ,fN⟩,hc⟩:a=b/\fb a.1/\H.iF a.2:=h;unfold Yh;rw[show Jb.sh (a.2,a.2)=M.pure true from M.bE ⟨rfl,hc⟩ _,show Jc.sh (a.1.1,a.1.1)=M.pure true from M.bE ⟨rfl,h1⟩ _,Ez h2];simp only[M.j6,M.aE];rw[if_neg (by simp)];rw[M.dh a.1.2.2.1 (λi (_:Unit)=>((i:Int),a.1,a.1,())) (λ_ b=>.next b) (λ_=>.next (a.1,a.1,())) () ?_ ?_ ?_]
 ·rw[dP,M.aE,M.bK];rw[M.dh a.1.2.2.2.1 (λi (_:Unit)=>((i:Int),a.1,a.1,())) (λ_ b=>.next b) (λ_=>.next (a.1,a.1,())) () ?_ ?_ ?_]
  ·rw[dP,M.aE,M.bK];rw[M.dh a.1.2.2.2.2.1 (λi (_:Unit)=>((i:Int),a.1,a.1,())) (λ_ b=>.next b) (λ_=>.next ()) () ?_ ?_ ?_]
   ·rw[dP,M.aE,M.bK]
   ·rfl
   ·intro i E _;have hw:=bn (n:=(i:Int)+1) (by omega) (by omega);simp_all
   simp
  ·rfl
  ·intro i E _;have hw:=bn (n:=(i:Int)+1) (by omega) (by omega);have bf:uH.sh (a.1.2.2.2.1[i].1,a.1.2.2.2.1[i].1)=M.pure true:=Ez (fN _ (List.getElem_mem E));simp_all
  simp
 ·rfl
 ·intro i E _;have hw:=bn (n:=(i:Int)+1) (by omega) (by omega);have bf:uH.sh (a.1.2.2.1[i].2.2.2.2,a.1.2.2.1[i].2.2.2.2)=M.pure true:=Ez (cZ _ (List.getElem_mem E));simp_all
 simp
theorem arV{d:aX}(h:dc d):EA.sh (d,d)=M.pure true:=M.bE ⟨rfl,h.gv,h.iF⟩ _
abbrev EB:Type:=Int×Int×Int×Int
def P9(s:aL)(c:EB):EB:=
 if (!(uG s).2.2)=true then c else if decide ((uG s).1=[119,105,115,104])=true then (IntKind.wrap .i64 (c.1+1),c.2)
 else if decide ((uG s).1=[112,105,101,99,101])=true then (c.1,IntKind.wrap .i64 (c.2.1+1),c.2.2.1,IntKind.wrap .i64 (c.2.2.2+IntKind.wrap .i64 (((uG s).2.1.length:Int) - 4)))
 else if decide ((uG s).1=[99,111,109,101,115])=true then (c.1,c.2.1,IntKind.wrap .i64 (c.2.2.1+1),c.2.2.2) else c
def Z3(d:aX):EB:=((d.1.2.2.2.1.length:Int),(d.1.2.2.1.length:Int),(d.1.2.2.2.2.1.length:Int),d.1.2.2.1.foldl (λn p=>IntKind.wrap .i64 (n+(p.2.2.2.2.length:Int))) 0)
def arW(c:EB):Bool:=decide (c.1 > 3)||decide (c.2.1 > 4)||decide (c.2.2.1 > 3)||decide (c.2.2.2 > 4)
def uI(d:aX)(l:List aL):Bool:=
 if (uB d.1||H.lP d.2||decide ((l.length:Int) > 60))=true then true else if (l.any λs=>decide ((s.length:Int) > 80))=true then true
 else decide (jO d=0)&&arW (l.foldl (λc s=>P9 s c) (Z3 d))
abbrev Jd(x:aX×List aL):Prop:=fb x.1.1/\H.iF x.1.2/\x.2.length<2 ^ 63
abbrev Je:aJ:=⟨.aw wc sT,.bool,Jd,λx=>uI x.1 x.2⟩
theorem arX(x):M.le (Ym sY.sh ID.sh H.vM.sh Ja.sh x) (Je.sh x):=M.bg λh=>by
 obtain⟨d,l⟩:=x;obtain⟨h1,h2,h3⟩:Jd (d,l):=h;have iX:d.1.2.2.1.length<2 ^ 63:=h1.2.2.1;change l.length<2 ^ 63 at h3;unfold Ym;show _=M.pure (uI d l);unfold uI;rw[show ID.sh d.1=M.pure (uB d.1) from M.bE h1 _,M.aE,show H.vM.sh d.2=M.pure (H.lP d.2) from M.bE h2 _,M.j6,M.aE];have e:(uB d.1||(if (!uB d.1)=true then H.lP d.2 else false)||decide (Int.ofNat l.length > 60))=(uB d.1||H.lP d.2||decide ((l.length:Int) > 60)):=by grind
 rw[e];by_cases ar:(uB d.1||H.lP d.2||decide ((l.length:Int) > 60))=true
 ·grind
 ·rw[if_neg ar,if_neg ar];rw[M.dh d.1.2.2.1 (λi (n:Int)=>(l,(d.1.2.2.2.1.length:Int),(d.1.2.2.1.length:Int),(d.1.2.2.2.2.1.length:Int),n,(i:Int),d,())) (λp n=>.next (IntKind.wrap .i64 (n+(p.2.2.2.2.length:Int)))) (λn=>.next (l,(d.1.2.2.2.1.length:Int),(d.1.2.2.1.length:Int),(d.1.2.2.2.2.1.length:Int),n,d,())) 0 ?_ ?_ ?_]
  ·rw[dP,M.aE,M.bK];rw[M.dh l (λi (c:EB)=>(l,c.1,c.2.1,c.2.2.1,c.2.2.2,(i:Int),d,())) (λs c=>if decide ((s.length:Int) > 80)=true then .done (.done true) else .next (P9 s c)) (λc=>.next (c.1,c.2.1,c.2.2.1,c.2.2.2,d,())) (Z3 d) ?_ ?_ ?_]
   ·rw[P7,M.aE];by_cases aV:(l.any λs=>decide ((s.length:Int) > 80))=true
    ·simp_all
    ·rw[if_neg aV,if_neg aV,M.bK];rw[show sY.sh d=M.pure (jO d) from M.bE ⟨h1,h2⟩ _,M.aE];rfl
   ·rfl
   ·intro i E c;have hw:=bn (n:=(i:Int)+1) (by omega) (by omega);simp only[Prod.cK,Prod.e8,Prod.gy,bG,cC E,if_true,cV E,ct E,M.be,b2];by_cases hc:decide ((l[i].length:Int) > 80)=true
    ·simp_all
    ·rw[if_neg hc,if_neg hc];rw[arN (by grind),M.aE];unfold P9;split
     ·simp_all
     ·split
      ·simp_all
      ·split
       ·simp_all
       ·split
        ·rw[M.aE,M.bK];simp only[hw];rfl
        ·rw[M.aE,M.bK];simp only[hw];rfl
   simp
  ·rfl
  ·intro i E n;have hw:=bn (n:=(i:Int)+1) (by omega) (by omega);simp_all
  simp
abbrev EC:aJ:=⟨.aw wc (.aw sT (.int .i64)),.bool,λx=>Jd (x.1,x.2.1),λx=>!uI x.1 x.2.1&&decide (jO x.1=0)&&decide ((x.2.1.length:Int)<=x.2.2)⟩
theorem arY(x):M.le (Yl Je.sh sY.sh x) (EC.sh x):=M.bg λh=>by
 obtain⟨d,l,n⟩:=x;obtain⟨h1,h2,h3⟩:Jd (d,l):=h;unfold Yl;rw[show Je.sh (d,l)=M.pure (uI d l) from M.bE ⟨h1,h2,h3⟩ _,M.aE,show sY.sh d=M.pure (jO d) from M.bE ⟨h1,h2⟩ _,M.j6,M.aE];grind
theorem arZ{d:aX}{l:List aL}{n:Int}(h1:fb d.1)(h2:H.iF d.2)(h:(!uI d l&&decide (jO d=0)&&decide ((l.length:Int)<=n))=true):dc d/\(l.length:Int)<=n/\∀ s∈l,s.length<=80:=by
 simp only[Bool.and_eq_true,Bool.not_eq_true',decide_eq_true_eq]at h;obtain⟨⟨ar,he⟩,az⟩:=h;unfold uI at ar;split at ar
 ·grind
 ·rename_i aV;split at ar
  ·grind
  ·rename_i ab;simp only[Bool.or_eq_true,not_or,Bool.not_eq_true]at aV;refine⟨ZW h1 (H.amW aV.1.2) he,az,λs hs=>?_⟩;grind
theorem ar0:fb oK.1/\H.iF oK.2:=⟨aql,by decide,by decide,by decide,by decide⟩
theorem ar1:H.gA oK.2:=⟨⟨by decide,by decide,by decide,by decide⟩,λ_=>by decide +kernel⟩
abbrev ED:aJ:=⟨.cz,.bool,λ_=>True,λ_=>true⟩
theorem ar2:we oK o9=(I7,(gZ (hB oK) o9).2,0):=by
 unfold we;rw[if_neg (by rw[arF];decide),if_neg (by decide),P6.1]
theorem ar3(x):M.le (Yq uF.sh Ey.sh I6.sh x) (ED.sh x):=M.bg λ_=>by
 unfold Yq;rw[show I6.sh ()=M.pure oK from rfl,M.aE];show M.bind (uF.sh (oK,o9)) _=M.pure true;rw[show uF.sh (oK,o9)=M.pure (we oK o9) from M.bE ⟨ar0.1,ar1,by decide,by decide⟩ _,M.aE,ar2];show M.bind (b1 (decide ((0:Int)=0)) (Ey.sh (I7,I7)) false) _=_;rw[arQ (by decide),M.j6,M.aE];simp only[bG,P6.2.1,P6.2.2];simp
theorem Z4:ED.sh ()=M.pure true:=rfl
theorem Z5{d:aX}(au:dc d){l:List aL}(ayk:l.length<=40)(ai:∀ s∈l,s.length<=10000):uF.sh (d,l)=M.pure ((gZ (hB d) l).1,(gZ (hB d) l).2,0):=by
 have e:uF.sh (d,l)=M.pure (we d l):=M.bE ⟨au.gv,au.gA,by show l.length<2 ^ 63;omega,ai⟩ _;rw[e];unfold we;rw[if_neg (by rw[au.aqO];decide),if_neg (by omega)]
theorem GF{d:aX}{l:List aL}{n:Int}(h1:fb d.1)(h2:H.iF d.2)(h3:l.length<2 ^ 63):EC.sh (d,l,n)=M.pure (!uI d l&&decide (jO d=0)&&decide ((l.length:Int)<=n)):=M.bE ⟨h1,h2,h3⟩ _
end Go.Fer.W
namespace Go.Proofs
open Go.Shelf
theorem cm{P:Program}{k:Nat}{f g:Func}(h:P.funcs[k]?=some f)(e:f=g:=by kernel_rfl):P.funcs[k]?=some g:=h.trans (congrArg some e)
open Tryz
def Tryz.Z6:Go.Shelf.Ren:=⟨fun | 156=>258 | 165=>318 | 166=>319 | 169=>320 | 240=>358 | 241=>359 | 276=>386 | 277=>387 | n=>n,fun | 31=>48 | 9=>9 | 3=>3 | 4=>4 | 0=>0 | 20=>20 | 72=>345 | 76=>267 | 70=>343 | 37=>171 | 75=>266 | 127=>380 | 164=>405 | 5=>5 | 80=>347 | n=>n,fun | n=>n⟩
theorem Tryz.Z7 : Go.Proofs.Lays.n156 Tryz.prog Tryz.Z6 := {
  mixed:=by kernel_rfl
  f156:=cm func258
  f165:=cm func318
  f166:=cm func319
  f169:=cm func320
  f240:=cm func358
  f241:=cm func359
  f276:=cm func386
  f277:=cm func387
  t0:=underlying0
  a0:=isAgg0
  z0:=sizeOf0
  v0:=zeroValue0
  t3:=underlying3
  a3:=isAgg3
  z3:=sizeOf3
  v3:=zeroValue3
  t4:=underlying4
  a4:=isAgg4
  z4:=sizeOf4
  v4:=zeroValue4
  t9:=underlying9
  a9:=isAgg9
  z9:=sizeOf9
  v9:=zeroValue9
  t20:=underlying20
  a20:=isAgg20
  z20:=sizeOf20
  v20:=zeroValue20
  t31:=underlying48
  a31:=isAgg48
  z31:=sizeOf48
  v31:=zeroValue48
  t37:=underlying171
  a37:=isAgg171
  z37:=sizeOf171
  v37:=zeroValue171
  t70:=underlying343
  a70:=isAgg343
  z70:=sizeOf343
  v70:=zeroValue343
  t72:=underlying345
  a72:=isAgg345
  z72:=sizeOf345
  v72:=zeroValue345
  t75:=underlying266
  a75:=isAgg266
  z75:=sizeOf266
  v75:=zeroValue266
  t76:=underlying267
  a76:=isAgg267
  z76:=sizeOf267
  v76:=zeroValue267
  t127:=underlying380
  a127:=isAgg380
  z127:=sizeOf380
  v127:=zeroValue380
  t164:=underlying405
  a164:=isAgg405
  z164:=sizeOf405
  v164:=zeroValue405 }
theorem Tryz.Z8 : Builder.Extra Tryz.prog Tryz.Z6 := {
  sizeBuilder:=by kernel_rfl
  liesBuilder:=by kernel_rfl
  t5:=underlying5
  a5:=isAgg5
  z5:=sizeOf5
  v5:=zeroValue5
  infoByte:=by kernel_rfl
  cellsByte:=by kernel_rfl
  sizeByte:=by kernel_rfl
  neB5:=by decide }
def Tryz.ar4:Go.Shelf.Ren:=⟨fun | 171=>204 | 243=>264 | 246=>330 | 283=>368 | 284=>369 | 285=>370 | 286=>371 | 129=>291 | 317=>392 | 318=>393 | 319=>394 | 320=>395 | 337=>399 | 338=>400 | n=>n,fun | 3=>3 | 9=>9 | 2=>2 | 4=>4 | 171=>386 | 0=>0 | 53=>285 | 37=>171 | 5=>5 | 173=>388 | 212=>418 | 51=>282 | 20=>20 | 213=>419 | 46=>228 | 232=>423 | 233=>424 | n=>n,fun | 17=>5 | 18=>6 | 19=>7 | n=>n⟩
theorem Tryz.Z9 : Go.Proofs.LaysM.n171 Tryz.prog Tryz.ar4 := {
  mixed:=by kernel_rfl
  f129:=cm func291
  f171:=cm func204
  f243:=cm func264
  f246:=cm func330
  f283:=cm func368
  f284:=cm func369
  f285:=cm func370
  f286:=cm func371
  f317:=cm func392
  f318:=cm func393
  f319:=cm func394
  f320:=cm func395
  f337:=cm func399
  f338:=cm func400
  t0:=underlying0
  a0:=isAgg0
  z0:=sizeOf0
  v0:=zeroValue0
  t2:=underlying2
  a2:=isAgg2
  z2:=sizeOf2
  v2:=zeroValue2
  t3:=underlying3
  a3:=isAgg3
  z3:=sizeOf3
  v3:=zeroValue3
  t4:=underlying4
  a4:=isAgg4
  z4:=sizeOf4
  v4:=zeroValue4
  t5:=underlying5
  a5:=isAgg5
  z5:=sizeOf5
  v5:=zeroValue5
  t9:=underlying9
  a9:=isAgg9
  z9:=sizeOf9
  v9:=zeroValue9
  t20:=underlying20
  a20:=isAgg20
  z20:=sizeOf20
  v20:=zeroValue20
  t37:=underlying171
  a37:=isAgg171
  z37:=sizeOf171
  v37:=zeroValue171
  t46:=underlying228
  a46:=isAgg228
  z46:=sizeOf228
  v46:=zeroValue228
  t51:=underlying282
  a51:=isAgg282
  z51:=sizeOf282
  v51:=zeroValue282
  t53:=underlying285
  a53:=isAgg285
  z53:=sizeOf285
  v53:=zeroValue285
  t171:=underlying386
  a171:=isAgg386
  z171:=sizeOf386
  v171:=zeroValue386
  t173:=underlying388
  a173:=isAgg388
  z173:=sizeOf388
  v173:=zeroValue388
  t212:=underlying418
  a212:=isAgg418
  z212:=sizeOf418
  v212:=zeroValue418
  t213:=underlying419
  a213:=isAgg419
  z213:=sizeOf419
  t232:=underlying423
  a232:=isAgg423
  z232:=sizeOf423
  v232:=zeroValue423
  t233:=underlying424
  a233:=isAgg424
  z233:=sizeOf424
  v233:=zeroValue424
  g17:=by kernel_rfl
  g18:=by kernel_rfl
  g19:=by kernel_rfl
  i0:=by kernel_rfl
  i2:=by kernel_rfl
  i3:=by kernel_rfl
  i4:=by kernel_rfl
  i5:=by kernel_rfl
  i9:=by kernel_rfl
  i20:=by kernel_rfl
  i37:=by kernel_rfl
  i46:=by kernel_rfl
  i51:=by kernel_rfl
  i53:=by kernel_rfl
  i171:=by kernel_rfl
  i173:=by kernel_rfl
  i212:=by kernel_rfl
  i232:=by kernel_rfl
  i233:=by kernel_rfl
  m17:=by kernel_rfl
  m18:=by kernel_rfl
  m19:=by kernel_rfl }
def Tryz.ar5:Go.Shelf.Ren:=⟨fun | 172=>203 | 244=>262 | 245=>263 | 247=>325 | 279=>326 | 280=>327 | 281=>328 | 282=>329 | 287=>365 | 316=>366 | 171=>204 | 205=>367 | 321=>390 | 322=>391 | 243=>264 | 246=>330 | 283=>368 | 284=>369 | 285=>370 | 286=>371 | 129=>291 | 317=>392 | 318=>393 | 319=>394 | 320=>395 | 337=>399 | 338=>400 | n=>n,fun | 9=>9 | 3=>3 | 75=>266 | 76=>267 | 4=>4 | 5=>5 | 167=>351 | 37=>171 | 0=>0 | 85=>352 | 2=>2 | 168=>354 | 53=>285 | 175=>381 | 46=>228 | 210=>384 | 127=>380 | 145=>416 | 143=>414 | 21=>21 | 171=>386 | 173=>388 | 212=>418 | 51=>282 | 20=>20 | 213=>419 | 232=>423 | 233=>424 | 80=>347 | n=>n,fun | 15=>1 | 16=>2 | 17=>5 | 18=>6 | 19=>7 | n=>n⟩
theorem Tryz.P_ : Go.Proofs.LaysC.n172 Tryz.prog Tryz.ar5 := {
  mixed:=by kernel_rfl
  f129:=cm func291
  f171:=cm func204
  f172:=cm func203
  f205:=cm func367
  f243:=cm func264
  f244:=cm func262
  f245:=cm func263
  f246:=cm func330
  f247:=cm func325
  f279:=cm func326
  f280:=cm func327
  f281:=cm func328
  f282:=cm func329
  f283:=cm func368
  f284:=cm func369
  f285:=cm func370
  f286:=cm func371
  f287:=cm func365
  f316:=cm func366
  f317:=cm func392
  f318:=cm func393
  f319:=cm func394
  f320:=cm func395
  f321:=cm func390
  f322:=cm func391
  f337:=cm func399
  f338:=cm func400
  t0:=underlying0
  a0:=isAgg0
  z0:=sizeOf0
  v0:=zeroValue0
  t2:=underlying2
  a2:=isAgg2
  z2:=sizeOf2
  v2:=zeroValue2
  t3:=underlying3
  a3:=isAgg3
  z3:=sizeOf3
  v3:=zeroValue3
  t4:=underlying4
  a4:=isAgg4
  z4:=sizeOf4
  v4:=zeroValue4
  t5:=underlying5
  a5:=isAgg5
  z5:=sizeOf5
  v5:=zeroValue5
  t9:=underlying9
  a9:=isAgg9
  z9:=sizeOf9
  v9:=zeroValue9
  t20:=underlying20
  a20:=isAgg20
  z20:=sizeOf20
  v20:=zeroValue20
  t21:=underlying21
  a21:=isAgg21
  z21:=sizeOf21
  v21:=zeroValue21
  t37:=underlying171
  a37:=isAgg171
  z37:=sizeOf171
  v37:=zeroValue171
  t46:=underlying228
  a46:=isAgg228
  z46:=sizeOf228
  v46:=zeroValue228
  t51:=underlying282
  a51:=isAgg282
  z51:=sizeOf282
  v51:=zeroValue282
  t53:=underlying285
  a53:=isAgg285
  z53:=sizeOf285
  v53:=zeroValue285
  t75:=underlying266
  a75:=isAgg266
  z75:=sizeOf266
  v75:=zeroValue266
  t76:=underlying267
  a76:=isAgg267
  z76:=sizeOf267
  v76:=zeroValue267
  t85:=underlying352
  a85:=isAgg352
  z85:=sizeOf352
  v85:=zeroValue352
  t127:=underlying380
  a127:=isAgg380
  z127:=sizeOf380
  v127:=zeroValue380
  t143:=underlying414
  a143:=isAgg414
  z143:=sizeOf414
  v143:=zeroValue414
  t145:=underlying416
  a145:=isAgg416
  z145:=sizeOf416
  v145:=zeroValue416
  t167:=underlying351
  a167:=isAgg351
  z167:=sizeOf351
  v167:=zeroValue351
  t168:=underlying354
  a168:=isAgg354
  z168:=sizeOf354
  v168:=zeroValue354
  t171:=underlying386
  a171:=isAgg386
  z171:=sizeOf386
  v171:=zeroValue386
  t173:=underlying388
  a173:=isAgg388
  z173:=sizeOf388
  v173:=zeroValue388
  t175:=underlying381
  a175:=isAgg381
  z175:=sizeOf381
  v175:=zeroValue381
  t210:=underlying384
  a210:=isAgg384
  z210:=sizeOf384
  v210:=zeroValue384
  t212:=underlying418
  a212:=isAgg418
  z212:=sizeOf418
  v212:=zeroValue418
  t213:=underlying419
  a213:=isAgg419
  z213:=sizeOf419
  t232:=underlying423
  a232:=isAgg423
  z232:=sizeOf423
  v232:=zeroValue423
  t233:=underlying424
  a233:=isAgg424
  z233:=sizeOf424
  v233:=zeroValue424
  g15:=by kernel_rfl
  g16:=by kernel_rfl
  g17:=by kernel_rfl
  g18:=by kernel_rfl
  g19:=by kernel_rfl
  t80:=underlying347
  a80:=isAgg347
  z80:=sizeOf347
  v80:=zeroValue347
  i0:=by kernel_rfl
  i2:=by kernel_rfl
  i3:=by kernel_rfl
  i4:=by kernel_rfl
  i5:=by kernel_rfl
  i9:=by kernel_rfl
  i20:=by kernel_rfl
  i21:=by kernel_rfl
  i37:=by kernel_rfl
  i46:=by kernel_rfl
  i51:=by kernel_rfl
  i53:=by kernel_rfl
  i75:=by kernel_rfl
  i76:=by kernel_rfl
  i80:=by kernel_rfl
  i85:=by kernel_rfl
  i127:=by kernel_rfl
  i143:=by kernel_rfl
  i145:=by kernel_rfl
  i167:=by kernel_rfl
  i168:=by kernel_rfl
  i171:=by kernel_rfl
  i173:=by kernel_rfl
  i175:=by kernel_rfl
  i210:=by kernel_rfl
  i212:=by kernel_rfl
  i232:=by kernel_rfl
  i233:=by kernel_rfl
  m15:=by kernel_rfl
  m16:=by kernel_rfl
  m17:=by kernel_rfl
  m18:=by kernel_rfl
  m19:=by kernel_rfl
  c0:=by kernel_rfl
  c2:=by kernel_rfl
  c3:=by kernel_rfl
  c4:=by kernel_rfl
  c5:=by kernel_rfl
  c9:=by kernel_rfl
  c20:=by kernel_rfl
  c21:=by kernel_rfl
  c37:=by kernel_rfl
  c46:=by kernel_rfl
  c51:=by kernel_rfl
  c53:=by kernel_rfl
  c75:=by kernel_rfl
  c76:=by kernel_rfl
  c80:=by kernel_rfl
  c85:=by kernel_rfl
  c127:=by kernel_rfl
  c143:=by kernel_rfl
  c145:=by kernel_rfl
  c167:=by kernel_rfl
  c168:=by kernel_rfl
  c171:=by kernel_rfl
  c173:=by kernel_rfl
  c175:=by kernel_rfl
  c210:=by kernel_rfl
  c212:=by kernel_rfl
  c213:=by kernel_rfl
  c232:=by kernel_rfl
  c233:=by kernel_rfl }
open Go.RowKit in
theorem Tryz.strconv_Atoi_ok(s:ByteArray)(za:s.size<=9223372036854775806)(v:Int)(h:Lib.atoiAll s.data.toList=.ok v)(w:World) :
  Calls Tryz.prog 203 #[.string s] w λe w'=>e=.returned (.tuple #[.int .i64 v,.nilIface])/\(w'=w\/∃ t,w'=Lib.bytesWorld w 5 t):=Any.strconv_Atoi_ok Tryz.P_ s za v h w
open Go.RowKit in
theorem Tryz.strconv_Atoi_syntax(s:ByteArray)(rS:s.size<=281474976710656)(h:Lib.atoiAll s.data.toList=Lib.atoiAll [])(hZ:Value)(w:World)(hv:w.cell? ⟨1,0,none⟩=some hZ)(pq:hZ=.nilIface\/∃ te pe,hZ=.iface te pe) :
  Calls Tryz.prog 203 #[.string s] w λe w'=>∃ N,e=.returned (.tuple #[.int .i64 (0),.iface 354 (.pointer (some ⟨N,0,none⟩))])/\w.heap.size<=N/\w'.heap[N]?=some (.cells #[.string ⟨#[65,116,111,105]⟩,.string s,hZ] 384 (0,0))/\Below w.heap.size w w':=Any.strconv_Atoi_syntax Tryz.P_ s rS h hZ w hv pq
open Go.RowKit in
theorem Tryz.strconv_Atoi_range(s:ByteArray)(rS:s.size<=281474976710656)(h:Lib.atoiAll s.data.toList=.range)(hZ:Value)(w:World)(hv:w.cell? ⟨2,0,none⟩=some hZ)(pq:hZ=.nilIface\/∃ te pe,hZ=.iface te pe) :
  Calls Tryz.prog 203 #[.string s] w λe w'=>∃ N,e=.returned (.tuple #[.int .i64 (Lib.atoiSat s.data.toList),.iface 354 (.pointer (some ⟨N,0,none⟩))])/\w.heap.size<=N/\w'.heap[N]?=some (.cells #[.string ⟨#[65,116,111,105]⟩,.string s,hZ] 384 (0,0))/\Below w.heap.size w w':=Any.strconv_Atoi_range Tryz.P_ s rS h hZ w hv pq
def Tryz.ar6:Go.Shelf.Ren:=⟨fun | 146=>139 | 221=>202 | 268=>259 | 138=>260 | 143=>261 | 195=>321 | 197=>322 | 218=>323 | 219=>324 | 260=>360 | 217=>361 | 225=>362 | 224=>363 | 267=>364 | 266=>388 | 314=>389 | n=>n,fun | 9=>9 | 31=>48 | 3=>3 | 4=>4 | 0=>0 | 105=>348 | 21=>21 | 5=>5 | 46=>228 | 119=>408 | 139=>411 | 138=>410 | 146=>283 | 51=>282 | n=>n,fun | 1=>0 | 3=>3 | 4=>4 | n=>n⟩
theorem Tryz.ar7 : Go.Proofs.Lays.n146 Tryz.prog Tryz.ar6 := {
  mixed:=by kernel_rfl
  f138:=cm func260
  f143:=cm func261
  f146:=cm func139
  f195:=cm func321
  f197:=cm func322
  f217:=cm func361
  f218:=cm func323
  f219:=cm func324
  f221:=cm func202
  f224:=cm func363
  f225:=cm func362
  f260:=cm func360
  f266:=cm func388
  f267:=cm func364
  f268:=cm func259
  f314:=cm func389
  t0:=underlying0
  a0:=isAgg0
  z0:=sizeOf0
  v0:=zeroValue0
  t3:=underlying3
  a3:=isAgg3
  z3:=sizeOf3
  v3:=zeroValue3
  t4:=underlying4
  a4:=isAgg4
  z4:=sizeOf4
  v4:=zeroValue4
  t5:=underlying5
  a5:=isAgg5
  z5:=sizeOf5
  v5:=zeroValue5
  t9:=underlying9
  a9:=isAgg9
  z9:=sizeOf9
  v9:=zeroValue9
  t21:=underlying21
  a21:=isAgg21
  z21:=sizeOf21
  v21:=zeroValue21
  t31:=underlying48
  a31:=isAgg48
  z31:=sizeOf48
  v31:=zeroValue48
  t46:=underlying228
  a46:=isAgg228
  z46:=sizeOf228
  v46:=zeroValue228
  t51:=underlying282
  a51:=isAgg282
  z51:=sizeOf282
  v51:=zeroValue282
  t105:=underlying348
  a105:=isAgg348
  z105:=sizeOf348
  v105:=zeroValue348
  t119:=underlying408
  a119:=isAgg408
  z119:=sizeOf408
  t138:=underlying410
  a138:=isAgg410
  z138:=sizeOf410
  v138:=zeroValue410
  t139:=underlying411
  a139:=isAgg411
  z139:=sizeOf411
  v139:=zeroValue411
  t146:=underlying283
  a146:=isAgg283
  z146:=sizeOf283
  v146:=zeroValue283
  g1:=by kernel_rfl
  g3:=by kernel_rfl
  g4:=by kernel_rfl }
def Tryz.ar8:Go.Shelf.Ren:=⟨fun | 189=>161 | 125=>215 | 257=>214 | 128=>290 | 129=>291 | 294=>281 | 295=>282 | 296=>283 | 297=>284 | 298=>285 | 299=>286 | 216=>287 | 300=>288 | 301=>289 | 328=>340 | 329=>341 | 330=>342 | 331=>343 | 332=>344 | 215=>339 | 343=>383 | n=>n,fun | 28=>27 | 3=>3 | 46=>228 | 0=>0 | 51=>282 | 53=>285 | 4=>4 | 183=>314 | 182=>313 | 131=>193 | 5=>5 | 9=>9 | 218=>359 | 222=>363 | 228=>398 | 229=>331 | n=>n,fun | n=>n⟩
theorem Tryz.Z_ : Go.Proofs.Lays.n189 Tryz.prog Tryz.ar8 := {
  mixed:=by kernel_rfl
  f125:=cm func215
  f128:=cm func290
  f129:=cm func291
  f189:=cm func161
  f215:=cm func339
  f216:=cm func287
  f257:=cm func214
  f294:=cm func281
  f295:=cm func282
  f296:=cm func283
  f297:=cm func284
  f298:=cm func285
  f299:=cm func286
  f300:=cm func288
  f301:=cm func289
  f328:=cm func340
  f329:=cm func341
  f330:=cm func342
  f331:=cm func343
  f332:=cm func344
  f343:=cm func383
  t0:=underlying0
  a0:=isAgg0
  z0:=sizeOf0
  v0:=zeroValue0
  t3:=underlying3
  a3:=isAgg3
  z3:=sizeOf3
  v3:=zeroValue3
  t4:=underlying4
  a4:=isAgg4
  z4:=sizeOf4
  v4:=zeroValue4
  t5:=underlying5
  a5:=isAgg5
  z5:=sizeOf5
  v5:=zeroValue5
  t9:=underlying9
  a9:=isAgg9
  z9:=sizeOf9
  v9:=zeroValue9
  t28:=underlying27
  a28:=isAgg27
  z28:=sizeOf27
  v28:=zeroValue27
  t46:=underlying228
  a46:=isAgg228
  z46:=sizeOf228
  v46:=zeroValue228
  t51:=underlying282
  a51:=isAgg282
  z51:=sizeOf282
  v51:=zeroValue282
  t53:=underlying285
  a53:=isAgg285
  z53:=sizeOf285
  v53:=zeroValue285
  t131:=underlying193
  a131:=isAgg193
  z131:=sizeOf193
  v131:=zeroValue193
  t182:=underlying313
  a182:=isAgg313
  z182:=sizeOf313
  v182:=zeroValue313
  t183:=underlying314
  a183:=isAgg314
  z183:=sizeOf314
  v183:=zeroValue314
  t218:=underlying359
  a218:=isAgg359
  z218:=sizeOf359
  v218:=zeroValue359
  t222:=underlying363
  a222:=isAgg363
  z222:=sizeOf363
  v222:=zeroValue363
  t228:=underlying398
  a228:=isAgg398
  z228:=sizeOf398
  v228:=zeroValue398
  t229:=underlying331
  a229:=isAgg331
  z229:=sizeOf331
  v229:=zeroValue331 }
def Tryz.ar9:Go.Shelf.Ren:=⟨fun | 4=>257 | n=>n,fun | 22=>27 | 25=>3 | 3=>3 | 4=>4 | 9=>9 | 20=>20 | 0=>0 | n=>n,fun | n=>n⟩
theorem Tryz.Z' : Go.Proofs.Lays8.n4 Tryz.prog Tryz.ar9 := {
  mixed:=by kernel_rfl
  f4:=⟨Tryz.f257.name,by decide,cm func257⟩
  t0:=underlying0
  a0:=isAgg0
  z0:=sizeOf0
  v0:=zeroValue0
  t3:=underlying3
  a3:=isAgg3
  z3:=sizeOf3
  v3:=zeroValue3
  t4:=underlying4
  a4:=isAgg4
  z4:=sizeOf4
  v4:=zeroValue4
  t9:=underlying9
  a9:=isAgg9
  z9:=sizeOf9
  v9:=zeroValue9
  t20:=underlying20
  a20:=isAgg20
  z20:=sizeOf20
  v20:=zeroValue20
  t22:=underlying27
  a22:=isAgg27
  z22:=sizeOf27
  v22:=zeroValue27 }
def Tryz.ar_:Go.Shelf.Ren:=⟨fun | 4=>256 | n=>n,fun | 22=>34 | 25=>125 | 3=>3 | 4=>4 | 9=>9 | 20=>20 | 0=>0 | n=>n,fun | n=>n⟩
theorem Tryz.aaa : Go.Proofs.Lays8.n4 Tryz.prog Tryz.ar_ := {
  mixed:=by kernel_rfl
  f4:=⟨Tryz.f256.name,by decide,cm func256⟩
  t0:=underlying0
  a0:=isAgg0
  z0:=sizeOf0
  v0:=zeroValue0
  t3:=underlying3
  a3:=isAgg3
  z3:=sizeOf3
  v3:=zeroValue3
  t4:=underlying4
  a4:=isAgg4
  z4:=sizeOf4
  v4:=zeroValue4
  t9:=underlying9
  a9:=isAgg9
  z9:=sizeOf9
  v9:=zeroValue9
  t20:=underlying20
  a20:=isAgg20
  z20:=sizeOf20
  v20:=zeroValue20
  t22:=underlying34
  a22:=isAgg34
  z22:=sizeOf34
  v22:=zeroValue34 }
end Go.Proofs
namespace Go.Fer.W
theorem aab:∀ s:aL,(Go.Lib.index s [32]=-1/\cj s=[s])\/∃ t r,s=t++32::r/\Go.Lib.index s [32]=(t.length:Int)/\cj s=t::cj r
 | []=>.inl ⟨rfl,rfl⟩
 | b::l=>by
  unfold Go.Lib.index;by_cases ab:b=32
  ·subst ab;exact .inr ⟨[],l,rfl,by rfl,by rfl⟩
  ·have hp:List.isPrefixOf [32] (b::l)=false:=by
    grind
   rw[hp];have hs:=uC l;rcases aab l with⟨h1,h2⟩ | ⟨t,r,h1,h2,h3⟩
   ·rw[h1];refine .inl ⟨rfl,?_⟩;unfold cj;grind
   ·rw[h2];refine .inr ⟨b::t,r,by grind,?_,?_⟩
    ·rfl
    ·conv=>lhs;unfold cj
     grind
theorem ar':∀ (n:Nat) (s:aL),s.length<=n->Go.Lib.splitK [32] 0 (Go.Lib.count s [32]) s=cj s:=by
 intro n;induction n with
 | zero=>
  intro s h;have:s=[]:=List.eq_nil_of_length_eq_zero (by omega);subst this;rfl
 | succ n aH=>
  intro s h;rcases aab s with⟨h1,h2⟩ | ⟨t,r,h1,h2,h3⟩
  ·rw[Go.Lib.count_miss h1,h2];rfl
  ·rw[Go.Lib.count_hit (by simp) h2,h3,Nat.add_comm,Go.Lib.splitK,h2];have:((t.length:Int) == -1)=false:=by rfl
   rw[this];have e:((t.length:Int)).toNat=t.length:=rfl;have DQ:s.drop (t.length+1)=r:=by simp_all
   grind
end Go.Fer.W
namespace Go.Fer.nZ
open Go Go.Proofs Go.RowKit
section
variable {P:Program} {F:Nat->Prop} {w:World}
theorem P'(x:List UInt8):(ByteArray.mk x.toArray).data.toList=x:=by simp
theorem Jf(x:List UInt8):(ByteArray.mk x.toArray).size=x.length:=by rfl
theorem Qa{args:List Value}{x:List UInt8}(h:e5 P .str F w args x):args=[.string ⟨x.toArray⟩]/\x.length<2 ^ 63:=by
 obtain⟨v,rfl,hv⟩:=(rG rfl).1 h;obtain⟨rfl,ai⟩:=lX.1 hv;grind
theorem asa{args:List Value}{x y:List UInt8}(h:e5 P (.aw .str .str) F w args (x,y)):args=[.string ⟨x.toArray⟩,.string ⟨y.toArray⟩]/\x.length<2 ^ 63/\y.length<2 ^ 63:=by
 obtain⟨v,us,rfl,hv,hu⟩:=EV h;obtain⟨rfl,ai⟩:=lX.1 hv;obtain⟨rfl,fV⟩:=Qa hu;grind
theorem asb(w:World)(k:Nat)(os:Array Obj):Below w.heap.size w (Go.Sort.grow (w.drewN k) os):=by
 refine⟨rfl,rfl,rfl,?_,λj aC=>?_⟩
 ·simp
 ·show (w.heap++os)[j]?=_;grind
theorem Jg(h:np Tryz.prog F w){b:Nat}(ab:b<6):F b/\QP b λi=>w.cell? ⟨b,i,none⟩:=h b (Nat.lt_of_lt_of_le ab (of_decide_eq_true (by rfl)))
end
theorem aac(sep:ByteArray):∀ (k:Nat) (s:ByteArray),∀ x∈Lib.splitB sep 0 k s,x.size<=s.size
 | 0,s,x,hx=>by
  unfold Lib.splitB at hx;grind
 | k+1,s,x,hx=>by
  unfold Lib.splitB at hx;split at hx
  ·grind
  ·simp only[List.mem_cons]at hx;rcases hx with rfl | hx
   ·rw[ByteArray.size_extract];omega
   ·have:=aac sep k _ x hx;rw[ByteArray.size_extract]at this;omega
def pY(s sep:List UInt8):List (List UInt8):=(Lib.splitB ⟨sep.toArray⟩ 0 (Lib.countB ⟨s.toArray⟩ ⟨sep.toArray⟩) ⟨s.toArray⟩).map (·.data.toList)
theorem asc(s:List UInt8):pY s [32]=W.cj s:=by
 unfold pY;rw[Lib.splitB_data];exact W.ar' s.length s (Nat.le_refl _)
abbrev asd:Code:=Tryz.f139.body.getD .skip
theorem ase:hN Tryz.prog 139 (.aw .str .str) (.slice .str) W.I1.sh where
 enter:=tV Tryz.func139 (show Tryz.f139.body=some asd by rfl) (by rfl)
 iH:=λF w args x bd fT aV hs=>by
  obtain⟨s,sep⟩:=x;obtain⟨hs,h1⟩:s.length<=10000/\sep=[32]:=hs;subst h1;obtain⟨rfl,ai,fV⟩:=asa aV;obtain⟨_,m,an⟩:=Jg fT (b:=0) (by decide);have bW:1<=(ByteArray.mk [32].toArray).size:=by decide
  refine (Any.strings_Split Tryz.ar7 (by kernel_rfl) ⟨s.toArray⟩ ⟨[32].toArray⟩ m w (by rw[Jf];omega) an bW).mono ?_;rintro e w' ⟨rfl,rfl⟩;have hlen:=Lib.splitB_all ⟨[32].toArray⟩ bW 0 _ ⟨s.toArray⟩ rfl;have q7:=Lib.countB_le ⟨[32].toArray⟩ bW _ ⟨s.toArray⟩ (Nat.le_refl _);rw[Jf]at q7;have j2:=aac ⟨[32].toArray⟩ (Lib.countB ⟨s.toArray⟩ ⟨[32].toArray⟩) ⟨s.toArray⟩;rw[Jf]at j2;have wT:(pY s [32]).length=Lib.countB ⟨s.toArray⟩ ⟨[32].toArray⟩+1:=by unfold pY;grind
  refine⟨_,pY s [32],rfl,asc s,⟨[_],rfl,(rG rfl).2 ⟨_,rfl,(dy rfl).2 ⟨rfl,some ⟨w.heap.size,0,none⟩,Lib.countB ⟨s.toArray⟩ ⟨[32].toArray⟩+1,by rw[wT],by omega,by omega,nofun,λp hp hc=>?_⟩⟩⟩,?_⟩
  ·cases hp;refine⟨.inr ⟨Nat.le_refl _,by simp⟩,rfl,λi E=>?_⟩;have df:i<(Lib.splitB ⟨[32].toArray⟩ 0 (Lib.countB ⟨s.toArray⟩ ⟨[32].toArray⟩) ⟨s.toArray⟩).length:=by omega
   generalize aN:Lib.splitB ⟨[32].toArray⟩ 0 (Lib.countB ⟨s.toArray⟩ ⟨[32].toArray⟩) ⟨s.toArray⟩=B at df j2 hlen;have iD:(pY s [32])[i]=B[i].data.toList:=by
    have h2:pY s [32]=B.map (·.data.toList):=by unfold pY;rw[aN]
    grind
   have e0:Value.string B[i]=.string ⟨(B[i].data.toList).toArray⟩:=by simp
   refine⟨[.string B[i]],⟨.inr ⟨Nat.le_refl _,by simp⟩,rfl,λj aC=>?_⟩,?_,?_⟩
   ·have aC:j=0:=by grind
    subst aC;rw[uX (pM w _)];have e1:0+i*af.size .str+0=i:=by show 0+i*1+0=i;omega
    grind
   ·simp_all
   ·have:=j2 _ (List.getElem_mem df);have e:(B[i]).data.toList.length=(B[i]).size:=Array.length_toList;grind
  ·exact (Below.refl _ _).alloc (Nat.le_refl _) _
theorem aad{F : Nat -> Prop}{w : World}(h : np Tryz.prog F w) : Lib.TabIs Tryz.prog w "internal/strconv.uint64pow10" .u64 Lib.pow10Tab := by
 have bw:∀ i,w.cell? ⟨5,i,none⟩=if i<20 then some (.int .u64 (10 ^ i)) else none:=(Jg h (b:=5) (by decide)).2
 unfold Lib.TabIs World.var?;rw[show Tryz.prog.globalNamed "internal/strconv.uint64pow10" = some 5 by rfl];show (match w.heap[5]? with | some (.cells cs _ _)=>some cs | _=>none)=_;have h0:=bw 0;cases ag:w.heap[5]? with
 | none=>simp[World.cell?,ag]at h0
 | some o=>
  cases o with
  | cells cs T ep=>
   simp only[Option.some.injEq];apply Array.ext_getElem?;intro i;have E:=bw i;simp only[World.cell?,ag,Option.isSome_none,Bool.false_eq_true,if_false]at E;rw[E];split
   ·rename_i Bc;simp only[List.getElem?_toArray,List.getElem?_map,Lib.pow10Tab];grind
   ·rename_i Bc;rw[Array.getElem?_eq_none];simp[Lib.pow10Tab];omega
  | _=>simp[World.cell?,ag]at h0
abbrev asf:Code:=Tryz.f204.body.getD .skip
theorem asg{P:Program}{F:Nat->Prop}{w:World}{args:List Value}{x:Int}(h:e5 P (.int .i64) F w args x):args=[.int .i64 x]/\fz .i64 x:=by
 obtain⟨v,rfl,hv⟩:=(rG rfl).1 h;obtain⟨rfl,ai⟩:=gE.1 hv;grind
theorem ash{n:Int}(h:fz .i64 n):-9223372036854775808<=n/\n<=9223372036854775807:=h
theorem asi:hN Tryz.prog 204 (.int .i64) .str W.IS.sh where
 enter:=tV Tryz.func204 (show Tryz.f204.body=some asf by rfl) (by rfl)
 iH:=λF w args x bd fT aV hs=>by
  change Int at x;obtain⟨rfl,G⟩:=asg aV;obtain⟨h0,h1⟩:=ash G;refine (Any.strconv_Itoa Tryz.Z9 x h0 h1 w (aad fT)).mono ?_;rintro e w' ⟨rfl,k,os,rfl⟩;have hx:W.rz x=Lib.itoa x:=by unfold W.rz;rw[bn h0 (by omega)]
  refine⟨_,W.rz x,rfl,rfl,⟨[_],rfl,(rG rfl).2 ⟨_,rfl,lX.2 ⟨by rw[hx],Nat.lt_of_le_of_lt (W.PB x) (by decide)⟩⟩⟩,asb w k os⟩
abbrev asj:Code:=Tryz.f258.body.getD .skip
theorem asl:hN Tryz.prog 258 (.aw (.slice .str) .str) .str W.Eu.sh where
 enter:=tV Tryz.func258 (show Tryz.f258.body=some asj by rfl) (by rfl)
 iH:=λF w args x bd fT aV hs=>by
  obtain⟨l,sep⟩:=x;obtain⟨az,hw,h1⟩:l.length<=60000/\(∀ w∈l,w.length<=21)/\sep.length=1:=hs;have zJ:=W.ZJ l sep 21 hw;have h1:sep.length=1:=h1;have az:l.length<=60000:=az;rw[h1]at zJ;have aC:(Lib.join l sep).length<2 ^ 63:=by omega
  obtain⟨v,us,rfl,hv,hu⟩:=EV aV;obtain⟨rfl,_⟩:=Qa hu;obtain⟨_,p,cap,h6,c2,c3,c4,c5⟩:=(dy rfl).1 hv;obtain rfl:v=.slice p l.length cap:=by grind
  change l.length<=cap at c2;have fin:∀ w',Below w.heap.size w w'->∃ v y,Ending.returned (.string ⟨(Lib.join l sep).toArray⟩)=.returned v/\(W.Eu.sh (l,sep)).bC y/\s8 Tryz.prog .str (uN F w w') w' v y/\Below w.heap.size w w':=λw' ab=>
   ⟨_,Lib.join l sep,rfl,rfl,⟨[_],rfl,(rG rfl).2 ⟨_,rfl,lX.2 ⟨rfl,aC⟩⟩⟩,ab⟩
  by_cases ai:l=[]
  ·subst ai;refine (Any.strings_Join_none Tryz.Z7 Tryz.Z8 p cap ⟨sep.toArray⟩ w).mono ?_;rintro e w' ⟨rfl,rfl⟩;exact fin _ (Below.refl _ _)
  ·have kX:0<l.length:=List.length_pos_iff.2 ai;obtain⟨q,rfl⟩:∃ q,p=some q:=by
    cases p with
    | none=>grind
    | some q=>simp
   obtain⟨d1,d2,d3⟩:=c5 q rfl (by omega);obtain⟨asm,o,sp⟩:=q;obtain rfl:sp=none:=d2;have hlen:(l.map λx:List UInt8=>ByteArray.mk x.toArray).length=l.length:=List.length_map ..;have JZ:(l.map λx:List UInt8=>ByteArray.mk x.toArray).map (·.data.toList)=l:=by rw[List.map_map];exact (List.map_congr_left λx _=>P' x).trans (List.map_id _)
   have:=Any.strings_Join Tryz.Z7 Tryz.Z8 asm o cap (l.map λx:List UInt8=>ByteArray.mk x.toArray) ⟨sep.toArray⟩ w (λj x hx=>by
    rw[List.getElem?_map]at hx;obtain⟨y,aM,rfl⟩:=Option.map_eq_some_iff.1 hx;obtain⟨zJ,rfl⟩:=List.getElem?_eq_some_iff.1 aM;obtain⟨a_,⟨_,_,e3⟩,e4⟩:=d3 j zJ;obtain⟨rfl,_⟩:=e4;have:=e3 0 (by simp);simpa [af.size]using this) (bd _ d1) (by omega) (by omega) (by grind)
   rw[hlen,JZ,P']at this;refine this.mono ?_;simp_all
end Go.Fer.nZ
namespace Go.Proofs
open Go.RowKit
theorem Tryz.asn{P:Program}{w w':World}{n:String}{k:IntKind}{zs:z1'}(h:Lib.TabIs P w n k zs)(ab:Below w.heap.size w w'):Lib.TabIs P w' n k zs:=by
 unfold Lib.TabIs World.var? at *
 cases aA:P.globalNamed n with
 | none=>rw[aA]at h;cases h
 | some g=>
  rw[aA]at h;simp only[Option.bind_some]at h ⊢;by_cases b4:g<w.heap.size
  ·rw[ab.block g b4];exact h
  ·rw[Array.getElem?_eq_none (by omega)]at h;cases h
set_option maxHeartbeats 4000000 in
set_option maxRecDepth 1000000 in
theorem Tryz.aso(s:ByteArray)(w:World)(v:Int)(za:s.size<=9223372036854775806)(h:Lib.atoiAll s.data.toList=.ok v)(h0:-9223372036854775808<=v)(h1:v<=9223372036854775807)
  (asp : Lib.TabIs Tryz.prog w "internal/strconv.uint64pow10" .u64 Lib.pow10Tab) :
  Calls Tryz.prog 140 #[.string s] w λe w'=>e=.returned (.tuple #[.int .i64 v,.bool (decide (s.size<=6)&&decide (0<=v)&&decide (Lib.itoa v=s.data.toList))])/\Below w.heap.size w w':=by
 go_enter Tryz.func140,Tryz.ntmps140;go_wp2_with fail;refine (Tryz.strconv_Atoi_ok s za v h w).mono ?_;rintro e b6 ⟨rfl,lB⟩;have l9:Below w.heap.size w b6:=by
  rcases lB with rfl | ⟨t,rfl⟩
  ·exact Below.refl _ _
  ·exact Lib.bytesWorld_below w 5 t
 have asq:=Tryz.asn asp l9;clear lB;by_cases aO:(s.size:Int)<=6
 ·by_cases aP:v>=0
  ·go_wp2_with fail;refine (Any.strconv_Itoa Tryz.Z9 v h0 h1 b6 asq).mono ?_;rintro e cI ⟨rfl,k,os,rfl⟩;have qK:Below w.heap.size w (Go.Sort.grow (b6.drewN k) os):=l9.trans ⟨rfl,rfl,rfl,by show _<=(b6.heap++os).size;simp,λj aC=>by
    have:=l9.size;show (b6.heap++os)[j]?=_;rw[Array.getElem?_append_left (by omega)]⟩
   generalize Go.Sort.grow (b6.drewN k) os=cI at qK;go_wp2;go_returns;refine⟨congrArg Ending.returned (congrArg Value.tuple ?_),qK⟩;show #[Value.int IntKind.i64 v,Value.bool (Lib.itoa v == s.toList)]=_;rw[Go.ByteArray.toList_eq,show decide (s.size<=6)=true from decide_eq_true (by omega),show decide (0<=v)=true from decide_eq_true aP,Bool.true_and,Bool.true_and,show (Lib.itoa v == s.data.toList)=decide (Lib.itoa v=s.data.toList) by rw[Bool.eq_iff_iff];simp]
  ·go_wp2;go_returns;refine⟨congrArg Ending.returned (congrArg Value.tuple ?_),l9⟩;show #[Value.int IntKind.i64 v,Value.bool false]=_;rw[show decide (0<=v)=false from decide_eq_false (by omega),Bool.and_false,Bool.false_and]
 ·go_wp2;go_returns;refine⟨congrArg Ending.returned (congrArg Value.tuple ?_),l9⟩;show #[Value.int IntKind.i64 v,Value.bool false]=_;rw[show decide (s.size<=6)=false from decide_eq_false (by omega),Bool.false_and,Bool.false_and]
set_option maxHeartbeats 4000000 in
set_option maxRecDepth 1000000 in
theorem Tryz.asr(s:ByteArray)(w:World)(rS:s.size<=281474976710656)(h:Lib.atoiAll s.data.toList=Lib.atoiAll [])(hZ:Value)(hv:w.cell? ⟨1,0,none⟩=some hZ)(pq:hZ=.nilIface\/∃ te pe,hZ=.iface te pe) :
  Calls Tryz.prog 140 #[.string s] w λe w'=>e=.returned (.tuple #[.int .i64 0,.bool false])/\Below w.heap.size w w':=by
 go_enter Tryz.func140,Tryz.ntmps140;go_wp2_with fail;refine (Tryz.strconv_Atoi_syntax s rS h hZ w hv pq).mono ?_;rintro e b6 ⟨N,rfl,_,_,l9⟩;go_wp2;go_returns;exact⟨rfl,l9⟩
set_option maxHeartbeats 4000000 in
set_option maxRecDepth 1000000 in
theorem Tryz.ass(s:ByteArray)(w:World)(rS:s.size<=281474976710656)(h:Lib.atoiAll s.data.toList=.range)(hZ:Value)(hv:w.cell? ⟨2,0,none⟩=some hZ)(pq:hZ=.nilIface\/∃ te pe,hZ=.iface te pe) :
  Calls Tryz.prog 140 #[.string s] w λe w'=>e=.returned (.tuple #[.int .i64 (Lib.atoiSat s.data.toList),.bool false])/\Below w.heap.size w w':=by
 go_enter Tryz.func140,Tryz.ntmps140;go_wp2_with fail;refine (Tryz.strconv_Atoi_range s rS h hZ w hv pq).mono ?_;rintro e b6 ⟨N,rfl,_,_,l9⟩;go_wp2;go_returns;exact⟨rfl,l9⟩
end Go.Proofs
namespace Go.Fer.W
open M (aa)
theorem aae:∀ (s:aL) (n:Int),0<=n->fM s n≠-1->n<=fM s n
 | [],n,_,_=>Int.le_refl _
 | c::s,n,h,h1=>by
  unfold fM at h1 ⊢;split at h1
  ·omega
  ·rename_i hc;rw[if_neg hc];simp only[Bool.or_eq_true,decide_eq_true_eq,not_or]at hc;have:=aae s _ (by omega) h1;omega
theorem Qb(d:UInt8):∀ (s:aL) (n:Int),0<=n->fM (s++[d]) n=if fM s n=-1 then -1 else if (decide ((d.toNat:Int)<48)||decide ((d.toNat:Int) > 57))=true then -1 else 10*fM s n+((d.toNat:Int) - 48)
 | [],n,h=>by
  show fM [d] n=if n=-1 then _ else _
  rw[if_neg (by omega)];rfl
 | c::s,n,h=>by
  rw[List.cons_append];conv=>lhs;unfold fM
  by_cases hc:(decide ((c.toNat:Int)<48)||decide ((c.toNat:Int) > 57))=true
  ·rw[if_pos hc,show fM (c::s) n=-1 by unfold fM;grind,if_pos rfl]
  ·rw[if_neg hc,show fM (c::s) n=fM s (10*n+((c.toNat:Int) - 48)) from (if_neg hc:(if (decide ((c.toNat:Int)<48)||decide ((c.toNat:Int) > 57))=true then (-1:Int) else _)=_)];simp only[Bool.or_eq_true,decide_eq_true_eq,not_or]at hc;exact Qb d s _ (by omega)
theorem Jh(k:Nat)(h:k<10):((UInt8.ofNat (48+k)).toNat:Int)=48+k:=by
 have:(UInt8.ofNat (48+k)).toNat=(48+k) % 256:=UInt8.toNat_ofNat';omega
theorem aaf(u:Nat):fM (Go.Lib.decDigits u) 0=u:=by
 induction u using Nat.strongRecOn with
 | _ u aH=>
  unfold Go.Lib.decDigits;split
  ·rename_i h;have:=Jh u h;unfold fM;rw[if_neg (by grind),this];show (10*0+(48+(u:Int) - 48))=u;omega
  ·rename_i h;have au:=Jh (u % 10) (by omega);rw[Qb _ _ _ (Int.le_refl _),aH (u / 10) (by omega),if_neg (by omega),if_neg (by grind),au];omega
theorem aag(u:Nat):Go.Lib.decDigits u≠[]/\(1<(Go.Lib.decDigits u).length->((Go.Lib.decDigits u).getD 0 0).toNat≠48):=by
 induction u using Nat.strongRecOn with
 | _ u aH=>
  by_cases h:u<10
  ·rw[Go.Lib.decDigits_one h];simp
  ·obtain⟨h1,h2⟩:=aH (u / 10) (by omega);have e:Go.Lib.decDigits u=Go.Lib.decDigits (u / 10)++[UInt8.ofNat (48+u % 10)]:=by
    conv=>lhs;unfold Go.Lib.decDigits
    grind
   rw[e];refine⟨by simp,λ_=>?_⟩;have ai:0<(Go.Lib.decDigits (u / 10)).length:=List.length_pos_iff.2 h1;rw[show (Go.Lib.decDigits (u / 10)++[UInt8.ofNat (48+u % 10)]).getD 0 0=(Go.Lib.decDigits (u / 10)).getD 0 0 by
    grind]
   by_cases h3:1<(Go.Lib.decDigits (u / 10)).length
   ·omega
   ·have pH:u / 10<10:=by
     refine Classical.byContradiction λaz=>h3 ?_;have e2:Go.Lib.decDigits (u / 10)=Go.Lib.decDigits (u / 10 / 10)++[UInt8.ofNat (48+u / 10 % 10)]:=by
      conv=>lhs;unfold Go.Lib.decDigits
      grind
     grind
    rw[Go.Lib.decDigits_one pH];have:=Jh (u / 10) pH;grind
theorem ast:∀ (n:Nat) (s:aL),s.length=n->s≠[]->(1<s.length->(s.getD 0 0).toNat≠48)->fM s 0≠-1->Go.Lib.decDigits (fM s 0).toNat=s:=by
 intro n;induction n with
 | zero=>simp
 | succ n aH=>
  intro s h1 h2 h3 aR;obtain⟨a,d,rfl⟩:∃ a d,s=a++[d]:=⟨s.dropLast,s.getLast h2,(List.dropLast_concat_getLast h2).symm⟩
  rw[Qb _ _ _ (Int.le_refl _)]at aR ⊢;split at aR
  ·omega
  ·rename_i aV;split at aR
   ·omega
   ·rename_i au;rw[if_neg aV,if_neg au];simp only[Bool.or_eq_true,decide_eq_true_eq,not_or]at au;have LU:UInt8.ofNat (48+(d.toNat - 48))=d:=by
     apply UInt8.toNat_inj.1;rw[UInt8.toNat_ofNat'];omega
    by_cases az:a=[]
    ·subst az;have e:(10*fM [] 0+((d.toNat:Int) - 48)).toNat=d.toNat - 48:=by show (10*0+((d.toNat:Int) - 48)).toNat=_;omega
     rw[e,Go.Lib.decDigits_one (by omega),LU];rfl
    ·have ai:0<a.length:=List.length_pos_iff.2 az;have cA:(a.getD 0 0).toNat≠48:=by
      grind
     have hp:1<=fM a 0:=by
      cases a with
      | nil=>grind
      | cons c r=>
       unfold fM at aV ⊢;split at aV
       ·omega
       ·rename_i hc;rw[if_neg hc];simp only[Bool.or_eq_true,decide_eq_true_eq,not_or]at hc;have ayl:c.toNat≠48:=cA;have:=aae r _ (by omega) aV;omega
     have E:=aH a (by grind) az (λ_=>cA) aV;have e1:(10*fM a 0+((d.toNat:Int) - 48)).toNat / 10=(fM a 0).toNat:=by omega
     have e2:(10*fM a 0+((d.toNat:Int) - 48)).toNat % 10=d.toNat - 48:=by omega
     conv=>lhs;unfold Go.Lib.decDigits
     grind
theorem asu{s:aL}{v:Int}(h:Go.Lib.atoiAll s=.ok v):(decide (s.length<=6)&&decide (0<=v)&&decide (Go.Lib.itoa v=s))=decide (0<=eF s):=by
 rw[Bool.eq_iff_iff];simp only[Bool.and_eq_true,decide_eq_true_eq];constructor
 ·rintro⟨⟨cZ,hv⟩,E⟩;obtain⟨u,rfl⟩:∃ u:Nat,v=u:=⟨v.toNat,by omega⟩
  have e:Go.Lib.itoa (u:Int)=Go.Lib.decDigits u:=by rfl
  rw[e]at E;obtain⟨aO,aP⟩:=aag u;rw[E]at aO aP;unfold eF;rw[if_neg]
  ·have:=aaf u;grind
  grind
 ·intro az;have e:=P4 az;rw[h]at e;obtain rfl:v=eF s:=by grind
  refine⟨⟨?_,az⟩,?_⟩
  ·unfold eF at az;grind
  ·have e:Go.Lib.itoa (eF s)=Go.Lib.decDigits (eF s).toNat:=by unfold Go.Lib.itoa;grind
   rw[e];unfold eF at az ⊢;split at az
   ·omega
   ·rename_i ab;rw[if_neg ab];simp only[Bool.or_eq_true,Bool.and_eq_true,decide_eq_true_eq,not_or,not_and]at ab;exact ast _ s rfl (λe=>ab.1.1 (by grind)) ab.2 (by omega)
theorem aah{s:aL}(h:∀ v,Go.Lib.atoiAll s≠.ok v):decide (0<=eF s)=false:=decide_eq_false λaz=>h _ (P4 az)
end Go.Fer.W
namespace Go.Fer.nZ
open Go Go.Proofs Go.RowKit
abbrev asv:Code:=Tryz.f140.body.getD .skip
theorem asw:hN Tryz.prog 140 .str (.aw (.int .i64) .bool) W.Ew.sh where
 enter:=tV Tryz.func140 (show Tryz.f140.body=some asv by kernel_rfl) (by kernel_rfl)
 iH:=λF w args x bd fT aV hs=>by
  change List UInt8 at x;have hs:x.length<=10000:=hs;obtain⟨rfl,ai⟩:=Qa aV;have ab:=P' x;have bb:=Jf x;have fin:∀ (n:Int) (b:Bool) (w':World),fz .i64 n->W.qV x=(n,b)->Below w.heap.size w w'->∃ v y,Ending.returned (.tuple #[.int .i64 n,.bool b])=.returned v/\(W.Ew.sh x).bC y/\s8 Tryz.prog (.aw (.int .i64) .bool) (uN F w w') w' v y/\Below w.heap.size w w':=λn b w' G he yy=>
   ⟨_,(n,b),rfl,he.symm,⟨[.int .i64 n,.bool b],rfl,Bv.2 ⟨gE.2 ⟨rfl,G⟩,(rG rfl).2 ⟨_,rfl,eT.2 rfl⟩⟩⟩,yy⟩
  cases he:Lib.atoiAll x with
  | ok v=>
   have hv:=Lib.atoiAll_bounds he;refine (Tryz.aso ⟨x.toArray⟩ w v (by rw[bb];omega) (by rw[ab];exact he) hv.1 hv.2 (aad fT)).mono ?_;rintro e w' ⟨rfl,yy⟩;refine fin v _ w' hv ?_ yy;rw[ab,bb,W.asu he];unfold W.qV W.sU;rw[he]
  | range=>
   obtain⟨_,hZ,hv,pq⟩:=Jg fT (b:=2) (by decide);refine (Tryz.ass ⟨x.toArray⟩ w (by rw[bb];omega) (by rw[ab];exact he) hZ hv pq).mono ?_;rintro e w' ⟨rfl,yy⟩;rw[ab]at *
   refine fin _ _ w' (Lib.atoiSat_bounds x) ?_ yy;unfold W.qV W.sU;rw[he,W.aah λv h=>by rw[he]at h;cases h]
  | _=>
   obtain⟨_,hZ,hv,pq⟩:=Jg fT (b:=1) (by decide);refine (Tryz.asr ⟨x.toArray⟩ w (by rw[bb];omega) (by rw[ab];exact he) hZ hv pq).mono ?_;rintro e w' ⟨rfl,yy⟩;refine fin 0 _ w' (by decide) ?_ yy;unfold W.qV W.sU;rw[he,W.aah λv h=>by rw[he]at h;cases h]
end Go.Fer.nZ
namespace Go.Fer
open Go.RowKit
abbrev mq:af:=.int .i64
def Qc(x:z1'×Unit):M (z1'×Unit):=M.dv (x.1.length<4611686018427387904) (x.1.mergeSort (λa b=>decide (a<=b)),())
def pE:IOC:=⟨⟨[(0,.own 200001)],[(200001,.a8 mq)]⟩,⟨[],[(200001,.a8 mq)]⟩,[],1,Qc⟩
section
variable {P:Program} {F:Nat->Prop} {w:World}
theorem aai{cs:Array Value}{off:Nat}{xs:z1'}(h:ln P mq F w cs off xs){i:Nat}(E:i<xs.length):cs[off+i]?=some (.int .i64 xs[i])/\fz .i64 xs[i]:=by
 obtain⟨a_,h1,h2,h3⟩:=h i E;subst h2;have:=h1 0 (by simp);refine⟨?_,h3⟩;have e:off+i*af.size mq+0=off+i:=by show off+i*1+0=off+i;omega
 rw[e]at this;exact this
theorem asx{cs:Array Value}{off:Nat}{xs:z1'}(h:∀ i (h:i<xs.length),cs[off+i]?=some (.int .i64 xs[i])/\fz .i64 xs[i]):ln P mq F w cs off xs:=λi E=>by
 obtain⟨h1,h2⟩:=h i E;refine⟨[.int .i64 xs[i]],λj aC=>?_,rfl,h2⟩;have aC:j=0:=by simpa using aC
 subst aC;have e:off+i*af.size mq+0=off+i:=by show off+i*1+0=off+i;omega
 rw[e];exact h1
theorem asy{cs:Array Value}{T:TypeId}{b off:Nat}{xs:z1'}(ab:w.heap[b]?=some (.cells cs T (0,0)))(h:ln P mq F w cs off xs):Go.Sort.Holds (Value.int .i64) w b off xs.toArray:=λj aC=>by
 have fA:j<xs.length:=by simpa using aC
 obtain⟨h1,_⟩:=aai h fA;refine⟨?_,by simp[World.frozen?,ab]⟩;simp only[World.cell?,ab];simp only[Option.isSome_none,Bool.false_eq_true,if_false];rw[h1];simp[fA]
theorem asz{cs:Array Value}{off:Nat}{xs ys:z1'}(ai:ys.length=xs.length)(hin:∀ y∈ys,fz .i64 y)(bW:off+xs.length<=cs.size):ln P mq F w (Go.Sort.putCells (Value.int .i64) off ys.toArray cs) off ys:=by
 refine asx λi E=>⟨?_,hin _ (List.getElem_mem E)⟩
 have h1:off+i<cs.size:=by omega
 simp[Go.Sort.putCells,h1,E]
end
section
variable {P:Program} {U:dj}
theorem asA{k:FuncId}(he:∀ args w,(callFunc k args).run P w=.ok (.enter k args) w)
  (h1:∀ (ad off cap:Nat) (zs:z1') (w:World),Go.Sort.Holds (Value.int .i64) w ad off zs.toArray->ad<w.heap.size->zs.length<4611686018427387904->Calls P k #[.slice (some ⟨ad,off,none⟩) zs.length cap] w λe w'=>
   e=.returned (.tuple #[])/\∃ n os,w'=Go.Sort.grow (Go.Sort.putRow (Value.int .i64) (Go.Sort.ahead w n) ad off (zs.mergeSort λx y=>decide (x<=y)).toArray) os)
  (h0:∀ (p:Option Addr) (cap:Nat) (w:World),Calls P k #[.slice p 0 cap] w λe w'=>e=.returned (.tuple #[])/\w'=w):IoSpec P U k pE where
 enter:=he
 iH C a w κ F A jd zV G au q6 tm h hs:=by
  obtain⟨xs,u⟩:=A;have hlen:xs.length<4611686018427387904:=hs;have bW:a.tmps.size=1:=h.dk.trans q6;have p2:=h.bF 0;have ab:=h.bp 200001;change jo C.P _ κ F w (κ 200001) (.a8 mq xs) at ab;have hv:a.tmps.getD 0 undef=(κ 200001).slice xs.length:=p2.2 rfl rfl;have aV:a.tmps=#[(κ 200001).slice xs.length]:=by
   apply Array.ext (by simp[bW]);intro i E dp;have:i=0:=by omega
   subst this;rw[<-hv];simp[Array.getD,bW]
  have p7:∀ τ,τ=((xs.mergeSort (λx y=>decide (x<=y)),()):z1'×Unit)->(pE.sh (xs,u)).bC τ:=λτ e=>e;have nH:∀ {w':World} {F':Nat->Prop} {ys:z1'},bc C (ay.mk (pE.b7.st (xs,u)).ax λi=>if i=200001 then ⟨0,.a8 mq ys⟩ else (pE.b7.st (xs,u)).ad i) a w' κ F'->bc { C with nt:=0 } (pE.bC.st (ys,())) { tmps:=#[],defers:=[] } w' κ F':=λ{w' F' ys} jD=>by
   have e:(pE.bC.st (ys,())).ad=λi=>if i=200001 then (⟨0,.a8 mq ys⟩:bu) else (pE.b7.st (xs,u)).ad i:=by
    funext i;show eu [(200001,bB.a8 mq ys)] i=if i=200001 then _ else eu [(200001,bB.a8 mq xs)] i
    simp only[eu];by_cases E:i=200001
    ·rw[if_pos E,if_pos E]
    ·rw[if_neg E,if_neg E,if_neg E]
   refine { dk:=rfl,dfr:=au.symm,bF:=λi=>trivial,bp:=λb=>?_,own:=λb=>?_,inj:=λb aZ=>?_,cL:=jD.cL,gN:=jD.gN,hE:=jD.hE,g_:=jD.g_,ef:=jD.ef,size:=jD.size,dV:=jD.dV,fR:=Nat.zero_le _,kd:=jD.kd,jq:=λb r=>?_,jS:=jD.jS,ke:=λb k=>?_,pro:=λl aI L n st e=>(by cases e),jr:=jD.jr,ij:=jD.ij }
   ·rw[e];exact jD.bp b
   ·rw[e];exact jD.own b
   ·rw[e];exact jD.inj b aZ
   ·rw[e];exact jD.jq b r
   ·rw[e];exact jD.ke b k
  subst jd;rw[aV];by_cases az:(κ 200001).eL=true
  ·have hx:xs=[]:=ab.1 az;subst hx;have h6:(κ 200001).slice 0=.slice none 0 0:=by simp[bo.slice,az]
   rw[show ([]:z1').length=0 from rfl,h6];refine (h0 none 0 w).mono ?_;rintro e w' ⟨rfl,rfl⟩;refine⟨_,([],()),[],κ,F,rfl,p7 _ (congrArg (λl=>(l,())) List.mergeSort_nil.symm),⟨[],rfl,rfl,rfl⟩,nH ?_⟩;have e:(λi=>if i=200001 then (⟨0,.a8 mq []⟩:bu) else (pE.b7.st ([],u)).ad i)=(pE.b7.st ([],u)).ad:=by
    funext i;by_cases E:i=200001
    ·subst E;rfl
    ·rw[if_neg E]
   rw[e];exact h
  ·have az:(κ 200001).eL=false:=by simpa using az
   obtain⟨cs,T,dt,eG,mr,rE,EP⟩:=ab.2 az;have fS:((pE.b7.st (xs,u)).ad 200001).body.bJ (κ 200001)=true:=by show (!(κ 200001).eL)=true;rw[az];rfl
   have ag:=h.own 200001 fS;have h6:(κ 200001).slice xs.length=.slice (some ⟨(κ 200001).ad,(κ 200001).off,none⟩) xs.length (κ 200001).cap:=by simp[bo.slice,az]
   rw[h6];refine (h1 (κ 200001).ad (κ 200001).off (κ 200001).cap xs w (asy dt EP) ag.1 hlen).mono ?_;rintro e w' ⟨rfl,n,os,rfl⟩;have hp:(xs.mergeSort λx y=>decide (x<=y)).Perm xs:=List.mergeSort_perm _ _;generalize jX:(xs.mergeSort λx y=>decide (x<=y))=ys at hp p7;have aaj:ys.length=xs.length:=hp.length_eq;have Fc:(κ 200001).off+xs.length<=cs.size:=by
    have:(κ 200001).cap*af.size mq=(κ 200001).cap:=Nat.mul_one _;omega
   have hin:∀ y∈ys,fz .i64 y:=λy aM=>by
    have:=hp.mem_iff.1 aM;obtain⟨i,E,rfl⟩:=List.getElem_of_mem this;exact (aai EP E).2
   have asB:(Go.Sort.putRow (Value.int .i64) (Go.Sort.ahead w n) (κ 200001).ad (κ 200001).off ys.toArray).heap[(κ 200001).ad]?=some (.cells (Go.Sort.putCells (Value.int .i64) (κ 200001).off ys.toArray cs) T (0,0)):=by
    simp[Go.Sort.putRow,Go.Sort.mapBlock,Go.Sort.ahead,Array.getElem?_modify,dt,Go.Sort.onCells]
   have wu:bc C ((pE.b7.st (xs,u)).b' 200001 ⟨0,.a8 mq ys⟩) a (Go.Sort.putRow (Value.int .i64) (Go.Sort.ahead w n) (κ 200001).ad (κ 200001).off ys.toArray) κ F:=by
    refine h.oO (b:=200001) (x:=⟨0,.a8 mq ys⟩) fS ?_ ?_ nofun nofun (λr G=>?_) (by simp[Go.Sort.putRow,Go.Sort.mapBlock,Go.Sort.ahead]) ⟨rfl,rfl,rfl⟩ (λH mB iy j1=>⟨λhc=>absurd (az.symm.trans hc) nofun,λ_=>?_⟩)
    ·show (!(κ 200001).eL)=true;rw[az];rfl
    ·intro b;by_cases ab:b=200001
     ·subst ab;exact⟨Nat.le_refl _,λ_=>⟨nofun,λ_=>⟨rfl,rfl,aaj,rfl⟩,nofun,nofun⟩⟩
     ·show pL _ (if b=200001 then _ else _) _ _;rw[if_neg ab];exact pL.refl _ _
    ·simp[Go.Sort.putRow,Go.Sort.mapBlock,Go.Sort.ahead,Array.getElem?_modify,Ne.symm G]
    ·refine⟨_,T,asB,?_,?_,rE,asz aaj hin Fc⟩
     ·simpa [Go.Sort.putCells]using eG
     ·show ys.length<=_;omega
   refine⟨_,(ys,()),[],κ,_,rfl,p7 _ rfl,⟨[],rfl,rfl,rfl⟩,nH (wu.grow ?_)⟩;refine⟨rfl,rfl,rfl,by simp[Go.Sort.grow],λk ao=>?_⟩;simp only[Go.Sort.grow];rw[Array.getElem?_append_left ao]
end
end Go.Fer
namespace Go.Fer
open Go.RowKit
def asC(e:af)(x:Int×Unit):M (List e.ah×Unit):=M.dv (0<=x.1/\x.1<60000) ([],())
def uJ(e:af):IOC:=⟨⟨[(0,.cR),(1,.val (.int .i64))],[]⟩,⟨[(0,.own 50000)],[(50000,.a8 e)]⟩,[none],2,asC e⟩
section
variable {P:Program} {U:dj} {e:af}
theorem aak{C:bS}{a:Act}{w w':World}{κ:Nat->bo}{F:Nat->Prop}{A:(uJ e).b7.ah}(h:bc C ((uJ e).b7.st A) a w κ F)(au:C.dfr=[]){kb:bo}{v:Value}
  (hv:v=kb.slice 0) (bW:w.heap.size<=w'.heap.size) (hw:∀ r,r<w.heap.size->w'.heap[r]?=w.heap[r]?) (hc:cM w w') (kY:kb.eL=false->kb.ad=w.heap.size/\w.heap.size<w'.heap.size)
  (aN:kb.eL=false->∃ cs T,w'.heap[kb.ad]?=some (.cells cs T (0,0))/\kb.off+kb.cap*e.size<=cs.size/\kb.cap<2 ^ 63) :
  bc { C with nt:=1 } ((uJ e).bC.st ([],())) { tmps:=#[v],defers:=[] } w' (λi=>if i=50000 then kb else κ i) F:=by
 have ab:∀ b,((uJ e).bC.st ([],())).ad b=if b=50000 then ⟨0,.a8 e []⟩ else ⟨0,.ff⟩:=λb=>rfl
 have aV:∀ b,b≠50000->((uJ e).bC.st ([],())).ad b=⟨0,.ff⟩:=λb az=>by rw[ab,if_neg az]
 have bw:((uJ e).bC.st ([],())).ad 50000=⟨0,.a8 e []⟩:=rfl;have fS:∀ b,(((uJ e).bC.st ([],())).ad b).body.bJ (if b=50000 then kb else κ b)=true->b=50000/\kb.eL=false:=λb ag=>by
  by_cases e:b=50000
  ·subst e;rw[bw,if_pos rfl]at ag;exact⟨rfl,by simpa [bB.bJ]using ag⟩
  ·rw[aV b e]at ag;cases ag
 refine { dk:=rfl,dfr:=au.symm,bF:=λi=>?_,bp:=λb=>?_,own:=λb ag=>?_,inj:=λb aZ h1 h2 _=>?_,cL:=λr G=>Nat.lt_of_lt_of_le (h.cL r G) bW,gN:=h.gN,hE:=h.hE,g_:=h.g_,ef:=λr G=>?_,size:=Nat.le_trans h.size bW,dV:=h.dV.trans hc,fR:=(by unfold ev;exact (by decide:1<=100000)),kd:=h.kd,jq:=λb r G iN=>?_,jS:=h.jS,ke:=λb k ao _ E=>?_,pro:=λl aI L n st e=>(by cases e),jr:=h.jr,ij:=h.ij.mono (λ_ h=>h) ⟨bW,λr G=>hw r (h.cL r G)⟩ }
 ·by_cases E:i=0
  ·subst E;refine⟨⟨Nat.le_refl _,?_⟩,λ_ _=>?_⟩
   ·show v.oneCell'=true;rw[hv];unfold bo.slice;split<;>rfl
   ·show v=_;rw[hv];show kb.slice 0=(if (50000:Nat)=50000 then kb else κ 50000).slice 0;rw[if_pos rfl]
  ·have:((uJ e).bC.st ([],())).ax i=.undef:=by
    show e7 [(0,aD.own 50000 0)] i=.undef;simp[e7,E]
   rw[this];trivial
 ·unfold cg;by_cases e1:b=50000
  ·subst e1;rw[bw];show jo _ _ _ _ _ (if (50000:Nat)=50000 then kb else κ 50000) (.a8 e []);rw[if_pos rfl];refine⟨λ_=>rfl,λaz=>?_⟩;obtain⟨cs,T,h1,h2,h3⟩:=aN az;exact⟨cs,T,h1,h2,Nat.zero_le _,h3,λi E=>absurd E (Nat.not_lt_zero _)⟩
  ·rw[aV b e1];trivial
 ·obtain⟨rfl,az⟩:=fS b ag;obtain⟨h1,h2⟩:=kY az;rw[if_pos rfl,h1];refine⟨h2,λar=>?_,λao=>?_⟩
  ·have:=h.cL _ ar;omega
  ·have:=h.g_ _ ao;have:=h.size;omega
 ·rw[(fS b h1).1,(fS aZ h2).1]
 ·have h1:=h.g_ r G;rw[hw r (Nat.lt_of_lt_of_le h1 h.size)];exact h.ef r G
 ·by_cases e1:b=50000
  ·subst e1;rw[bw]at iN;rcases iN with h | h<;>cases h
  ·rw[aV b e1]at iN;rcases iN with h | h<;>cases h
 ·by_cases e1:b=50000
  ·subst e1;have:=h.jS _ _ ao;unfold wH at this;omega
  ·rw[aV b e1]at E;cases E
theorem aal{k:FuncId}(he:∀ args w,(callFunc k args).run P w=.ok (.enter k args) w)
  (h0:∀ w:World,Calls P k #[.slice none 0 0,.int .i64 0] w λe w'=>e=.returned (.slice none 0 0)/\w'=w)
  (h1:∀ (n:Nat) (w:World),0<n->n<60000->Calls P k #[.slice none 0 0,.int .i64 (n:Int)] w λy w'=>∃ (bZ:Nat) (T:TypeId) (cs:Array Value),y=.returned (.slice (some ⟨w.heap.size,0,none⟩) 0 bZ)/\
   w'=w.drew.alloc (.cells cs T)/\bZ<2 ^ 63/\bZ*e.size<=cs.size):IoSpec P U k (uJ e) where
 enter:=he
 iH C a w κ F A jd zV G au q6 tm h hs:=by
  obtain⟨n,u⟩:=A;change Int at n;obtain⟨rX,pW⟩:0<=n/\n<60000:=hs;have bW:a.tmps.size=2:=h.dk.trans q6;have asD:a.tmps.getD 0 undef=.slice none 0 0:=h.bF 0;have pN:a.tmps.getD 1 undef=.int .i64 n:=(gE.1 (h.bF 1)).1;have aV:a.tmps=#[.slice none 0 0,.int .i64 n]:=by
   apply Array.ext (by simp[bW]);intro i E dp;have:i=0\/i=1:=by omega
   rcases this with rfl | rfl
   ·rw[<-asD];simp[Array.getD,bW]
   ·rw[<-pN];simp[Array.getD,bW]
  subst jd;rw[aV];by_cases bb:n=0
  ·subst bb;refine (h0 w).mono ?_;rintro y w' ⟨rfl,rfl⟩;refine⟨_,([],()),[.slice none 0 0],_,F,rfl,rfl,⟨[.slice none 0 0],rfl,rfl,[],rfl,rfl⟩,aak h au (kb:=⟨0,0,0,true⟩) rfl (Nat.le_refl _) (λ_ _=>rfl) (cM.refl _) nofun nofun⟩
  ·obtain⟨m,rfl⟩:∃ m:Nat,n=m:=⟨n.toNat,by omega⟩
   refine (h1 m w (by omega) (by omega)).mono ?_;rintro y w' ⟨bZ,T,cs,rfl,rfl,fT,oR⟩;refine⟨_,([],()),[.slice (some ⟨w.heap.size,0,none⟩) 0 bZ],_,F,rfl,rfl,⟨[_],rfl,rfl,[],rfl,rfl⟩,aak h au (kb:=⟨w.heap.size,0,bZ,false⟩) rfl (by simp) (λr G=>?_) ⟨rfl,rfl,rfl⟩ (λ_=>⟨rfl,by simp⟩) (λ_=>⟨cs,T,?_,by simpa using oR,fT⟩)⟩
   ·exact oN w.drew _ G
   ·show (w.drew.heap.push _)[w.heap.size]?=_;exact Array.getElem?_push_size
theorem aam{aF:Go.Shelf.Ren}(L:Go.Proofs.Lays8.n4 P aF)(w:World):Calls P (aF.f 4) #[.slice none 0 0,.int .i64 0] w λe w'=>e=.returned (.slice none 0 0)/\w'=w:=
 Go.Proofs.Any8.slices_Grow_room L none 0 0 0 w (Nat.le_refl _) (by decide) (by decide) (Nat.le_refl _)
theorem aan{aF:Go.Shelf.Ren}(L:Go.Proofs.Lays8.n4 P aF)(aG:bQ P e (aF.t 25))(hs:e.size≠0)(n:Nat)(w:World)(h0:0<n)(h1:n<60000) :
  Calls P (aF.f 4) #[.slice none 0 0,.int .i64 (n:Int)] w λy w'=>∃ (bZ:Nat) (T:TypeId) (cs:Array Value),y=.returned (.slice (some ⟨w.heap.size,0,none⟩) 0 bZ)/\w'=w.drew.alloc (.cells cs T)/\bZ<2 ^ 63/\bZ*e.size<=cs.size:=by
 obtain⟨i0,z,n_,bW,ab,Ku,asE,_⟩:=kh aG.kg;have mM:0<i0.size:=by omega
 have tA:=(BV (P:=P) e asE).2;refine (Go.Proofs.Any8.slices_Grow_grow L i0 z n_ Ku mM none 0 0 n [] w (Nat.le_refl _) (by omega) ?_ (by omega) (by simp) (λ_=>rfl) nofun).mono ?_
 ·have:(0+n)*i0.bytes<=(0+n)*1024:=Nat.mul_le_mul_left _ ab;omega
 ·rintro y w' ⟨rfl,rfl⟩;refine⟨_,_,_,rfl,rfl,?_,?_⟩
  ·have:=grownCap_le_maxLen w (0+n) 0 (aF.t 25) (by unfold maxLen;omega);unfold maxLen at this;omega
  ·have:=grownCap_ge w (0+n) 0 (aF.t 25);generalize grownCap w (0+n) 0 (aF.t 25)=bZ at this;simp only[Array.size_append,size_zeroCells,tA];have e1:(0+n - 0)*e.size+(bZ - (0+n))*e.size=bZ*e.size:=by rw[<-Nat.add_mul];congr 1;omega
   have e2:(#[]:Array Value).size=0:=rfl;omega
end
end Go.Fer
namespace Go.Fer.nZ
open Go.Proofs
def EE(U:dj)(c:IOC)(sh:Nat->c.b7.ah->M c.bC.ah):List Nat->Prop
 | []=>True
 | k::l=>IoSpec Tryz.prog U k { c with sh:=sh k }/\EE U c sh l
theorem EE.mem{U:dj}{c:IOC}{sh:Nat->c.b7.ah->M c.bC.ah}:∀ {l:List Nat},EE U c sh l->∀ k∈l,IoSpec Tryz.prog U k { c with sh:=sh k }
 | [],_,k,h=>by cases h
 | j::l,h,k,ao=>by
  rcases List.mem_cons.1 ao with rfl | ao
  ·exact h.1
  ·exact EE.mem h.2 k ao
theorem yA{k:Nat}{e:af}{f:List e.ah×Unit->M (List e.ah×Unit)}{sh:(af.slice e).ah->M (af.slice e).ah}(h:IoSpec Tryz.prog noU k ⟨⟨[(0,.val (.slice e))],[]⟩,⟨[(0,.own 60)],[(60,.a8 e)]⟩,[none],1,f⟩)
  (hp:∀ x:List e.ah,(sh x).bY->(f (x,())).bY/\∀ τ,(f (x,())).bC τ->τ.1=(sh x).val (af.slice e).cO):nu (SC.ow ⟨.slice e,.slice e,sh,true⟩).tr=true/\B9 Tryz.prog k (SC.ow ⟨.slice e,.slice e,sh,true⟩):=
 aiU (by simp) h me (b0:=60) (λx=>(x,())) (λx=>rfl) rfl (by show 1<=ev;decide) rfl (λτ=>τ.1) (λτ=>⟨rfl,rfl⟩) hp
abbrev asF:Code:=Tryz.f161.body.getD .skip
theorem asG(U:dj):IoSpec Tryz.prog U 161 pE:=
 asA (tV Tryz.func161 (show Tryz.f161.body=some asF by kernel_rfl) (by kernel_rfl)) (λad off cap zs w h1 h2 h3=>calls_of_every_depth λD=>AnyS.slices_Sort_int_in Tryz.Z_ D ad off cap zs w h1 h2 h3)
  λp cap w=>Any.slices_Sort_int_none Tryz.Z_ p cap w
theorem asH:Qc=H.xV:=by
 funext x;unfold Qc H.xV;rw[show x.1.mergeSort (λa b=>decide (a<=b))=H.e_ H.gX x.1 from (H.Ah ((List.pairwise_mergeSort (le:=λa b:Int=>decide (a<=b)) (λa b c h1 h2=>by simp at h1 h2 ⊢;omega) (λa b=>by simp;omega) x.1).imp λh=>by simpa using h) (List.mergeSort_perm _ _).symm).symm]
def Qd:IOC:=⟨⟨[(0,.own 200001)],[(200001,.a8 t3)]⟩,⟨[],[(200001,.a8 t3)]⟩,[],1,H.xV⟩
theorem aao:IoSpec Tryz.prog noU 161 Qd:=by
 have:=asG noU;unfold pE at this;rw[asH]at this;exact this
abbrev asI:Code:=Tryz.f257.body.getD .skip
abbrev asJ:Code:=Tryz.f256.body.getD .skip
def aap:IOC:=⟨⟨[(0,.cR),(1,.val t3)],[]⟩,⟨[(0,.own 50000)],[(50000,.a8 t3)]⟩,[none],2,H.IG⟩
def aaq:IOC:=⟨⟨[(0,.cR),(1,.val t3)],[]⟩,⟨[(0,.own 50000)],[(50000,.a8 H.gV)]⟩,[none],2,H.IH⟩
theorem asK:IoSpec Tryz.prog noU 257 aap:=
 aal (e:=t3) (tV Tryz.func257 (show Tryz.f257.body=some asI by kernel_rfl) (by kernel_rfl)) (aam Tryz.Z') (aan Tryz.Z' (nM.bO (id:=3) rfl (by decide)) (by decide))
theorem asL:IoSpec Tryz.prog noU 256 aaq:=
 aal (e:=H.gV) (tV Tryz.func256 (show Tryz.f256.body=some asJ by kernel_rfl) (by kernel_rfl)) (aam Tryz.aaa) (aan Tryz.aaa (nM.bO (id:=125) rfl (by decide)) (by decide))
def g1:=aiS.cons (n:=139) (c:=W.I1.c8) ⟨ase,λ_ _=>M.vs⟩
def dW:=g1.cons (n:=204) (c:=W.IS.c8) ⟨asi,λ_ _=>M.vs⟩
def g3:=dW.cons (n:=258) (c:=W.Eu.c8) ⟨asl,λ_ _=>M.vs⟩
def asM:=g3.cons (n:=140) (c:=W.Ew.c8) ⟨asw,λ_ _=>M.vs⟩
end Go.Fer.nZ
namespace Go.Fer.W
open M (aa)
open H (gp)
theorem asN{d:aX}{m:List H.aU}{v:z1'}:(nW d m v).1≠qq->(nW d m v).2=d:=by
 unfold nW;grind
theorem aar{d:aX}{s:br}:(kR d s).1≠qq->(kR d s).2=d:=by
 unfold kR;grind
theorem asO(j:Nat)(d:aX)(l:z1'):(qu j d l).1≠qq->(qu j d l).2=d:=by
 unfold qu;split<;>first
  | exact λ_=>rfl
  | exact asN
  | exact aar
  | (unfold na;grind)
  | (unfold uE;grind)
  | (unfold uD;split;exact λ_=>rfl;exact aar)
def jQ(n:Int):aL:=if n<0 then PC else Go.Lib.decDigits n.toNat
theorem Qe(u:Nat):Go.Lib.decDigits u=(if u<10 then [] else Go.Lib.decDigits (u / 10))++[UInt8.ofNat (48+u % 10)]:=by
 split
 ·rw[Go.Lib.decDigits_one (by omega),Nat.mod_eq_of_lt (by omega)];rfl
 ·conv=>lhs;unfold Go.Lib.decDigits
  rw[dif_neg (by omega)]
theorem aas(k:Nat):UInt8.ofNat (Int.toNat (IntKind.wrap .u8 (IntKind.wrap .i64 (Add.add 48 (Int.tmod (k:Int) 10)))))=UInt8.ofNat (48+k % 10):=by
 have e:Int.tmod (k:Int) 10=((k % 10:Nat):Int):=rfl;rw[e,b2,bn (by omega) (by omega),Z0 (by omega) (by omega)];congr 1
theorem aat:∀ (k u:Nat),u<10 ^ (k+1)->Go.Lib.nDigits u<=k+1
 | 0,u,h=>by rw[Go.Lib.nDigits_small (by omega)];omega
 | k+1,u,h=>by
  unfold Go.Lib.nDigits;split
  ·omega
  ·have:=aat k (u / 10) (by rw[Nat.pow_succ]at h;omega);omega
abbrev Ji:aJ:=⟨.int .i64,.str,λn=>n<2 ^ 63,jQ⟩
theorem asP(x):M.le (Ys x) (Ji.sh x):=M.bg λh=>by
 change x<2 ^ 63 at h;unfold Ys;show _=M.pure (jQ x);unfold jQ;by_cases hx:x<0
 ·rw[if_pos (decide_eq_true hx),if_pos hx]
 ·rw[if_neg (by simpa using hx),if_neg hx,M.bk (by decide)];obtain⟨u,rfl⟩:∃ u:Nat,x=u:=⟨x.toNat,by omega⟩
  have Bc:=Go.Lib.nDigits_le20 u (by omega);rw[<-Go.Lib.decDigits_length]at Bc;have e:=Qe u;rw[M.acg (res:=aa.next (Go.Lib.decDigits u,())) (λs=>∃ k:Nat,s.1=(k:Int)/\k<=u/\Go.Lib.decDigits u=(if k<10 then [] else Go.Lib.decDigits (k / 10))++s.2.1) (λs=>s.1.toNat) ?_ _ ⟨u,rfl,Nat.le_refl _,by rw[aas];exact e⟩,M.aE]
  ·rfl
  ·rintro⟨n,t,⟨⟩⟩ ⟨k,h1,h2,h3⟩;change n=(k:Int) at h1;subst h1;change _=_++t at h3;have asQ:=congrArg List.length h3;rw[List.length_append]at asQ;have DQ:Int.tdiv (k:Int) 10=((k / 10:Nat):Int):=rfl;by_cases ao:k<10
   ·right;rw[if_pos ao,List.nil_append]at h3;simp only[DQ];rw[if_neg (by simp;omega),M.aE,h3]
   ·left;rw[if_neg ao,Qe (k / 10),List.append_assoc]at h3;refine⟨(((k / 10:Nat):Int),[UInt8.ofNat (48+k / 10 % 10)]++t,()),?_,⟨k / 10,rfl,by omega,h3⟩,by show (((k / 10:Nat):Int)).toNat<((k:Int)).toNat;omega⟩;simp only[DQ];rw[if_pos (by simp;omega),M.bk (by decide),M.bk (by decide),M.bk (gp (by simp only[hX];omega)),bn (by omega) (by omega),aas]
theorem Qf{n:Int}(h:n<=999999):(jQ n).length<=6:=by
 unfold jQ;split
 ·decide
 ·rw[Go.Lib.decDigits_length];exact aat 5 _ (by omega)
def pF(w:aL)(l:z1'):aL:=l.foldl (λs n=>s++([32]++jQ n)) w
abbrev Bd:aJ:=⟨.aw .str fm,.str,λx=>x.1.length<=1000/\x.2.length<=1000/\∀ n∈x.2,n<=999999,λx=>pF x.1 x.2⟩
theorem asR(x):M.le (Yv Ji.sh x) (Bd.sh x):=M.bg λh=>by
 obtain⟨w,l⟩:=x;obtain⟨h1,h2,h3⟩:w.length<=1000/\l.length<=1000/\∀ n∈l,n<=999999:=h;unfold Yv;show _=M.pure (pF w l);rw[M.fZ l (λi (s:aL)=>(s,l,(i:Int),())) (λn s=>.next (s++([32]++jQ n))) (λs=>.next (s,())) (λi s=>s.length<=1000+7*i) w ?_ (by omega) ?_ ?_]
 ·rw[dP,M.aE];rfl
 ·rfl
 ·intro i E s hs;have hw:=bn (n:=(i:Int)+1) (by omega) (by omega);have az:=h3 _ (List.getElem_mem E);have aG:=Qf az;refine⟨?_,λaZ cS=>?_⟩
  ·simp only[bG,cC E,if_true,cV E,ct E,M.be,b2,hw];rw[show Ji.sh l[i]=M.pure (jQ l[i]) from M.bE (show l[i]<2 ^ 63 by omega) _,M.aE,M.bk (gp (by simp only[hX];omega)),M.bk (gp (by simp only[hX];omega))];rfl
  ·simp only[aa.next.injEq]at cS;subst cS;simp only[List.length_append,List.length_cons,List.length_nil];omega
 ·simp
theorem asS{w:aL}{l:z1'}(h1:w.length<=1000)(h2:l.length<=1000)(h3:∀ n∈l,n<=999999):Bd.sh (w,l)=M.pure (pF w l):=M.bE ⟨h1,h2,h3⟩ _
theorem aau{n:Nat}:∀ {l:z1'} {w:aL},(∀ n∈l,n<=999999)->w.length<=n->(pF w l).length<=n+7*l.length
 | [],w,_,h=>h
 | k::l,w,h,hw=>by
  have aG:=Qf (h k (by simp));have:=aau (n:=n+7) (l:=l) (w:=w++([32]++jQ k)) (λn az=>h n (by simp[az])) (by simp;omega);show (pF (w++([32]++jQ k)) l).length<=_;simp only[List.length_cons];omega
theorem aav:∀ (a b:aL),cj (a++32::b)=cj a++cj b
 | [],b=>by simp[cj]
 | c::a,b=>by
  have aH:=aav a b;have ai:=uC a;simp only[List.cons_append,cj];split
  ·rw[aH];rfl
  ·rw[aH];cases h:cj a with
   | nil=>exact absurd ai.1 (by rw[h];decide)
   | cons v l=>rfl
theorem aaw:∀ (w:aL),(∀ c∈w,c≠32)->cj w=[w]
 | [],_=>rfl
 | c::w,h=>by
  have aH:=aaw w λd au=>h d (by simp[au]);simp only[cj];rw[if_neg (h c (by simp)),aH]
theorem asT(u:Nat):∀ c∈Go.Lib.decDigits u,c≠32:=by
 induction u using Nat.strongRecOn with
 | _ u aH=>
  intro c hc;rw[Qe,List.mem_append]at hc;rcases hc with hc | hc
  ·split at hc
   ·cases hc
   ·exact aH (u / 10) (by omega) c hc
  ·rw[List.mem_singleton]at hc;subst hc;have:=Jh (u % 10) (by omega);intro e;rw[e]at this;have:((32:UInt8).toNat:Int)=32:=by decide
   omega
theorem asU(n:Int):cj (jQ n)=[jQ n]:=by
 refine aaw _ ?_;unfold jQ;split
 ·decide
 ·exact asT _
theorem aax:∀ (l:z1') (w:aL),cj (pF w l)=cj w++l.map jQ
 | [],w=>by simp[pF]
 | n::l,w=>by
  show cj (pF (w++32::jQ n) l)=_;rw[aax l,aav,asU];simp
theorem aay{n:Int}(h0:0<=n)(h1:n<=999999):eF (jQ n)=n:=by
 have ai:=Qf h1;unfold jQ at ai ⊢;rw[if_neg (by omega)]at ai ⊢;obtain⟨aO,aP⟩:=aag n.toNat;have hp:=List.length_pos_iff.2 aO;unfold eF;rw[if_neg,aaf]
 ·omega
 ·simp only[Bool.or_eq_true,Bool.and_eq_true,decide_eq_true_eq,not_or,not_and];exact⟨⟨by omega,by omega⟩,aP⟩
theorem asV{l:z1'}(h:∀ n∈l,0<=n/\n<=999999):Es (l.map jQ)=some l:=by
 unfold Es;have e:(l.map jQ).map eF=l:=by
  rw[List.map_map];conv=>rhs;rw[<-List.map_id l]
  exact List.map_congr_left λn az=>aay (h n az).1 (h n az).2
 rw[e,if_pos];rw[List.all_map,List.all_eq_true];intro n az;have:=h n az;have:=aay (h n az).1 (h n az).2;simp only[Function.comp,decide_eq_true_eq];omega
theorem asW{w:aL}{k:Int}{m:Bool}{j:Nat}{l:z1'}(hw:cj w=[w])(ar:nX w kt 0=some (k,m,j))(ao:k<=(l.length:Int)/\((l.length:Int)<=k\/m=true))(ai:∀ n∈l,0<=n/\n<=999999):Et (pF w l)=some (j,l):=by
 unfold Et;rw[aax,hw];have e1:(([w]++l.map jQ).getD 0 [])=w:=rfl;have e2:(([w]++l.map jQ).drop 1)=l.map jQ:=rfl;have e3:((([w]++l.map jQ).length:Int) - 1)=(l.length:Int):=by simp
 rw[e1,e2,e3,ar,asV ai];simp only;rw[if_neg]
 ·rfl
 ·simp only[Bool.or_eq_true,Bool.and_eq_true,decide_eq_true_eq,Bool.not_eq_true',not_or,not_and,Bool.not_eq_false];refine⟨by omega,λh=>?_⟩;rcases ao.2 with h2 | h2
  ·omega
  ·exact h2
theorem asX{w:aL}{k:Int}{m:Bool}{j:Nat}{l:z1'}(hw:cj w=[w])(ar:nX w kt 0=some (k,m,j))(ao:k<=(l.length:Int)/\((l.length:Int)<=k\/m=true))(ai:∀ n∈l,0<=n/\n<=999999)(d:aX):kc d (pF w l)=qu j d l:=by
 unfold kc;rw[asW hw ar ao ai]
theorem asY{d:aX}(h:cW d.1.1 true=0)(l:z1')(j:Nat):cW (qu j d l).2.1.1 true=0:=by
 have an:∀ m v,cW (nW d m v).2.1.1 true=0:=λm v=>by
  unfold nW;split<;>exact h
 have aG:∀ s:br,s.1=d.1.1->cW (kR d s).2.1.1 true=0:=λs hs=>by
  unfold kR;split
  ·exact h
  ·show cW s.1 true=0;rw[hs];exact h
 unfold qu;split<;>try exact h
 ·exact an _ _
 ·exact an _ _
 ·exact an _ _
 ·unfold na;split
  ·exact h
  split
  ·exact h
  rename_i h1 h2;have h2:(sN (lV d.1.1 (ba l 0,ba l 1,ba l 2,ba l 3)) (ba l 0)).2=0:=by omega
  unfold sN at h2;split at h2
  ·contradiction
  ·rename_i h3;have ao:=Decidable.of_not_not h3;obtain⟨aO,_,bA⟩:=AQ ao;show cW (lV d.1.1 (ba l 0,ba l 1,ba l 2,ba l 3)) true=0;unfold cW;rw[if_neg (by rw[aO];decide),if_neg (by decide),if_pos bA]
 ·unfold uD;split
  ·exact h
  ·exact aG _ rfl
 ·exact aG _ rfl
 ·exact aG _ rfl
 ·exact aG _ rfl
 ·unfold uE;split<;>exact h
theorem asZ{d:aX}(h:cW d.1.1 true=0)(s:aL):cW (kc d s).2.1.1 true=0:=by
 unfold kc;split
 ·exact h
 ·exact asY h _ _
theorem aaz{d:aX}(h:cW d.1.1 true=0)(l:List aL):cW (gZ d l).2.1.1 true=0:=P5 (p:=λd=>cW d.1.1 true=0) (q:=λ_=>True) (λd s h _=>asZ h s) l d h λ_ _=>trivial
theorem ace(x:aX×List aL×Int×Int×Int×Int)(h1:fb x.1.1)(h2:H.iF x.1.2)(h3:x.2.1.length<2 ^ 63):OP sM.sh uF.sh EA.sh EC.sh ED.sh Bd.sh x=M.pure true:=by
 obtain⟨d,l,g,o,i,f⟩:=x;unfold OP;rw[GF h1 h2 h3,M.aE,Z4,show sM.sh d.1.1=M.pure (cW d.1.1 true) from M.bE h1.1 _,M.j6,M.aE];by_cases hc:(!uI d l&&decide (jO d=0)&&decide ((l.length:Int)<=39))=true/\cW d.1.1 true=0/\(0<=g/\0<=o/\0<=i/\0<=f)/\g<=999/\o<=999/\i<=999/\f<=999
 ·obtain⟨G,ao,hp,an⟩:=hc;rw[if_neg (by simp only[G,ao];grind)];obtain⟨au,az,as0⟩:=arZ h1 h2 G;have az:l.length<=39:=by omega
  have ai:∀ s∈l,s.length<=10000:=λs hs=>by have:=as0 s hs;omega
  rw[Z5 au (by omega) ai,M.aE];have j1:=ZT au;have c7:Bd.sh ([116,114,105,97,108],[g,o,i,f])=M.pure (pF [116,114,105,97,108] [g,o,i,f]):=asS (by decide) (by simp) (by simp;omega);have hT:=aau (n:=5) (l:=[g,o,i,f]) (w:=[116,114,105,97,108]) (by simp;omega) (by decide);have as1:∀ X,kc X (pF [116,114,105,97,108] [g,o,i,f])=na X [g,o,i,f]:=asX (k:=4) (m:=false) (j:=9) (by decide) (by decide) (by simp) (by simp;omega);generalize pF [116,114,105,97,108] [g,o,i,f]=T at *
  have aaA:∀ s∈l++[T],s.length<=10000:=λs hs=>by
   rcases List.mem_append.1 hs with hs | hs
   ·exact ai s hs
   ·rw[List.mem_singleton.1 hs];simp at hT;omega
  have q2:=Z5 au (l:=l++[T]) (by simp;omega) aaA;have r8:=ZU j1 ai;have hb:=ZU j1 aaA;have aaB:cW (hB d).1.1 true=0:=ao;have as2:=aaz aaB l;have Jj:=aaz aaB (l++[T]);have hlen:=aqN (hB d) l;have e:gZ (hB d) (l++[T])=((gZ (hB d) l).1++[(kc (gZ (hB d) l).2 T).1],(kc (gZ (hB d) l).2 T).2):=aqM _ _ _;rw[e]at q2 Jj hb;generalize (gZ (hB d) l).1=a at *
  generalize (gZ (hB d) l).2=X at *
  rw[as1]at q2 Jj hb;have Qg:=asO 9 X [g,o,i,f];change (na X [g,o,i,f]).1≠qq->(na X [g,o,i,f]).2=X at Qg;have aaC:(na X [g,o,i,f]).1=qq->(na X [g,o,i,f]).2.1.1.2.2.2=X.1.1.2.2.2++[(g,o,i,f)]:=by
   unfold na;split
   ·exact λh=>absurd (show yo=qq from h) (by decide)
   split
   ·exact λh=>absurd (show ZH=qq from h) (by decide)
   ·exact λ_=>rfl
  generalize na X [g,o,i,f]=V at *
  obtain⟨v,Y⟩:=V;simp only at q2 Jj hb Qg aaC;have hw:=bn (n:=(l.length:Int)+1) (by omega) (by omega);have q3:sM.sh X.1.1=M.pure 0:=by
   have e:sM.sh X.1.1=M.pure (cW X.1.1 true):=M.bE r8.gv.1 _;rw[e,as2]
  have rq:sM.sh Y.1.1=M.pure 0:=by
   have e:sM.sh Y.1.1=M.pure (cW Y.1.1 true):=M.bE hb.gv.1 _;rw[e,Jj]
  have iD:(a++[v]).getD l.length []=v:=by rw[List.getD_eq_getElem?_getD,List.getElem?_append_right (by omega),hlen,Nat.sub_self];rfl
  simp only[c7,M.fi,M.iG,List.nil_append,q2,M.be,q3,rq,M.j6,M.aE,bG,b2,hw,Int.toNat_natCast,iD];rw[M.bk (gp (by simp only[hX];omega)),M.bk (gp (by simp only[hX];omega)),if_neg (by simp[hlen]),M.bk (by simp[hlen];omega)];by_cases hv:v=qq
  ·have aG:=aaC hv;have aym:X.1.1.2.2.2.length<2 ^ 62:=by have:=r8.copy.1.2.2.1;omega
   have gl:=bn (n:=(X.1.1.2.2.2.length:Int)+1) (by omega) (by omega);have as3:(X.1.1.2.2.2++[(g,o,i,f)]).getD X.1.1.2.2.2.length (0,0,0,0)=(g,o,i,f):=by rw[List.getD_eq_getElem?_getD,List.getElem?_append_right (Nat.le_refl _),Nat.sub_self];rfl
   rw[if_neg (by simp[hv]),aG];simp[gl,as3,Z4];exact M.bk (by omega) _
  ·have as4:Y=X:=Qg hv;rw[if_pos (by simpa using hv),as4,arV r8];simp[M.j6]
 ·rw[if_pos (by grind),M.aE]
end Go.Fer.W
namespace Go.Fer.nZ
open Go.Proofs Go.Proofs.Tryz
open M (aa)
set_option maxRecDepth 100000
noncomputable section
abbrev L:ca:=.eo
abbrev S(a b:ca):ca:=.seq a b
abbrev D:ca:=S L L
abbrev C(a b:ca):ca:=.cond a b
abbrev B(a:ca):ca:=.block a
abbrev J(s:List (Nat×bI))(b:List (Nat×bN))(x y:ca):ca:=.join ⟨s,b⟩ x y
abbrev W(s:List (Nat×bI))(b:List (Nat×bN))(x:ca):ca:=.loop ⟨s,b⟩ x
abbrev bZ(s:List (Nat×bI))(b:List (Nat×bN))(t:List (Nat×bI))(c:List (Nat×bN))(u:List (Nat×bI))(d:List (Nat×bN))(x y:ca):ca:=.range ⟨s,b⟩ ⟨t,c⟩ ⟨u,d⟩ x y
abbrev v2:bI:=.val t2
abbrev a2:bN:=.a8 t2
abbrev v4:bI:=.val t4
abbrev v9:bI:=.val t9
abbrev a9:bN:=.a8 t9
abbrev v22:bI:=.val t22
abbrev rB:bI:=.val Di
abbrev v24:bI:=.val G0
abbrev wm:bN:=.fL tX
abbrev dS:bI:=.val t27
abbrev EF:bN:=.a8 t27
abbrev v28:bI:=.val t28
abbrev Be:bI:=.val G1
abbrev pG:bI:=.val zZ
abbrev yB:bN:=.fL t32
abbrev nj:bI:=.val p_
abbrev v34:bI:=.val t34
abbrev aaD:bN:=.fL ML
abbrev Jk:bN:=.fL s4
abbrev EG:bN:=.fL wv
abbrev Qh:bN:=.a8 uM
abbrev rC:bI:=.val ER
abbrev Jl:bN:=.a8 xF
abbrev Qi:bN:=.fL xF
abbrev as5:bN:=.a8 vo
abbrev Bf:bN:=.a8 q9
abbrev as6:bN:=.fL q9
abbrev as7:bN:=.a8 xH
abbrev aaE:bN:=.fL xH
abbrev as8:bI:=.val MN
abbrev EH:bN:=.fL qa
abbrev aaF:bI:=.val Uu
abbrev Bg:bI:=.val Dj
abbrev aaG:bI:=.val iQ
abbrev wo:bN:=.a8 iQ
abbrev Qj:bI:=.val vp
abbrev aaH:bI:=.val Uv
abbrev aaI:bI:=.val pa
abbrev EI:bN:=.a8 pa
abbrev as9:bI:=.val Uw
abbrev aaJ:bI:=.val MP
abbrev aaK:bI:=.val MQ
abbrev gD:bN:=.a8 qb
abbrev yC:bN:=.fL qb
abbrev Qk:bI:=.val MR
abbrev ku:bI:=.val ot
abbrev as_:bI:=.val UC
abbrev aaL:bN:=.fL MM
abbrev Ql:bN:=.a8 zX
abbrev aaM:bN:=.fL zX
abbrev Qm:bI:=.val GZ
abbrev aaN:bN:=.a8 xG
abbrev as':bN:=.a8 zY
abbrev aaO:bN:=.fL zY
abbrev ata:bI:=.val UD
abbrev Qn:bI:=.val MT
abbrev v228:bI:=.val t228
abbrev atb:bI:=.val UG
abbrev atc:bI:=.val UH
abbrev atd:bI:=.val UI
abbrev Bh:bI:=.val UJ
abbrev ate:bI:=.val UK
abbrev atf:bI:=.val UL
abbrev Jm:bI:=.val Dl
abbrev mZ:List (Nat×bI):=[(6,.loc 17 0),(56,.hn [30000,30001,30002,30003,30004,30005,30006,30007,30008,30009]),(57,v2)]
abbrev nk:List (Nat×bI):=[(1,.loc 1 0)]
abbrev aaP:List (Nat×bI):=[(1,.loc 1 0),(2,.loc 2 0),(3,.loc 1 0),(38,v2),(39,v2)]
abbrev aaQ:List (Nat×bI):=[(2,.loc 2 0),(7,.loc 22 0),(8,.loc 8 0),(9,.loc 9 0),(10,.own 10),(11,.loc 11 0),(24,v22),(25,v2),(26,v2)]
abbrev aaR:List (Nat×bI):=[(2,.loc 2 0),(3,.loc 3 0),(4,.own 4),(5,.own 5),(7,Qj),(8,v2),(9,v2),(23,v2),(29,Qk),(30,v2),(31,v2)]
abbrev sZ:List (Nat×bI):=[(1,.loc 1 0),(3,v2)]
abbrev aaS:List (Nat×bI):=[(2,.loc 2 0),(7,.loc 30 0),(10,v2),(11,v2),(46,v2),(47,v2),(52,rB),(53,v2),(54,v2),(61,v2),(62,v2)]
abbrev atg:List (Nat×bI):=[(1,.loc 1 0),(2,.loc 2 0),(3,.loc 1 0),(5,.iI 22),(38,v2),(39,v2),(60,v2),(61,v2)]
abbrev aaT:List (Nat×bI):=[(0,ku),(1,dS),(2,v2),(3,.gM),(9,v2),(29,v28),(30,v2),(31,v2),(1000000,.tr t27)]
abbrev aaU:List (Nat×bI):=[(0,ku),(1,.own 200001),(2,pG),(3,v2),(4,.fp 100002),(16,nj),(17,v2),(18,v2)]
abbrev Qo:List (Nat×bI):=[(1,.loc 1 0),(2,.loc 2 0)]
abbrev aaV:List (Nat×bI):=[(2,.loc 2 0),(3,.loc 3 0),(4,.own 4),(5,.own 5),(7,Qj),(8,v2),(9,v2),(23,v2)]
abbrev aaW:List (Nat×bI):=[(2,.loc 2 0),(7,.loc 30 0),(10,v2),(46,v2),(47,v2),(52,rB),(53,v2),(54,v2)]
abbrev aaX:List (Nat×bI):=[(0,.gM),(2,.dz vp),(10,aaK),(11,v2),(1000000,.tr (.aw iQ t2))]
abbrev aaY:List (Nat×bI):=[(2,v2),(6,.loc 6 0),(8,.loc 8 0),(9,v4),(17,aaJ),(18,v2),(19,v2)]
abbrev aaZ:List (Nat×bI):=[(4,.loc 4 0),(5,.loc 5 0),(10,.fp 24),(28,Qk),(29,v2),(30,v2)]
abbrev aa0:List (Nat×bI):=[(2,.loc 2 0),(3,.loc 3 0),(4,.own 4),(5,.own 5),(7,Qj),(23,v2)]
abbrev Bi:List (Nat×bI):=[(1,.loc 1 0),(5,v2)]
abbrev aa1:List (Nat×bI):=[(0,aaF),(1,v2),(2,v2),(3,v2),(9,v2),(18,dS),(19,v2),(20,v2)]
abbrev aa2:List (Nat×bI):=[(1,v2),(6,ku),(8,.own 8),(9,.own 50260),(29,v2),(30,v2)]
abbrev aa3:List (Nat×bI):=[(1,rC),(2,.loc 2 0),(5,v2),(6,v2),(7,v2),(8,v2),(10,v2)]
abbrev Jn:List (Nat×bI):=[(1,.loc 1 0),(3,v2),(4,v2)]
abbrev aa4:List (Nat×bI):=[(1,as9),(4,.loc 4 0),(5,v4),(13,Qk),(14,v2),(15,v2)]
abbrev aa5:List (Nat×bI):=[(0,ku),(1,pG),(5,.own 50140),(6,v2),(16,v2),(17,v2)]
abbrev Jo:List (Nat×bI):=[(2,.loc 2 0),(3,.loc 3 0)]
abbrev Qp:List (Nat×bI):=[(2,.loc 2 0),(3,.loc 3 0),(7,v2)]
abbrev jm:List (Nat×bN):=[(17,.cells Dk [dS,.own 30000,.own 30001,.own 30002,.own 30003,.own 30004,.own 30005,.own 30006,.own 30007,.own 30008,.own 30009]),(30000,gD),(30001,gD),(30002,gD),(30003,gD),(30004,gD),(30005,gD),(30006,gD),(30007,gD),(30008,gD),(30009,gD),(100000,.cells q_ [nj,v34,dS,nj,v2,v2,v2,v2,v2,v2,v2,v34,.own 100002]),(100002,EI)]
abbrev s3:List (Nat×bN):=[(12,yC),(17,.cells Dk [dS,.own 30000,.own 30001,.own 30002,.own 30003,.own 30004,.own 30005,.own 30006,.own 30007,.own 30008,.own 30009]),(30000,gD),(30001,gD),(30002,gD),(30003,gD),(30004,gD),(30005,gD),(30006,gD),(30007,gD),(30008,gD),(30009,gD),(100000,.cells q_ [nj,v34,dS,nj,v2,v2,v2,v2,v2,v2,v2,v34,.own 100002]),(100002,EI)]
abbrev Jp:List (Nat×bN):=[(1,.cells t32 [.own 17,.own 22,v2,.own 27,.own 84,.own 87,.own 90,.own 93,v2]),(2,.cells t32 [.cR,.cR,v2,.cR,.cR,.cR,.cR,.cR,v2]),(17,Ql),(22,aaN),(27,Qh),(84,a2),(87,as7),(90,as5),(93,Bf)]
abbrev aa6:List (Nat×bN):=[(1,.cells t32 [.own 17,.own 22,v2,.own 27,dS,v28,Be,pG,v2]),(2,.cells t32 [.cR,.cR,v2,.cR,.cR,.cR,.cR,.cR,v2]),(17,Ql),(22,.fQ xG (.own 50530)),(27,Qh),(50530,as')]
abbrev wq:List (Nat×bN):=[(2,yB),(28,.mp q9 t2),(30,.cells t222 [v22,rB,v2,v24,dS,v28,Be,pG,v2,.cR,.fp 28])]
abbrev aa7:List (Nat×bN):=[(1,.cells t32 [.own 17,.own 22,v2,.own 27,dS,v28,Be,pG,v2]),(2,.cells t32 [.cR,.cR,v2,.cR,.cR,.cR,.cR,.cR,v2]),(17,Ql),(22,aaN),(27,Qh)]
abbrev aa8:List (Nat×bN):=[(4,a9),(5,.cells wv [.cR,.cR,v2,.cR,.cR,.cR,.cR,.cR,v2,.cR,.cR,.cR,.cR,v2,v2,v2,v2,v2,v2,v2]),(50230,EH)]
abbrev Bj:List (Nat×bN):=[(2,Jk),(3,.gq t2),(4,a2),(5,a2)]
abbrev aa9:List (Nat×bN):=[(2,yB),(28,.mp q9 t2),(30,.cells t222 [v22,rB,v2,v24,dS,v28,Be,pG,v2,.own 109,.fp 28]),(109,Jl)]
abbrev aa_:List (Nat×bN):=[(28,.mp q9 t2),(30,.cells t222 [v22,rB,v2,v24,dS,v28,Be,pG,v2,.own 109,.fp 28]),(109,Jl)]
abbrev aa':List (Nat×bN):=[(100000,.cells q_ [nj,v34,dS,nj,v2,v2,v2,v2,v2,v2,v2,v34,.own 100002]),(100002,EI)]
abbrev nl:List (Nat×bN):=[(1,wm)]
abbrev nY:List (Nat×bN):=[(1,Jk)]
abbrev aba:List (Nat×bN):=[(2,.gq tX),(22,.cells xI [v22,rB,v2,v24,.own 61]),(61,EF)]
abbrev yD:List (Nat×bN):=[(2,wm),(3,wm)]
abbrev qx:List (Nat×bN):=[(1,yB)]
abbrev Qq:List (Nat×bN):=[(100002,.mp t2 t2),(200001,a2)]
abbrev EJ:List (Nat×bN):=[(2,Jk),(3,Jk)]
abbrev EK:List (Nat×bN):=[(5,yB),(6,yB)]
abbrev e0:ca:=S L (C D L)
abbrev dK:ca:=C L L
abbrev e1:ca:=S L dK
abbrev e2:ca:=S L D
abbrev lW:ca:=S L e0
abbrev e3:ca:=S L (S dK (S (B lW) L))
abbrev e4:ca:=S L (S dK (S (B D) L))
abbrev dC:ca:=S e1 (S (B e0) L)
abbrev kS:ca:=S L (S L (S L (J Qo aa7 (S L (B (W aaP aa7 (S L (S dK (J aaP aa6 (B (S L (S L (S (.nz 5 L) (S L (B (W atg aa6 e4))))))) (.F2 22 L))))))) (S L (J Qo Jp (S L (B (W [(1,.loc 1 0),(2,.loc 2 0),(100,v2),(101,v2)] Jp e4))) (J Qo Jp (S L (B (W [(1,.loc 1 0),(2,.loc 2 0),(119,v2),(120,v2)] Jp e4))) D))))))
abbrev ti:ca:=S L (J [(0,dS),(1,v2)] [] e1 (S L (J [(0,dS),(6,v228)] [] e1 (S L (S L (J [(7,.own 30)] [(30,a2)] (B (W [(7,.own 30),(8,v2)] [(30,a2)] (S e1 (B L)))) D))))))
abbrev abb:ca:=S L (S L (J [(4,.fp 12)] [(12,.mp t2 iQ)] (S L (B (W [(4,.fp 12),(13,v34),(14,v2),(15,v2)] [(12,.mp t2 iQ)] (S L (S dK (S (B (S L (S lW L))) L)))))) (S L (J [(9,.own 9)] [(9,wo)] (S L (B (W [(4,.fp 12),(9,.own 9),(39,dS),(40,v2),(41,v2)] [(9,wo),(12,.iY t2 iQ)] e4))) D))))
abbrev e9:ca:=S L (S e0 D)
abbrev e10:ca:=S e1 (S (B lW) L)
abbrev Bk:ca:=S L (S L (S e0 e2))
abbrev yE:ca:=B (S L (S L e1))
abbrev rD:ca:=S L e2
abbrev uK:ca:=S L rD
abbrev Bl:ca:=S e1 (S (B L) L)
abbrev abc:ca:=S L (J [] [] (S L (B (W [(0,dS),(1,v2),(5,v2)] [] dC))) D)
abbrev abd:ca:=S L (J [] [] (S L (B (W [(0,dS),(3,v2)] [] dC))) D)
abbrev yF:ca:=B (S L e1)
abbrev e20:ca:=S L (S L (S e0 (S e0 D)))
abbrev abe:ca:=S L (B (W [(1,.loc 1 0),(4,v2)] qx dC))
abbrev abf:ca:=S L (S (S L (B (S L (C D e0)))) D)
abbrev iA0:=IOC.mk ⟨[(0,.loc 100000 0),(1,.val t27)],[(100000,.fL qa)]⟩ ⟨[(0,.val t9)],[(100000,.fL qa)]⟩ [none] 2
def ath:=mk asM func208 bX e2 anw
def ati:=mk ath func251 oF e2 anF
def atj:=mk ati func316 um abd anG
def atk:=mk atj func252 sJ (S L (J nk [(1,aaO)] (S L (B (W sZ [(1,aaO)] dC))) D)) anI
def atl:=mk atk func253 pv e2 anB
def atm:=mk atl func317 AN e2 anD
def atn:=mk atm func254 rm e2 anE
def ato:=mk atn func179 sK (S L (S e0 (J nk nl (S L (B (W sZ nl e10))) (J nk nl (S L (B (W Bi nl (S e1 (J Bi nl (B (S e0 (S L (B (W [(1,.loc 1 0),(5,v2),(6,v2)] nl dC))))) L))))) (J [] [] (S L (B (W [(1,.loc 1 0),(7,v2)] nl e10))) D))))) anK
def atp:=mk ato func104 gY (S L (S e0 (J [] [] (S L (B (W sZ nl (S e1 (J sZ nl (B (S L (B (W Jn nl e10)))) L))))) D))) anM
def atq:=mk atp func235 mj abc anA
def atr:=mk atq func255 fcFitsAt rD anR
def ats:=mk atr func182 D7 (S L (J [(1,v2),(2,v2),(3,.loc 3 0)] [(3,wm)] (S L (B (W [(1,v2),(2,v2),(3,.loc 3 0),(7,v2)] [(3,wm)] e10))) D)) anT
def att:=mk ats func114 D8 (S L (S L (J [(5,.own 5)] [(5,a2)] (S L (B (W [(1,v2),(2,.loc 2 0),(5,.own 5),(6,v2)] [(2,wm),(5,a2)] (S e1 (J [(1,v2),(2,.loc 2 0),(5,.own 5),(6,v2)] [(2,wm),(5,a2)] (B e1) L))))) D))) anV
def atu:=mk att func53 HW (S L (S lW (S e0 (J [] [] (S L (B (W [(2,.loc 2 0),(6,v2)] [(2,wm)] dC))) D)))) anX
def Dz:=mk atu func16 sM e2 anY
def atv:=mk Dz func276 (kK jK) (S L (J [] [] (S L (B (W [(0,v24),(1,ata),(7,v2),(8,v2)] [] e3))) D)) (su jK)
def atw:=mk atv func206 (iS jK) e2 (sv jK)
def atx:=jE atw [] func207 (vT jK) 1 e2 (D9 jK)
def aty:=lK atx [(207,1)] func144 (fcAllF jK) e2 (D_ jK)
def atz:=mk aty func145 bX e2 an0
def atA:=mk atz func266 x_ e2 an2
def atB:=mk atA func267 oF e2 an1
def atC:=mk atB func265 H2 e2 an9
def atD:=mk atC func292 (kK tI) (S L (J [] [] (S L (B (W [(0,dS),(1,aaH),(7,v2),(8,v2)] [] e3))) D)) (su tI)
def atE:=mk atD func227 (iS tI) e2 (sv tI)
def atF:=jE atE [] func331 (vT tI) 1 e2 (D9 tI)
def atG:=lK atF [(331,1)] func269 (fcAllF tI) e2 (D_ tI)
def atH:=mk atG func270 um abd an5
def atI:=lK atH [] func268 sJ e2 an_
def atJ:=mk atI func372 (kK tSlot) (S L (J [] [] (S L (B (W [(0,Qm),(1,atd),(7,v2),(8,v2)] [] e3))) D)) (su tSlot)
def atK:=mk atJ func332 (iS tSlot) e2 (sv tSlot)
def atL:=jE atK [] func333 (vT tSlot) 1 e2 (D9 tSlot)
def atM:=lK atL [(333,1)] func272 (fcAllF tSlot) e2 (D_ tSlot)
def atN:=jE atM [] func271 AS 1 e2 an'
def atO:=mk atN func64 pv e2 an3
def atP:=mk atO func65 rm e2 an4
def atQ:=jE atP [] func273 AT 1 e2 aoa
def atS:=mk atQ func373 (kK ks) (S L (J [] [] (S L (B (W [(0,v22),(1,ate),(7,v2),(8,v2)] [] e3))) D)) (su ks)
def atT:=mk atS func334 (iS ks) e2 (sv ks)
def atU:=jE atT [] func335 (vT ks) 1 e2 (D9 ks)
def atV:=lK atU [(335,1)] func274 (fcAllF ks) e2 (D_ ks)
def atW:=mk atV func374 (kK kN) (S L (J [] [] (S L (B (W [(0,rB),(1,atf),(7,v2),(8,v2)] [] e3))) D)) (su kN)
def atX:=mk atW func336 (iS kN) e2 (sv kN)
def atY:=jE atX [] func337 (vT kN) 1 e2 (D9 kN)
def atZ:=lK atY [(337,1)] func275 (fcAllF kN) e2 (D_ kN)
def at0:=lK atZ [(271,1),(273,1)] func205 sK (S L (S L uK)) aob
def at1:=mk at0 func141 gY (S L (S e0 (S L (J [] [] (S L (B (W [(3,.fp 12),(14,v24),(15,v2),(16,v2)] [(12,.mp q9 t2)] (S L (S dK (S (B (S L (S L (S lW L)))) L)))))) D)))) aof
def at2:=mk at1 func164 bX e2 aoF
def at3:=mk at2 func220 fcHund e2 aoH
def at4:=mk at3 func221 fcRising (S L (J [] [] (S L (B (W [(0,dS),(1,aaH),(7,dS),(8,v2),(9,v2)] [] e3))) D)) aoJ
def at5:=jE at4 [] func222 Eb 1 e2 aoN (hc:=λx h=>by obtain⟨w,p,ar,_⟩:=h;exact si ⟨⟨trivial,ra (congrArg (λo=>o.1) ar)⟩,ra (congrArg (λo=>o.2) ar)⟩)
def at6:=jE at5 [(222,1)] func219 Ec 1 e2 aoO (hc:=λx h=>by obtain⟨_,w,ar,_⟩:=h;exact si ⟨trivial,ra ar⟩)
def at7:=mk at6 func224 fcHund e2 aoI
def aua:=lK at7 [] func223 Ed e2 aoP
def aub:=jE aua [] func225 Ee 1 e2 aoQ (hc:=λx h=>by obtain⟨w,ar,_⟩:=h;exact si ⟨trivial,ra ar⟩)
def auc:=mk aub func226 Ef e2 aoR
def aud:=mk auc func293 (kK mW) (S L (J [] [] (S L (B (W [(0,v28),(1,atb),(7,v2),(8,v2)] [] e3))) D)) (su mW)
def aue:=mk aud func228 (iS mW) e2 (sv mW)
def auf:=mk aue func294 (kK tWi) (S L (J [] [] (S L (B (W [(0,Be),(1,as_),(7,v2),(8,v2)] [] e3))) D)) (su tWi)
def aug:=mk auf func229 (iS tWi) e2 (sv tWi)
def auh:=mk aug func295 (kK pz) (S L (J [] [] (S L (B (W [(0,pG),(1,atc),(7,v2),(8,v2)] [] e3))) D)) (su pz)
def aui:=mk auh func230 (iS pz) e2 (sv pz)
def auj:=lK aui [(219,1),(225,1)] func171 O3 (S L (S L (S L uK))) aoS
def Qr:=mk auj func100 pB (S L (S lW (S e0 D))) aoT
def abg:IOC:=⟨⟨[(0,.cR),(1,.val MS)],[]⟩,⟨[(0,.own 50000)],[(50000,.a8 t2)]⟩,[none],2,H.Aj⟩
theorem auk:IoSpec Tryz.prog noU 213 abg:=mkI Qr [] trivial func213 (S L (S (S L (B (bZ [(2,.loc 2 0)] [(2,.cells t27 [.own 50000]),(50000,a2)] [(2,.loc 100002 0),(7,v2)] [(100002,.cells t27 [.own 150000]),(150000,a2)] [] [(100002,.cells t27 [.own 150000]),(150000,a2)] L (B L)))) D)) H.ak7
def abh:IOC:=⟨⟨[(0,.val MS)],[]⟩,⟨[(0,.own 50040)],[(50040,.a8 t2)]⟩,[none],1,H.Aj⟩
theorem aul:IoSpec Tryz.prog noU 160 abh:=mkI Qr [(213,.io abg)] ⟨auk,trivial⟩ func160 e2 H.ak8
def Qs:=pd Qr me [(160,.io abh),(161,.io Qd)] ⟨aul,aao,trivial⟩ func86 H.sw uK H.ak9
def abi:IOC:=⟨⟨[(0,.gM),(1,.dz G3),(1000000,.tr t2)],[]⟩,⟨[(1000000,.tr t2)],[]⟩,[],2,H.NR⟩
theorem aum:IoSpec Tryz.prog noU 277 abi:=mkI (S:=H.NR) Qs [] trivial func277 (S L (B (W [(0,.gM),(5,.jR 5),(1000000,.tr t2)] [(5,.b8 t2 iQ)] (S L (S dK yF))))) (λx=>M.le_refl _)
theorem aun:wC Tryz.prog 277 ⟨[G3],t2,H.jG⟩:=MH (c:=abi) aum me (λx l L=>(l,x.getD [],(l,L,[],false),())) rfl (by decide) (by simp[fP])
 (λx l L i hx=>by
  obtain⟨T,hT⟩:=hx;obtain⟨m,an,_⟩:=hT;subst an;by_cases h0:i=0
  ·subst h0;exact .inr (.inr (.inl ⟨rfl,rfl⟩))
  ·by_cases h1:i=1
   ·subst h1;exact .inr (.inl ⟨by decide,by decide,_,_,rfl,rfl⟩)
   by_cases h2:i=TRS
   ·subst h2;exact .inr (.inr (.inr ⟨rfl,rfl⟩))
   ·refine .inl ?_;exact (if_neg h0).trans ((if_neg h1).trans (if_neg h2)))
 rfl (λτ=>⟨_,_,_,_,rfl⟩) (λx l hx=>by
  obtain⟨T,hT⟩:=hx;obtain⟨m,an,_⟩:=hT;subst an;have h:=H.al9 l m;refine⟨h.1,λτ hτ l' L' p hsl=>?_⟩;have e:aD.tr τ.1.1 t2 τ.1.2.1 τ.1.2.2.1 τ.1.2.2.2=.tr l' t2 L' p false:=hsl;injection e with e1 e2 e3 e4 dC
  rw[<-e4];exact h.2 τ hτ dC)
def auo:=pd Qs (Qs.u [] [(277,⟨[G3],t2,H.jG⟩)] ⟨aun,trivial⟩) [] trivial func210 H.xW e2 H.ala
def aup:=mk auo func154 H.Aq abb H.alm
def auq:=mk aup func85 H.bX e2 H.akC
def aur:=mk auq func209 (H.kK H.gV) (S L (J [] [] (S L (B (W [(0,v34),(1,Qn),(7,v2),(8,v2)] [] e3))) D)) H.akM
def aus:=mk aur func151 (H.iS H.gV) e2 H.akN
def aut:=mk aus func231 H.vy (S L (J nk [(1,aaD)] (S L (B (W [(1,.loc 1 0),(13,.own 13),(14,v2),(15,v2)] [(1,aaD),(13,a2)] e3))) D)) H.akG
def auu:=mk aut func76 H.vx e2 H.akE
def auv:=mk auu func233 H.fcSlip rD H.akI
def auw:=jE auv [] func232 H.DJ 1 e2 H.akJ
def auy:=mk auw func234 H.Ag e2 H.akK
def auz:=lK auy [(232,1)] func172 H.vA (S L (S e0 (J nk nY (S L (B (W [(1,.loc 1 0),(38,nj),(39,v2),(40,v2)] nY e3))) (J nk nY (S L (B (W [(1,.loc 1 0),(57,nj),(58,v2),(59,v2)] nY e3))) rD)))) H.alc
def auA:=mk auz func101 H.gY (S L (S e0 (S lW D))) H.alo
def auB:=mk auA func46 W.sY e9 W.ary
def Qt:=pd auB me [(256,.io aaq)] ⟨asL,trivial⟩ func184 H.IJ (S L (S L (J [(0,Bh),(3,v2)] [] (S L (B (W [(0,Bh),(3,v2),(9,Bh),(10,v2),(11,v2)] [] (S L (S dK (J [(0,Bh),(3,v2),(9,Bh),(10,v2),(11,v2)] [] yE L)))))) (S L (J [(6,.own 50240)] [(50240,wo)] (S L (B (W [(6,.own 50240),(25,Bh),(26,v2),(27,v2)] [(50240,wo)] e4))) D))))) H.aqs
def abj:IOC:=⟨⟨[(0,.val Dj)],[]⟩,⟨[(0,.own 50240)],[(50240,.a8 t3)]⟩,[none],1,H.IK⟩
theorem auC:IoSpec Tryz.prog noU 185 abj:=mkI Qt [(257,.io aap)] ⟨asK,trivial⟩ func185 (S L (S L (J [(0,Bg),(3,v2)] [] (S L (B (W [(0,Bg),(3,v2),(9,Bg),(10,v2),(11,v2)] [] (S L (S dK (J [(0,Bg),(3,v2),(9,Bg),(10,v2),(11,v2)] [] yE L)))))) (S L (J [(6,.own 50240)] [(50240,a2)] (S L (B (W [(6,.own 50240),(25,Bg),(26,v2),(27,v2)] [(50240,a2)] e4))) D))))) H.aqt
def abk:IOC:=⟨⟨[(0,.own 200001)],[(200001,.a8 t3)]⟩,⟨[(0,.sub 200001)],[(200001,.a8 t3)]⟩,[none],1,H.IM⟩
theorem auD:IoSpec Tryz.prog noU 186 abk:=mkI Qt [] trivial func186 (S L (S e0 (J [(0,.own 200001)] [(200001,a2)] (S L (B (W [(0,.own 200001),(3,v2)] [(200001,a2)] (S e1 (J [(0,.own 200001),(3,v2)] [(200001,a2)] (B (S L (C (S L (J [(0,.own 200001),(3,v2)] [(200001,a2)] (S L (B (W [(0,.own 200001),(3,v2),(4,.sub 200001),(5,v2)] [(200001,a2)] (S e1 (J [(0,.own 200001),(3,v2),(4,.sub 200001),(5,v2)] [(200001,a2)] (B e0) L))))) e2)) L))) L))))) D))) H.aqz
def auE:=mk Qt func187 H.Er e9 H.aqH
def uL:=pd auE me [(161,.io Qd),(185,.io abj),(186,.io abk)] ⟨aao,auC,auD,trivial⟩ func117 H.A9 (S L (S lW (S L (S L (S lW (S L (S e0 (S L Bk)))))))) H.aqJ
def auF:IOC:=⟨⟨[(0,.val t22)],[]⟩,⟨[(0,.own 60)],[(60,.a8 zX)]⟩,[none],1,W.qw⟩
theorem auG:IoSpec Tryz.prog noU 188 auF:=mkI uL [] trivial func188 e9 W.wg
abbrev Qu:eK:=.ow (SC.ow (W.fy ks).c8)
theorem abl:eK.Ok Tryz.prog noU 188 Qu:=yA (sh:=(W.fy ks).sh) auG (λx h=>⟨h,λτ hτ=>by have h:τ=_:=hτ;subst h;exact (M.fY).symm⟩)
def auH:IOC:=⟨⟨[(0,.val Di)],[]⟩,⟨[(0,.own 60)],[(60,.a8 xG)]⟩,[none],1,W.qw⟩
theorem auI:IoSpec Tryz.prog noU 189 auH:=mkI uL [] trivial func189 e9 W.wg
abbrev Qv:eK:=.ow (SC.ow (W.fy kN).c8)
theorem abm:eK.Ok Tryz.prog noU 189 Qv:=yA (sh:=(W.fy kN).sh) auI (λx h=>⟨h,λτ hτ=>by have h:τ=_:=hτ;subst h;exact (M.fY).symm⟩)
def auJ:IOC:=⟨⟨[(0,.val G0)],[]⟩,⟨[(0,.own 60)],[(60,.a8 uM)]⟩,[none],1,W.qw⟩
theorem auK:IoSpec Tryz.prog noU 190 auJ:=mkI uL [] trivial func190 e9 W.wg
abbrev Qw:eK:=.ow (SC.ow (W.fy jK).c8)
theorem abn:eK.Ok Tryz.prog noU 190 Qw:=yA (sh:=(W.fy jK).sh) auK (λx h=>⟨h,λτ hτ=>by have h:τ=_:=hτ;subst h;exact (M.fY).symm⟩)
def Qx:IOC:=⟨⟨[(0,.val GZ)],[]⟩,⟨[(0,.own 60)],[(60,.a8 zY)]⟩,[none],1,W.qw⟩
theorem abo:IoSpec Tryz.prog noU 191 Qx:=mkI uL [] trivial func191 e9 W.wg
def abp:IOC:=⟨⟨[(0,.val t27)],[]⟩,⟨[(0,.own 60)],[(60,.a8 t3)]⟩,[none],1,W.IU⟩
theorem abq:IoSpec Tryz.prog noU 192 abp:=mkI uL [] trivial func192 e9 W.ara
abbrev Qy:eK:=.ow (SC.ow H.fcClone.c8)
theorem abr:eK.Ok Tryz.prog noU 192 Qy:=yA (sh:=H.fcClone.sh) abq (λx h=>⟨h,λτ hτ=>by have h:τ=_:=hτ;subst h;exact (M.fY).symm⟩)
def auL:IOC:=⟨⟨[(0,.val t28)],[]⟩,⟨[(0,.own 60)],[(60,.a8 xH)]⟩,[none],1,W.qw⟩
theorem auM:IoSpec Tryz.prog noU 193 auL:=mkI uL [] trivial func193 e9 W.wg
abbrev Qz:eK:=.ow (SC.ow (W.fy mW).c8)
theorem abt:eK.Ok Tryz.prog noU 193 Qz:=yA (sh:=(W.fy mW).sh) auM (λx h=>⟨h,λτ hτ=>by have h:τ=_:=hτ;subst h;exact (M.fY).symm⟩)
def auN:IOC:=⟨⟨[(0,.val G1)],[]⟩,⟨[(0,.own 60)],[(60,.a8 vo)]⟩,[none],1,W.qw⟩
theorem auO:IoSpec Tryz.prog noU 194 auN:=mkI uL [] trivial func194 e9 W.wg
abbrev Jq:eK:=.ow (SC.ow (W.fy tWi).c8)
theorem QA:eK.Ok Tryz.prog noU 194 Jq:=yA (sh:=(W.fy tWi).sh) auO (λx h=>⟨h,λτ hτ=>by have h:τ=_:=hτ;subst h;exact (M.fY).symm⟩)
def auP:IOC:=⟨⟨[(0,.val zZ)],[]⟩,⟨[(0,.own 60)],[(60,.a8 q9)]⟩,[none],1,W.qw⟩
theorem auQ:IoSpec Tryz.prog noU 195 auP:=mkI uL [] trivial func195 e9 W.wg
abbrev QB:eK:=.ow (SC.ow (W.fy pz).c8)
theorem abu:eK.Ok Tryz.prog noU 195 QB:=yA (sh:=(W.fy pz).sh) auQ (λx h=>⟨h,λτ hτ=>by have h:τ=_:=hτ;subst h;exact (M.fY).symm⟩)
def abv:=pd uL me [(188,Qu),(189,Qv),(190,Qw),(191,.io Qx),(192,Qy),(193,Qz),(194,Jq),(195,QB)] ⟨abl,abm,abn,abo,abr,abt,QA,abu,trivial⟩ func118 W.IX kS W.ard
def abw:IOC:=⟨⟨[(0,.val wv)],[]⟩,⟨[(0,.loc 17 0)],[(17,.fL qa)]⟩,[none],1,W.ug⟩
theorem auR:IoSpec Tryz.prog noU 57 abw:=mkI abv [] trivial func57 rD W.Oe
def EL:=mk abv func58 W.I3 e2 W.art
def Jr:IOC:=⟨⟨[(0,.loc 100000 0),(1,.val t34),(2,.val t27)],[(100000,.fL qa)]⟩,⟨[(0,.val t9)],[(100000,.fL qa)]⟩,[none],3,W.A'⟩
theorem QC:IoSpec Tryz.prog noU 196 Jr:=mkI EL [] trivial func196 Bk W.aqT
def QD:IOC:=iA0 (W.shD 5 W.PD)
theorem auS:IoSpec Tryz.prog noU 119 QD:=mkI EL [(196,.io Jr)] ⟨QC,trivial⟩ func119 e2 W.aqU
def auT:IOC:=iA0 (W.shD 4 W.PE)
theorem auU:IoSpec Tryz.prog noU 120 auT:=mkI EL [(196,.io Jr)] ⟨QC,trivial⟩ func120 e2 W.aqV
def auV:IOC:=iA0 (W.shD 1 W.PF)
theorem auW:IoSpec Tryz.prog noU 121 auV:=mkI EL [(196,.io Jr)] ⟨QC,trivial⟩ func121 e2 W.Of
def auX:=mk EL func339 H.Hp e2 H.akQ
def q280:=mk auX func280 H.fcCmp (S L (S L (S L (S (S L (C (S e0 D) L)) (S e0 (S e0 (S e0 D))))))) H.akR
def auY:=mk q280 func279 H.lN e2 H.akS
def auZ:=mk auY func211 H0 (S L (J [] [] (S L (B (W [(0,dS),(1,v2),(7,v2),(8,v2)] [] e3))) D)) an7
def au0:=mk auZ func157 mj e2 an8
def EM:=jE au0 [] func156 H.Az 1 e2 H.Of
abbrev yG:=z7 (aiR EM) [(156,1)] []
def abx:IOC:=⟨⟨[(0,.val t34)],[]⟩,⟨[(0,.own 9),(1,.val t4)],[(9,.a8 iQ)]⟩,[none,none],1,H.Hw⟩
theorem au1:IoSpec Tryz.prog yG 154 abx:=mkI EM [] trivial func154 abb H.aln
def aby:IOC:=⟨⟨[(0,.own 200001),(1,.val MT)],[(200001,.a8 iQ)]⟩,⟨[(0,.sub 200001)],[(200001,.a8 iQ)]⟩,[none],2,H.Hy⟩
theorem au2:IoSpec Tryz.prog yG 155 aby:=mkI EM [] trivial func155 (S L (S L (S e0 (J [(0,.own 200001),(5,v2)] [(200001,wo)] (S L (B (W [(0,.own 200001),(1,Qn),(5,v2),(6,v2)] [(200001,wo)] (S e1 (J [(0,.own 200001),(1,Qn),(5,v2),(6,v2)] [(200001,wo)] (B lW) L))))) e2)))) H.alp
def au3:=mk EM func192 H.fcClone e9 H.akO
def au4:=mk au3 func291 H.NV (S L (J [(0,v228),(2,v2)] [] e0 (J [(0,v228),(2,v2)] [] e0 (J [(0,v228),(2,v2)] [] e0 D)))) H.akT
def Bm:=mk au4 func215 H.NW (S L (S (C D L) D)) (H.akU (λ_=>M.fail))
def abz:IOC:=⟨⟨[(0,.own 200001),(1,.val t2),(2,.val t2),(3,.val Dl)],[(200001,.a8 qb)]⟩,⟨[],[(200001,.a8 qb)]⟩,[],4,H.Hr⟩
theorem au5:IoSpec Tryz.prog yG 375 abz:=mkI Bm [] trivial func375 (S L (B (W [(0,.own 200001),(1,v2),(2,v2),(3,Jm),(8,v2)] [(200001,gD)] (S e1 (J [(0,.own 200001),(1,v2),(2,v2),(3,Jm),(8,v2)] [(200001,gD)] (B (S L (B (W [(0,.own 200001),(1,v2),(2,v2),(3,Jm),(8,v2),(9,v2)] [(200001,gD)] Bl)))) L))))) H.ak3
def abA:IOC:=⟨⟨[(0,.own 200001),(1,.val t2),(2,.val t2),(3,.val t2),(4,.val Dl)],[(200001,.a8 qb)]⟩,⟨[],[(200001,.a8 qb)]⟩,[],5,H.Ht⟩
theorem au6:IoSpec Tryz.prog yG 338 abA:=mkI Bm [(375,.io abz)] ⟨au5,trivial⟩ func338 (S L (S L (B (W [(0,.own 200001),(1,v2),(2,v2),(3,v2),(4,Jm),(10,v4),(11,v4)] [(200001,gD)] (B (S L (S e0 L))))))) H.ak4
def abB:IOC:=⟨⟨[(0,.own 200001),(1,.val Dl)],[(200001,.a8 qb)]⟩,⟨[],[(200001,.a8 qb)]⟩,[],2,H.Ai⟩
theorem au7:IoSpec Tryz.prog yG 278 abB:=mkI Bm [(338,.io abA)] ⟨au6,trivial⟩ func278 D H.ak6
def abC:IOC:=⟨⟨[(0,.loc 100000 0),(1,.val t27)],[(100000,.cells q_ [.val p_,.val t34,.val t27,.val p_,.val t2,.val t2,.val t2,.val t2,.val t2,.val t2,.val t2,.val t34,.own 100002]),(100002,.a8 pa)]⟩,⟨[(0,.val pa),(1,.val t4)],[(100000,.cells q_ [.val p_,.val t34,.val t27,.val p_,.val t2,.val t2,.val t2,.val t2,.val t2,.val t2,.val t2,.val t34,.own 100002]),(100002,.a8 pa)]⟩,[none,none],2,H.ug⟩
theorem au8:IoSpec Tryz.prog yG 212 abC:=mkI Bm [(278,.io abB)] ⟨au7,trivial⟩ func212 (S L (J [(0,.loc 100000 0),(1,dS),(6,.loc 17 0)] [(17,.cells Dk [dS,.own 30000,.own 30001,.own 30002,.own 30003,.own 30004,.own 30005,.own 30006,.own 30007,.own 30008,.own 30009]),(100000,.cells q_ [nj,v34,dS,nj,v2,v2,v2,v2,v2,v2,v2,v34,.own 100002]),(100002,EI),(30000,gD),(30001,gD),(30002,gD),(30003,gD),(30004,gD),(30005,gD),(30006,gD),(30007,gD),(30008,gD),(30009,gD)] L (J [(6,.loc 17 0)] jm (S L (B (W [(1,dS),(6,.loc 17 0),(21,v34),(22,v2),(23,v2)] jm (S L (S dK (J [(1,dS),(6,.loc 17 0),(21,v34),(22,v2),(23,v2)] jm (B (S L (.split 8 4 10 L))) L)))))) (J [(6,.loc 17 0)] jm (S L (B (.nE (.num 57 0 (S L (S dK (J mZ jm (B (S L (S L (S L (B (W [(6,.loc 17 0),(10,.own 30000),(56,.hn [30000,30001,30002,30003,30004,30005,30006,30007,30008,30009]),(57,v2),(62,.own 30000),(63,v2),(64,v2)] jm (S L (S dK (S (B (S L (S L (J [(6,.loc 17 0),(10,.own 30000),(11,v2),(12,.loc 12 0),(13,v2),(56,.hn [30000,30001,30002,30003,30004,30005,30006,30007,30008,30009]),(57,v2),(62,.own 30000),(63,v2),(64,v2)] s3 e1 e0)))) L))))))))) L)))) (.nE (.num 57 1 (S L (S dK (J mZ jm (B (S L (S L (S L (B (W [(6,.loc 17 0),(10,.own 30001),(56,.hn [30000,30001,30002,30003,30004,30005,30006,30007,30008,30009]),(57,v2),(62,.own 30001),(63,v2),(64,v2)] jm (S L (S dK (S (B (S L (S L (J [(6,.loc 17 0),(10,.own 30001),(11,v2),(12,.loc 12 0),(13,v2),(56,.hn [30000,30001,30002,30003,30004,30005,30006,30007,30008,30009]),(57,v2),(62,.own 30001),(63,v2),(64,v2)] s3 e1 e0)))) L))))))))) L)))) (.nE (.num 57 2 (S L (S dK (J mZ jm (B (S L (S L (S L (B (W [(6,.loc 17 0),(10,.own 30002),(56,.hn [30000,30001,30002,30003,30004,30005,30006,30007,30008,30009]),(57,v2),(62,.own 30002),(63,v2),(64,v2)] jm (S L (S dK (S (B (S L (S L (J [(6,.loc 17 0),(10,.own 30002),(11,v2),(12,.loc 12 0),(13,v2),(56,.hn [30000,30001,30002,30003,30004,30005,30006,30007,30008,30009]),(57,v2),(62,.own 30002),(63,v2),(64,v2)] s3 e1 e0)))) L))))))))) L)))) (.nE (.num 57 3 (S L (S dK (J mZ jm (B (S L (S L (S L (B (W [(6,.loc 17 0),(10,.own 30003),(56,.hn [30000,30001,30002,30003,30004,30005,30006,30007,30008,30009]),(57,v2),(62,.own 30003),(63,v2),(64,v2)] jm (S L (S dK (S (B (S L (S L (J [(6,.loc 17 0),(10,.own 30003),(11,v2),(12,.loc 12 0),(13,v2),(56,.hn [30000,30001,30002,30003,30004,30005,30006,30007,30008,30009]),(57,v2),(62,.own 30003),(63,v2),(64,v2)] s3 e1 e0)))) L))))))))) L)))) (.nE (.num 57 4 (S L (S dK (J mZ jm (B (S L (S L (S L (B (W [(6,.loc 17 0),(10,.own 30004),(56,.hn [30000,30001,30002,30003,30004,30005,30006,30007,30008,30009]),(57,v2),(62,.own 30004),(63,v2),(64,v2)] jm (S L (S dK (S (B (S L (S L (J [(6,.loc 17 0),(10,.own 30004),(11,v2),(12,.loc 12 0),(13,v2),(56,.hn [30000,30001,30002,30003,30004,30005,30006,30007,30008,30009]),(57,v2),(62,.own 30004),(63,v2),(64,v2)] s3 e1 e0)))) L))))))))) L)))) (.nE (.num 57 5 (S L (S dK (J mZ jm (B (S L (S L (S L (B (W [(6,.loc 17 0),(10,.own 30005),(56,.hn [30000,30001,30002,30003,30004,30005,30006,30007,30008,30009]),(57,v2),(62,.own 30005),(63,v2),(64,v2)] jm (S L (S dK (S (B (S L (S L (J [(6,.loc 17 0),(10,.own 30005),(11,v2),(12,.loc 12 0),(13,v2),(56,.hn [30000,30001,30002,30003,30004,30005,30006,30007,30008,30009]),(57,v2),(62,.own 30005),(63,v2),(64,v2)] s3 e1 e0)))) L))))))))) L)))) (.nE (.num 57 6 (S L (S dK (J mZ jm (B (S L (S L (S L (B (W [(6,.loc 17 0),(10,.own 30006),(56,.hn [30000,30001,30002,30003,30004,30005,30006,30007,30008,30009]),(57,v2),(62,.own 30006),(63,v2),(64,v2)] jm (S L (S dK (S (B (S L (S L (J [(6,.loc 17 0),(10,.own 30006),(11,v2),(12,.loc 12 0),(13,v2),(56,.hn [30000,30001,30002,30003,30004,30005,30006,30007,30008,30009]),(57,v2),(62,.own 30006),(63,v2),(64,v2)] s3 e1 e0)))) L))))))))) L)))) (.nE (.num 57 7 (S L (S dK (J mZ jm (B (S L (S L (S L (B (W [(6,.loc 17 0),(10,.own 30007),(56,.hn [30000,30001,30002,30003,30004,30005,30006,30007,30008,30009]),(57,v2),(62,.own 30007),(63,v2),(64,v2)] jm (S L (S dK (S (B (S L (S L (J [(6,.loc 17 0),(10,.own 30007),(11,v2),(12,.loc 12 0),(13,v2),(56,.hn [30000,30001,30002,30003,30004,30005,30006,30007,30008,30009]),(57,v2),(62,.own 30007),(63,v2),(64,v2)] s3 e1 e0)))) L))))))))) L)))) (.nE (.num 57 8 (S L (S dK (J mZ jm (B (S L (S L (S L (B (W [(6,.loc 17 0),(10,.own 30008),(56,.hn [30000,30001,30002,30003,30004,30005,30006,30007,30008,30009]),(57,v2),(62,.own 30008),(63,v2),(64,v2)] jm (S L (S dK (S (B (S L (S L (J [(6,.loc 17 0),(10,.own 30008),(11,v2),(12,.loc 12 0),(13,v2),(56,.hn [30000,30001,30002,30003,30004,30005,30006,30007,30008,30009]),(57,v2),(62,.own 30008),(63,v2),(64,v2)] s3 e1 e0)))) L))))))))) L)))) (.nE (.num 57 9 (S L (S dK (J mZ jm (B (S L (S L (S L (B (W [(6,.loc 17 0),(10,.own 30009),(56,.hn [30000,30001,30002,30003,30004,30005,30006,30007,30008,30009]),(57,v2),(62,.own 30009),(63,v2),(64,v2)] jm (S L (S dK (S (B (S L (S L (J [(6,.loc 17 0),(10,.own 30009),(11,v2),(12,.loc 12 0),(13,v2),(56,.hn [30000,30001,30002,30003,30004,30005,30006,30007,30008,30009]),(57,v2),(62,.own 30009),(63,v2),(64,v2)] s3 e1 e0)))) L))))))))) L)))) (.nE (.num 57 10 (S L (S dK L))) L))))))))))))) D)))) H.Oe
def QE(f:Nat):IOC:=⟨⟨[(0,.loc 100000 0),(1,.val t27)],[(100000,.cells q_ [.val p_,.val t34,.val t27,.val p_,.val t2,.val t2,.val t2,.val t2,.val t2,.val t2,.val t2,.val t34,.own 100002]),(100002,.a8 pa)]⟩,⟨[],[(100000,.cells q_ [.val p_,.val t34,.val t27,.val p_,.val t2,.val t2,.val t2,.val t2,.val t2,.val t2,.val t2,.val t34,.own 100002]),(100002,.a8 pa)]⟩,[],2,H.x0 f⟩
theorem abD:∀f,IoSpec Tryz.prog yG 158 (QE f)
 |0=>MY func158 H.alZ
 |f+1=>mkI Bm [(158,.io (QE f)),(212,.io abC)] ⟨abD f,au8,trivial⟩ func158 (S L (S (S L (C (J [] aa' (S L e1) L) L)) (S L (B (W [(0,.loc 100000 0),(1,dS),(4,v2),(7,v2)] aa' Bl))))) (H.al2 f)
def au9:=pd Bm (EM.u [(156,1)] [] trivial) [(154,.io abx),(155,.io aby),(158,.io (QE 5))] ⟨au1,au2,abD 5,trivial⟩ func74 H.vI (S L (S lW (S L (S L (S L (J [(7,.loc 15 0)] [(15,.cells q_ [nj,v34,dS,nj,v2,v2,v2,v2,v2,v2,v2,.sub 50200,.own 30000]),(50200,wo),(30000,EI)] e0 e9)))))) H.al6
def au_:=mk au9 func77 H.AA (S L (J [(4,.loc 4 0),(5,v4)] [(4,Qi)] (S L (B (W aa4 [(4,Qi)] (S L (S dK (J aa4 [(4,Qi)] (B (S L (S L (B (S L (C L e1)))))) L)))))) D)) H.al7
def au':=jE au_ [] func152 H.AG 1 e2 H.amp
def ava:=jE au' [(152,1)] func150 H.Ot 1 e2 H.amq (hc:=λx h=>by obtain⟨_,f,ar,_⟩:=h;exact si ⟨trivial,ra ar⟩)
def q89:=mk ava func89 H.vF (S L (S L (J [(7,v2)] [] (S L (B (W [(1,v2),(2,v2),(7,v2),(14,nj),(15,v2),(16,v2)] [] e4))) D))) H.alz
def abE:IOC:=⟨⟨[(0,.gM),(1,.dz pa),(2,.dz vp),(1000000,.tr (.aw iQ t2))],[]⟩,⟨[(1000000,.tr (.aw iQ t2))],[]⟩,[],3,(H.Hj H.vF.sh)⟩
theorem avb:IoSpec Tryz.prog noU 159 abE:=mkI (S:=(H.Hj H.vF.sh)) q89 [] trivial func159 (S L (B (W aaX [] (S L (S dK (J aaX [] (B (S L (S L (B (W [(0,.gM),(2,.dz vp),(5,aaJ),(6,v2),(10,aaK),(11,v2),(1000000,.tr (.aw iQ t2))] [] (S e1 (S (B e1) L))))))) L)))))) (λx=>M.le_refl _)
theorem avc:wC Tryz.prog 159 ⟨[pa,vp],(.aw iQ t2),H.sH⟩:=MH (c:=abE) avb me (λx l L=>(l,x.1.getD none,x.2.getD none,(l,L,[],false),())) rfl (by decide) (by simp[fP])
 (λx l L i hx=>by
  obtain⟨T,hT⟩:=hx;obtain⟨t,b,h1,h2,hp,_⟩:=hT;obtain⟨wP,wO⟩:=x;change wP=some (some t) at h1;change wO=some (some b) at h2;subst h1;subst h2;by_cases h0:i=0
  ·subst h0;exact .inr (.inr (.inl ⟨rfl,rfl⟩))
  ·by_cases h1:i=1
   ·subst h1;exact .inr (.inl ⟨by decide,by decide,_,_,rfl,rfl⟩)
   by_cases h3:i=2
   ·subst h3;exact .inr (.inl ⟨by decide,by decide,_,_,rfl,rfl⟩)
   by_cases h2:i=TRS
   ·subst h2;exact .inr (.inr (.inr ⟨rfl,rfl⟩))
   ·refine .inl ?_;exact (if_neg h0).trans ((if_neg h1).trans ((if_neg h3).trans (if_neg h2))))
 rfl (λτ=>⟨_,_,_,_,rfl⟩) (λx l hx=>by
  obtain⟨T,hT⟩:=hx;obtain⟨t,b,h1,h2,hp,_⟩:=hT;obtain⟨wP,wO⟩:=x;change wP=some (some t) at h1;change wO=some (some b) at h2;subst h1;subst h2;have h:=H.ama l t b hp;refine⟨h.1,λτ hτ l' L' p hsl=>?_⟩;have e:aD.tr τ.1.1 (.aw iQ t2) τ.1.2.1 τ.1.2.2.1 τ.1.2.2.2=.tr l' (.aw iQ t2) L' p false:=hsl;injection e with e1 e2 e3 e4 dC
  rw[<-e4];exact h.2 τ hτ dC)
def avd:=pd q89 (q89.u [] [(159,⟨[pa,vp],(.aw iQ t2),H.sH⟩)] ⟨avc,trivial⟩) [] trivial func79 H.AB e2 H.ame
def ave:=jE avd [] func153 H.Ou 1 (S L (S (S L (B (bZ [(2,.dz t2),(3,.dz MO),(5,.loc 5 0),(6,.loc 6 0)] [(5,.cells t2 [v2]),(6,.cells t4 [v4])] [(2,.dz t2),(3,.dz MO),(5,.loc 100005 0),(6,.loc 100006 0),(12,aaG),(13,v2)] [(100005,.cells t2 [v2]),(100006,.cells t4 [v4])] [] [(100005,.cells t2 [v2]),(100006,.cells t4 [v4])] D (B e0)))) D)) H.amr (hc:=λx h=>by obtain⟨_,_,_,_,rfl,_⟩:=h;exact si ⟨⟨⟨trivial,rfl⟩,rfl⟩,rfl⟩)
def avf:=lK ave [(150,1),(153,1)] func70 H.AH (S L (S L (S e0 e9))) H.ams
def avg:=mk avf func71 H.x2 e2 H.amt
def avh:=lK avg [] func34 H.HF e2 H.amu
def avi:=mk avh func199 W.yt (S L (S e0 (S L (J [(3,.own 3)] [(3,a9)] (S L (B (W [(3,.own 3),(9,dS),(10,v2),(11,v2)] [(3,a9)] e4))) D)))) W.aqQ
def avj:=mk avi func198 W.qv abf W.aqR
def abF:=mk avj func197 W.yu e2 W.aqS
def avk:IOC:=iA0 (W.shD 1 W.PG)
theorem avl:IoSpec Tryz.prog noU 122 avk:=mkI abF [] trivial func122 e2 W.aqW
def avm:=mk abF func73 H.vG e9 H.alB
def avn:=jE avm [] func72 H.x3 1 e2 H.amv
def abG:=lK avn [(72,1)] func35 H.HH e2 H.amx
def avo:IOC:=iA0 (W.shD 1 W.PH)
theorem avp:IoSpec Tryz.prog noU 123 avo:=mkI abG [] trivial func123 e2 W.aqX
def avq:=jE abG [] func75 H.Ov 1 e2 H.amy
def avr:=jE avq [] func78 H.Ow 1 (S L (S L (S (S L (B (bZ [(2,.dz t2),(3,.dz s4),(7,.loc 7 0)] [(7,.cells t2 [v2])] [(2,.dz t2),(3,.dz s4),(7,.loc 100007 0),(13,aaG),(14,v2)] [(100007,.cells t2 [v2])] [] [(100007,.cells t2 [v2])] D (B e1)))) D))) H.amz (hc:=λx h=>by obtain⟨_,_,_,_,rfl,_⟩:=h;exact si ⟨⟨⟨trivial,rfl⟩,rfl⟩,rfl⟩)
def abH:=lK avr [(75,1),(78,1)] func36 H.HJ Bk H.amC
def avt:IOC:=iA0 (W.shD 1 W.PI)
theorem avu:IoSpec Tryz.prog noU 124 avt:=mkI abH [] trivial func124 e2 W.aqY
def avv:=mk abH func81 H.xU e2 H.akD
def avw:=jE avv [] func80 H.AI 1 e2 H.XH
def avx:=mk avw func83 H.x4 (S L (S L (S L (J [(6,.loc 6 0),(8,.loc 8 0),(9,v4)] [(6,yC),(8,yC)] (S L (B (W aaY [(6,yC),(8,yC)] (S L (S dK (J aaY [(6,yC),(8,yC)] yF L)))))) D)))) H.amE
def avy:=jE avx [] func82 H.OA 1 (S L (S L (J [(6,v2)] [] (S L (B (W [(0,aaI),(1,.dz t2),(2,.dz s4),(6,v2),(10,v2)] [] (S L (S dK (J [(0,aaI),(1,.dz t2),(2,.dz s4),(6,v2),(10,v2)] [] yE L)))))) D))) H.amH (hc:=λx h=>by obtain⟨_,_,_,rfl,_⟩:=h;exact si ⟨⟨trivial,rfl⟩,rfl⟩)
def abI:=lK avy [(80,1),(82,1)] func37 H.HL Bk H.amJ
def avz:IOC:=iA0 (W.shD 1 W.PJ)
theorem avA:IoSpec Tryz.prog noU 125 avz:=mkI abI [] trivial func125 e2 W.aqZ
def QF:=jE abI [] func84 H.OE 1 e2 H.amN (hc:=λx h=>by obtain⟨a,b,ar⟩:=h;exact si ⟨⟨trivial,ra (congrArg (λo=>o.1) ar)⟩,ra (congrArg (λo=>o.2) ar)⟩)
def abJ:IOC:=⟨⟨[(0,.gM),(1,.dz G2),(1000000,.tr t2)],[]⟩,⟨[(1000000,.tr t2)],[]⟩,[],2,H.NQ⟩
theorem avB:IoSpec Tryz.prog noU 162 abJ:=mkI (S:=H.NQ) QF [] trivial func162 (S L (B (W [(0,.gM),(5,.jR 5),(1000000,.tr t2)] [(5,.b8 t2 t2)] (S L (S dK yF))))) (λx=>M.le_refl _)
theorem avC:wC Tryz.prog 162 ⟨[G2],t2,H.jG⟩:=MH (c:=abJ) avB me (λx l L=>(l,x.getD [],(l,L,[],false),())) rfl (by decide) (by simp[fP])
 (λx l L i hx=>by
  obtain⟨T,hT⟩:=hx;obtain⟨m,an,_⟩:=hT;subst an;by_cases h0:i=0
  ·subst h0;exact .inr (.inr (.inl ⟨rfl,rfl⟩))
  ·by_cases h1:i=1
   ·subst h1;exact .inr (.inl ⟨by decide,by decide,_,_,rfl,rfl⟩)
   by_cases h2:i=TRS
   ·subst h2;exact .inr (.inr (.inr ⟨rfl,rfl⟩))
   ·refine .inl ?_;exact (if_neg h0).trans ((if_neg h1).trans (if_neg h2)))
 rfl (λτ=>⟨_,_,_,_,rfl⟩) (λx l hx=>by
  obtain⟨T,hT⟩:=hx;obtain⟨m,an,_⟩:=hT;subst an;have h:=H.al8 l m;refine⟨h.1,λτ hτ l' L' p hsl=>?_⟩;have e:aD.tr τ.1.1 t2 τ.1.2.1 τ.1.2.2.1 τ.1.2.2.2=.tr l' t2 L' p false:=hsl;injection e with e1 e2 e3 e4 dC
  rw[<-e4];exact h.2 τ hτ dC)
def avD:=pd QF (QF.u [] [(162,⟨[G2],t2,H.jG⟩)] ⟨avC,trivial⟩) [] trivial func87 H.Hu e2 H.ak'
def abK:=lK avD [(84,1)] func38 H.HM (S L (S L (S e0 (S L (J [(10,.fp 24)] [(24,.mp t2 t2)] (S L (B (W aaZ [(4,.gq t2),(5,.gq t2),(24,.mp t2 t2)] (S L (S dK (J aaZ [(4,.gq t2),(5,.gq t2),(24,.mp t2 t2)] yE L)))))) D))))) H.amO
def avE:IOC:=iA0 (W.shD 2 W.PL)
theorem avF:IoSpec Tryz.prog noU 126 avE:=mkI abK [] trivial func126 e20 W.aq2
def avG:=jE abK [] func88 H.AI 1 e2 H.amG
def abL:=lK avG [(88,1)] func39 H.HN (S L (S L (S e0 (J [(4,.own 4),(5,.own 5)] [(4,a2),(5,a2)] (S L (B (W aa0 Bj (S L (S dK (J aa0 Bj (B (S L (S L (J aaV Bj (S L (B (W aaR Bj (S L (S dK (J aaR Bj yE L)))))) (J aaV Bj e1 e1))))) L)))))) D)))) H.amT
def avH:IOC:=iA0 (W.shD 1 W.PN)
theorem avI:IoSpec Tryz.prog noU 127 avH:=mkI abL [] trivial func127 (S L e9) W.aq4
def avJ:=mk abL func143 fcFitsAt rD aoh
def avK:=jE avJ [] func142 x' 1 e2 aoi (hc:=λx h=>by obtain⟨i,w,n,ar,_⟩:=h;exact si ⟨⟨⟨trivial,ra (congrArg (λo=>o.1) ar)⟩,ra (congrArg (λo=>o.2.1) ar)⟩,ra (congrArg (λo=>o.2.2) ar)⟩)
def avL:=lK avK [(142,1)] func63 AU (S L (S lW (S e0 (S L (J [(7,.loc 22 0)] [(22,.cells xI [v22,rB,v2,v24,.own 61]),(61,EF)] (S L (B (W [(2,.loc 2 0),(7,.loc 22 0),(24,v22),(25,v2),(26,v2)] aba (S L (S dK (J [(2,.loc 2 0),(7,.loc 22 0),(24,v22),(25,v2),(26,v2)] aba (B (S L (S L (J [(2,.loc 2 0),(7,.loc 22 0),(10,.own 10),(24,v22),(25,v2),(26,v2)] [(2,.gq tX),(10,a2),(22,.cells xI [v22,rB,v2,v24,.own 61]),(61,EF)] (S L (B (W aaQ [(2,.gq tX),(8,.gq t2),(9,aaM),(10,a2),(11,.cells t2 [v2]),(22,.cells xI [v22,rB,v2,v24,.own 61]),(61,EF)] (S e1 (J aaQ [(2,.gq tX),(8,.gq t2),(9,aaM),(10,a2),(11,.gq t2),(22,.cells xI [v22,rB,v2,v24,.own 61]),(61,EF)] yF (S D L)))))) (S e0 L))))) L)))))) D))))) aol
def DA:=mk avL func24 x9 Bk aot
def Bn:IOC:=⟨⟨[(0,.val t32)],[]⟩,⟨[(0,.val t22),(1,.val Di),(2,.val t2),(3,.own 28),(4,.own 11),(5,.own 16),(6,.own 20),(7,.own 24),(8,.val t2)],[(28,.a8 uM),(11,.a8 t2),(16,.a8 xH),(20,.a8 vo),(24,.a8 q9)]⟩,[some 9],1,W.wh⟩
theorem EN:IoSpec Tryz.prog noU 118 Bn:=mkI DA [(188,Qu),(189,Qv),(190,Qw),(191,.io Qx),(192,Qy),(193,Qz),(194,Jq),(195,QB)] ⟨abl,abm,abn,abo,abr,abt,QA,abu,trivial⟩ func118 kS W.sClo
def avM:IOC:=iA0 (W.shD 4 W.na)
theorem avN:IoSpec Tryz.prog noU 128 avM:=mkI DA [(118,.io Bn)] ⟨EN,trivial⟩ func128 (S L (S L (S L (S L (S e0 (S lW e2)))))) W.arh
def avO:=mk DA func146 HY abf aom
def avP:=mk avO func66 H6 (S L (S L (J [(0,aaF),(1,v2),(9,v2)] [] (S L (B (W aa1 [] (S L (S dK (J aa1 [] yF L)))))) D))) aor
def re:=mk avP func23 AR (S L e9) aov
def avQ:IOC:=iA0 (W.shD 3 W.PO)
theorem avR:IoSpec Tryz.prog noU 129 avQ:=mkI re [] trivial func129 (S L e9) W.aq6
def EO:IOC:=⟨⟨[(0,.loc 100000 0),(1,.val t32)],[(100000,.fL qa)]⟩,⟨[(0,.val t9)],[(100000,.fL qa)]⟩,[none],2,W.wj⟩
theorem Js:IoSpec Tryz.prog noU 200 EO:=mkI re [] trivial func200 (S L (S e0 e2)) W.are
def avS:IOC:=iA0 (W.shD 2 W.uD)
theorem avT:IoSpec Tryz.prog noU 130 avS:=mkI re [(118,.io Bn),(200,.io EO)] ⟨EN,Js,trivial⟩ func130 Bk W.ari
def avU:IOC:=iA0 (W.shD 3 W.PQ)
theorem avV:IoSpec Tryz.prog noU 131 avU:=mkI re [(118,.io Bn),(200,.io EO)] ⟨EN,Js,trivial⟩ func131 uK W.arj
def avW:IOC:=iA0 (W.shD 4 W.PR)
theorem avX:IoSpec Tryz.prog noU 132 avW:=mkI re [(118,.io Bn),(200,.io EO)] ⟨EN,Js,trivial⟩ func132 uK W.ark
def avY:IOC:=iA0 (W.shD 5 W.PS)
theorem avZ:IoSpec Tryz.prog noU 133 avY:=mkI re [(118,.io Bn),(200,.io EO)] ⟨EN,Js,trivial⟩ func133 uK W.arl
def abM:IOC:=⟨⟨[(0,.own 200001),(1,.val t3),(2,.val t3)],[(200001,.a8 vo)]⟩,⟨[(0,.sub 200001)],[(200001,.a8 vo)]⟩,[none],3,(W.IV W.IZ)⟩
theorem av0:IoSpec Tryz.prog noU 201 abM:=mkI re [] trivial func201 (S L (S L (S e0 uK))) (W.arb W.IZ)
def av1:IOC:=iA0 (W.shD 1 W.uE)
theorem av2:IoSpec Tryz.prog noU 134 av1:=mkI re [(194,Jq),(201,.io abM)] ⟨QA,av0,trivial⟩ func134 (S L (S e0 (S .F3 D))) W.arn
def av3:=mk re func217 sO (S L (S L (S L (S L (S L (S L (S L (S L uK)))))))) aoY
def av4:=mk av3 func165 sO (S L (S (C e2 L) e2)) (ao0 (λ_=>M.fail))
def av5:=mk av4 func163 Ig (S L (J [(0,nj),(1,v2)] [] e1 (S L (J [(0,nj),(6,v228)] [] e1 (S L (S L (J [(7,.own 30)] [(30,Jl)] (B (W [(7,.own 30),(8,v2)] [(30,Jl)] (S e1 (B L)))) D))))))) ao8
def av6:=mk av5 func90 AZ (S L (S lW (S e0 (S L (J [(2,.loc 2 0),(7,.loc 30 0)] wq (S L (C lW L)) (J [(2,.loc 2 0),(7,.loc 30 0)] wq (S L (B (W [(2,.loc 2 0),(7,.loc 30 0),(46,v2),(47,v2)] wq (S L (S dK (J [(2,.loc 2 0),(7,.loc 30 0),(46,v2),(47,v2)] wq (B (S L (S L (B (W aaW wq (S L (S dK (J aaW wq (B (S L (S L (B (W aaS wq (S L (S dK (J aaS wq yE L)))))))) L)))))))) L)))))) (J [(2,.loc 2 0),(7,.loc 30 0)] aa9 (S L (B (W [(2,.loc 2 0),(7,.loc 30 0),(92,dS),(93,v2),(94,v2)] aa9 e4))) (J [(7,.loc 30 0)] aa_ (S L (B (W [(7,.loc 30 0),(114,pG),(115,v2),(116,v2)] aa_ e4))) D)))))))) apk
def abN:=mk av6 func91 O5 e2 ao'
def abO:IOC:=⟨⟨[(0,.val t27),(1,.val t3)],[]⟩,⟨[(0,.own 30)],[(30,.a8 t3)]⟩,[none],2,vU⟩
theorem av7:IoSpec Tryz.prog noU 92 abO:=mkI abN [] trivial func92 ti Y4
def q168:=mk abN func168 vV (S L (S (B (S L (C D (S L (C D e0))))) D)) apb
def abP:=mk q168 func96 Ip (S L (S L (J [(6,.own 6)] [(6,Bf)] (S L (B (W [(0,ku),(6,.own 6),(14,dS),(15,v2),(16,v2)] [(6,Bf)] (S L (S dK (J [(0,ku),(6,.own 6),(14,dS),(15,v2),(16,v2)] [(6,Bf)] (B (S L (S e1 (S L (S L (J [(0,ku),(6,.own 6),(10,.loc 10 0),(11,v2),(14,dS),(15,v2),(16,v2)] [(6,Bf),(10,aaE)] (S L (B (S L (C D e1)))) (S e0 (S L (B (W [(0,ku),(6,.own 6),(10,.loc 10 0),(11,v2),(14,dS),(15,v2),(16,v2),(58,dS),(59,v2),(60,v2)] [(6,Bf),(10,aaE)] e4)))))))))) L)))))) D))) apx
def abQ:IOC:=⟨⟨[(0,.val t27),(1,.val t2)],[]⟩,⟨[(0,.own 30)],[(30,.a8 t2)]⟩,[none],2,vU⟩
theorem av8:IoSpec Tryz.prog noU 92 abQ:=mkI abP [] trivial func92 ti Y4
def abR:=mk abP func169 fcGood e2 apI
def QG(f:Nat):IOC:=⟨⟨[(0,.val ot),(1,.own 200001),(2,.val zZ),(3,.val t2),(4,.fp 100002)],[(100002,.mp t2 t2),(200001,.a8 t2)]⟩,⟨[(0,.val t4)],[(100002,.mp t2 t2),(200001,.a8 t2)]⟩,[none],5,uz f⟩
theorem abS:∀f,IoSpec Tryz.prog noU 170 (QG f)
 |0=>MY func170 apR
 |f+1=>mkI abR [(170,.io (QG f))] ⟨abS f,trivial⟩ func170 (S L (J [] Qq (S L (B (W aaU Qq (S L (S dK (J aaU Qq (B (S L (S e1 (S L (S L (C e2 L)))))) L)))))) D)) (apQ f)
def av9:=pd abR me [(92,.io abQ),(170,.io (QG 201))] ⟨av8,abS 201,trivial⟩ func98 It (S L (S L (S L (J [(6,v2)] [] (S L (B (W aa5 [(50140,a2)] (S L (S dK (J aa5 [(50140,a2)] yF L)))))) D)))) apT
def av_:=mk av9 func93 v' rD apU
def abT:=pd av_ me [(92,.io abO)] ⟨av7,trivial⟩ func40 IB (S L (S L (S e0 (S L (S L (J [(8,.own 8)] [(8,a2)] (S L (B (W aa2 [(8,a2),(50260,a2)] (S L (S dK (J aa2 [(8,a2),(50260,a2)] yE L)))))) D)))))) aqe
def awa:IOC:=iA0 (W.shD 1 W.PT)
theorem awb:IoSpec Tryz.prog noU 135 awa:=mkI abT [] trivial func135 rD W.aq8
def awc:=mk abT func181 O6 e2 apa
def awd:=mk awc func108 Ih (S L (J [(1,dS),(2,.loc 2 0)] [(2,yB)] (S L (B (W [(1,dS),(2,.loc 2 0),(7,dS),(8,v2),(9,v2)] [(2,yB)] e3))) D)) apc
def awe:=mk awd func109 sR (S L (J [(4,v2)] [] (S L (B (W [(0,ku),(4,v2),(7,dS),(8,v2),(9,v2)] [] (S L (S dK (J [(0,ku),(4,v2),(7,dS),(8,v2),(9,v2)] [] yF L)))))) D)) apz
def abU:=mk awe func49 IC e20 aqg
def awf:IOC:=iA0 (W.shD 0 W.PU)
theorem awg:IoSpec Tryz.prog noU 136 awf:=mkI abU [(192,.io abp)] ⟨abq,trivial⟩ func136 (S L (S L (J [(0,.loc 100000 0),(5,.own 50100)] [(50100,a2),(100000,EH)] (S L (B (W [(0,.loc 100000 0),(5,.own 50100),(12,v2),(13,v2)] [(50100,a2),(100000,EH)] e4))) e2))) W.aq9
def QH:=mk abU func92 Ie ti ao7
def Jt(f:Nat):IOC:=⟨⟨[(0,.val ot),(1,.val t27),(2,.val t2),(3,.gM),(1000000,.tr t27)],[]⟩,⟨[(0,.val t4),(1000000,.tr t27)],[]⟩,[none],4,rv f⟩
theorem QI:∀f,IoSpec Tryz.prog noU 167 (Jt f)
 |0=>MY func167 ap4
 |f+1=>mkI QH [(167,.io (Jt f))] ⟨QI f,trivial⟩ func167 (S L (S L (S e0 (J [(0,ku),(1,dS),(2,v2),(3,.gM),(9,v2),(1000000,.tr t27)] [] (S L (B (W aaT [] (S L (S dK (J aaT [] (B (S L (S e1 e0))) L)))))) D)))) (ap3 f)
def abV:IOC:=⟨⟨[(0,.val ot),(1,.gM),(1000000,.tr t27)],[]⟩,⟨[(1000000,.tr t27)],[]⟩,[],2,(Hf (rv 10))⟩
theorem awh:IoSpec Tryz.prog noU 218 abV:=mkI (S:=(Hf (rv 10))) QH [(167,.io (Jt 10))] ⟨QI 10,trivial⟩ func218 L (λx=>M.le_refl _)
def Ju:ITC:=⟨ot,t27,yk,Iv⟩
theorem awi:CK Tryz.prog 218 Ju:=Uj (c:=abV) awh me (ic:=Ju) (λx l L=>(x,l,(l,L,[],false),())) rfl (by decide) (by simp[Ju])
 (λx l L i=>by
  by_cases h0:i=0
  ·subst h0;exact .inr (.inl ⟨by decide,rfl⟩)
  ·by_cases h1:i=1
   ·subst h1;exact .inr (.inr (.inl ⟨rfl,rfl⟩))
   ·by_cases h2:i=TRS
    ·subst h2;exact .inr (.inr (.inr ⟨rfl,rfl⟩))
    ·refine .inl ?_;exact (if_neg h0).trans ((if_neg h1).trans (if_neg h2)))
 rfl (λτ=>⟨_,_,_,_,rfl⟩) (λx l hp=>by
  obtain⟨s,hs,hv⟩:=hp;subst hs;have h:=ap5 s hv l;refine⟨h.1,λτ hτ l' L' n hsl=>?_⟩;have e:aD.tr τ.1.1 t27 τ.1.2.1 τ.1.2.2.1 τ.1.2.2.2=.tr l' t27 L' n false:=hsl;injection e with e1 e2 e3 e4 dC
  exact e4.symm.trans ((h.2 τ hτ).2.2 dC))
def awj:=pd QH me [(218,.b8 Ju)] ⟨awi,trivial⟩ func166 Pw (S L (S L (S (S L (B (bZ [(1,.loc 1 0),(3,.loc 3 0)] [(1,.cells ot [ku]),(3,.cells t27 [dS])] [(1,.loc 100001 0),(3,.loc 100003 0),(15,dS)] [(100001,.cells ot [ku]),(100003,.cells t27 [dS])] [] [(100001,.cells ot [ku]),(100003,.cells t27 [dS])] L (B e1)))) D))) ap'
def awk:=mk awj func94 Py (S L e9) aqa
def QJ:=mk awk func41 Iy e2 aqb
def awl:IOC:=iA0 (W.shD 0 W.PV)
theorem awm:IoSpec Tryz.prog noU 137 awl:=mkI QJ [] trivial func137 rD W.aq_
def abW:IOC:=⟨⟨[(0,.val ot),(1,.gM),(1000000,.tr t27)],[]⟩,⟨[(1000000,.tr t27)],[]⟩,[],2,(Hg (rv 10))⟩
theorem awn:IoSpec Tryz.prog noU 95 abW:=mkI (S:=(Hg (rv 10))) QJ [(167,.io (Jt 10))] ⟨QI 10,trivial⟩ func95 L (λx=>M.le_refl _)
def Jv:ITC:=⟨ot,t27,yk,Ps⟩
theorem awo:CK Tryz.prog 95 Jv:=Uj (c:=abW) awn me (ic:=Jv) (λx l L=>(x,l,(l,L,[],false),())) rfl (by decide) (by simp[Jv])
 (λx l L i=>by
  by_cases h0:i=0
  ·subst h0;exact .inr (.inl ⟨by decide,rfl⟩)
  ·by_cases h1:i=1
   ·subst h1;exact .inr (.inr (.inl ⟨rfl,rfl⟩))
   ·by_cases h2:i=TRS
    ·subst h2;exact .inr (.inr (.inr ⟨rfl,rfl⟩))
    ·refine .inl ?_;exact (if_neg h0).trans ((if_neg h1).trans (if_neg h2)))
 rfl (λτ=>⟨_,_,_,_,rfl⟩) (λx l hp=>by
  obtain⟨s,hs,hv⟩:=hp;subst hs;have h:=ap6 s hv l;refine⟨h.1,λτ hτ l' L' n hsl=>?_⟩;have e:aD.tr τ.1.1 t27 τ.1.2.1 τ.1.2.2.1 τ.1.2.2.2=.tr l' t27 L' n false:=hsl;injection e with e1 e2 e3 e4 dC
  exact e4.symm.trans ((h.2 τ hτ).2.2 dC))
def awp:=mk QJ func97 Pm (S L (J [] [] (S L (B (W [(0,ku),(9,pG),(10,v2),(11,v2)] [] (S L (S dK (J [(0,ku),(9,pG),(10,v2),(11,v2)] [] (B (S L (S L (J [(0,ku),(7,v4),(9,pG),(10,v2),(11,v2)] [] (S L (B (W [(0,ku),(6,.loc 6 0),(7,v4),(9,pG),(10,v2),(11,v2),(20,v2),(21,v2)] [(6,as6)] e4))) e0)))) L)))))) D)) apK
def QK:=pd awp me [(95,.b8 Jv)] ⟨awo,trivial⟩ func42 IA (S L (S L (S e0 (S L (S (S L (B (bZ [(4,.loc 4 0),(6,.loc 6 0)] [(4,.cells ot [ku]),(6,.cells t2 [v2])] [(4,.loc 100004 0),(6,.loc 100006 0),(21,dS)] [(100004,.cells ot [ku]),(100006,.cells t2 [v2])] [] [(100004,.cells ot [ku]),(100006,.cells t2 [v2])] L (B (S L (S e1 (S L e1))))))) (S e0 D)))))) aqc
def awq:IOC:=iA0 (W.shD 0 W.PW)
theorem awr:IoSpec Tryz.prog noU 138 awq:=mkI QK [] trivial func138 rD W.aq'
theorem aws:∀ k∈[119,120,121,122,123,124,125,126,127,128,129,130,131,132,133,134,135,136,137,138],IoSpec Tryz.prog noU k {QD with sh:=W.Ex k}:=EE.mem (l:=[119,120,121,122,123,124,125,126,127,128,129,130,131,132,133,134,135,136,137,138]) ⟨auS,auU,auW,avl,avp,avu,avA,avF,avI,avN,avR,avT,avV,avX,avZ,av2,awb,awg,awm,awr,trivial⟩
def abX:IOC:=⟨⟨[(0,.loc 100000 0),(1,.val MN),(2,.val t9)],[(100000,.fL qa)]⟩,⟨[(0,.val t9)],[(100000,.fL qa)]⟩,[none],3,W.I5⟩
theorem awt:IoSpec Tryz.prog noU 59 abX:=mkI QK [(999999,.FL QD W.Ex [119,120,121,122,123,124,125,126,127,128,129,130,131,132,133,134,135,136,137,138])] ⟨aws,trivial⟩ func59 (S L (S L (S L (S lW (S L (J [(0,.loc 100000 0),(8,.loc 8 0),(11,.own 48)] [(8,aaL),(48,a2),(100000,EH)] (S L (B (W [(0,.loc 100000 0),(8,.loc 8 0),(11,.own 48),(50,rC),(51,v2),(52,v2)] [(8,aaL),(48,a2),(100000,EH)] (S L (S dK (S (B (S L (S L (S e0 L)))) L)))))) D)))))) W.arw
def NG:=pd QK me [(57,.io abw),(59,.io abX)] ⟨auR,awt,trivial⟩ func20 W.uF (S L (S lW (S e0 (S L (J [(4,.own 4),(5,.loc 5 0),(8,.loc 50230 0)] aa8 (S L (B (W [(4,.own 4),(5,.loc 5 0),(8,.loc 50230 0),(9,as8),(25,rC),(26,v2),(27,v2)] aa8 e4))) D))))) W.arC
def awu:=mk NG func62 W.uH (S L (S e0 (J [] [] (S L (B (W [(0,dS),(1,dS),(5,v2)] [] dC))) D))) W.arR
def awv:=mk awu func60 W.Jb (S L (S e0 (J Jo EJ (S L (B (W [(2,.loc 2 0),(3,.loc 3 0),(5,v2)] EJ dC))) (J Jo EJ (S L (B (W [(2,.loc 2 0),(3,.loc 3 0),(6,v2)] EJ dC))) (J [] [] (S L (B (W Qp EJ dC))) D))))) W.arS
def aww:=mk awv func61 W.Jc (S L (S e0 (J Jo yD (S L (B (W [(2,.loc 2 0),(3,.loc 3 0),(5,v2)] yD dC))) (J Jo yD (S L (B (W [(2,.loc 2 0),(3,.loc 3 0),(6,v2)] yD dC))) (J [] [] (S L (B (W Qp yD (S e1 (J Qp yD (B (S L (S e0 (S L (B (W [(2,.loc 2 0),(3,.loc 3 0),(7,v2),(8,Qm),(9,Qm),(10,v2)] yD dC)))))) L))))) D))))) W.arT
def NH:=mk aww func22 W.EA (S L (S L (S e0 (J [(5,.loc 5 0),(6,.loc 6 0)] EK (S L (B (W [(5,.loc 5 0),(6,.loc 6 0),(7,v2)] EK e10))) (J [(5,.loc 5 0),(6,.loc 6 0)] EK (S L (B (W [(5,.loc 5 0),(6,.loc 6 0),(10,v2)] EK e10))) (J [] [] (S L (B (W [(5,.loc 5 0),(6,.loc 6 0),(13,v2)] EK dC))) D)))))) W.arU
def awx:=mk NH func148 H.bX e2 H.akB
def awy:=mk awx func147 H.vy e2 H.akF
def awz:=mk awy func149 H.fcSlip e9 H.akH
def awA:=mk awz func67 H.vA (S L (S e0 (J nk nY (S L (B (W sZ nY dC))) (J nk nY (S L (B (W [(1,.loc 1 0),(4,v2)] nY dC))) (J nk nY (S L (B (W Bi nY dC))) (J [] [] (S L (B (W [(1,.loc 1 0),(6,v2)] nY e10))) D)))))) H.alb
def awB:=mk awA func68 H.Ho e2 H.akL
def awC:=mk awB func26 H.gY (S L (S e0 (J [] [] (S L (B (W sZ nY (S e1 (J sZ nY (B (S L (B (W Jn nY dC)))) L))))) D))) H.ald
def awD:=mk awC func105 bX e2 aoG
def awE:=mk awD func180 H9 abc aoK
def awF:=mk awE func106 Ia e9 aoU
def awG:=mk awF func107 Ib e2 aoV
def awH:=mk awG func48 pB (S L (S lW (S e0 (J nk qx abe (J nk qx (S L (B (W Bi qx dC))) (J nk qx (S L (B (W [(1,.loc 1 0),(6,v2)] qx dC))) (J [] [] (S L (B (W [(1,.loc 1 0),(7,v2)] qx e10))) D))))))) aoW
def xQ:=mk awH func15 W.sY e9 W.arG
def awI:=mk xQ func110 vM (S L (S e0 (J nk nl (S L (B (W sZ nl (S e1 (J sZ nl (B (S e0 (S L (B (W Jn nl dC))))) L))))) (S e0 (J nk nl (S L (B (W Bi nl dC))) D))))) aoC
def awJ:=mk awI func50 ID (S L (S e0 (J nk qx (S L (B (W sZ qx dC))) (J nk qx abe (S e0 (S L (J Bi qx (S L (B (W [(1,.loc 1 0),(5,v2),(6,v2)] qx Bl))) D))))))) aqj
def awK:=mk awJ func51 H.vM (S L (S e0 (S e0 (S L (J [(3,v2)] [] (S L (B (W Jn nY Bl))) D))))) H.amV
def awL:=mk awK func111 W.I9 (S L (S L (J [(3,.own 5)] [(5,a9)] (S L (B (W [(0,v9),(3,.own 5),(4,v2)] [(5,a9)] (S e1 (J [(0,v9),(3,.own 5),(4,v2)] [(5,a9)] (B e1) L))))) D))) W.arJ
def awM:=mk awL func112 W.I8 (S L (S e0 (S L (J [(3,v2)] [] (S L (B (W [(0,v9),(3,v2),(4,v2)] [] (S e1 (S (B (S e0 L)) L))))) D)))) W.arI
def awN:=mk awM func113 W.I_ (S L uK) W.arL
def awO:=mk awN func52 W.Ja (S L (S L (J [(3,.own 3),(5,rC)] [(3,a2)] (S L (B (W [(3,.own 3),(5,rC),(6,v2)] [(3,a2)] (S e1 (S (B (S L (S e0 L))) L))))) (S L (J [] [] (S L (B (W [(3,.own 3),(5,rC),(8,rC),(9,dS),(10,dS),(11,v2)] [(3,a2)] dC))) D))))) W.arM
def sq:=mk awO func14 W.Je (S L (S e0 (S L (J [(1,rC),(2,.loc 2 0),(5,v2),(6,v2),(7,v2),(8,v2)] [(2,EG)] (S L (B (W [(1,rC),(2,.loc 2 0),(5,v2),(6,v2),(7,v2),(8,v2),(9,v2)] [(2,EG)] Bl))) (J [(2,.loc 2 0),(5,v2),(6,v2),(7,v2),(8,v2)] [(2,EG)] (S L (B (W aa3 [(2,EG)] (S e1 (J aa3 [(2,EG)] (B (S e0 (S L (B (S L (C L (S L (C L (S L (C D e1)))))))))) L))))) D))))) W.arX
def awP:=mk sq func28 W.EC e2 W.arY
def awQ:=mk awP func30 W.Ey (S L (S e0 (J [] [] (S L (B (W [(0,rC),(1,rC),(5,v2)] [] dC))) D))) W.arP
def awR:=mk awQ func183 O1 e2 aoD
def awS:=mk awR func115 IE e2 aqk
def awT:=mk awS func54 W.I6 e2 W.arE
def awU:=mk awT func29 W.ED rD W.ar3
def awV:=mk awU func45 W.Ji (S L (S e0 (S L (J [(3,v9)] [] (B (W [(0,v2),(3,v9)] [] (S e1 (B D)))) D)))) W.asP
def awW:=mk awV func33 W.Bd (S L (J [(0,v9)] [] (S L (B (W [(0,v9),(1,dS),(5,v2)] [] Bl))) D)) W.asR
theorem acd:hN Tryz.prog 9 (.aw wv (.aw ER uM)) t4 (λx=>OP sM.sh W.uF.sh W.EA.sh W.EC.sh W.ED.sh W.Bd.sh x):=G_ awW me (sp:=[]) trivial func9 (ann:=(S L (S e0 e20))) (λx=>M.le_refl _) (by kernel_rfl) λx=>by kernel_rfl
end
end Go.Fer.nZ
namespace Go.Fer.nZ
open Go Go.Proofs
theorem ab'{H:Type}{enc:TypeId×Value->H}{a:Assume}{C:Checked}{os:Os}{f:FuncId}{fn:Func}{s:ChangeSpec}{conds:List PathCond}{apart FK handsOn again:Bool}{X:World->Array Value->Prop}
  (r8:∀ (w w':World) (args:Array Value),w.heap=w'.heap->X w args->X w' args)
  (own:ownKnob C.prog.godebug=none) (started:os.Started) (awX:C.prog.inits.idxOf? f=none) (s5:C.prog.funcs[f]?=some fn)
  (witness:∃ (w:World) (tape:Tape) (i:Input),w.os=os/\(w.forCall tape i).Shaped C.prog/\i.vars=[]/\Input.okWide C.prog (w.forCall tape i) .any w.heap.size f i/\
   ((s.pre enc C.prog fn conds apart (w.forCall tape i).memory i.args/\X (w.forCall tape i).memory i.args)/\sizedMet enc C.prog fn (OpenSpec.ofChange s) apart (w.forCall tape i).memory i.args)/\a.holds C.prog (lone (Frame.enter C.prog f i.args .normal) [] (w.forCall tape i)))
  (awY:∀ (W:World) (base:Nat) (args:Array Value) (a_ gs:List (DataW H)) (before:List MemPlace),(∀ (j:Nat) t v,fn.params[j]?=some t->args[j]?=some v->Value.okWide C.prog W .any base t v)->
   DataW.Whole enc C.prog fn.params.toList s.vars apart W args.toList a_ gs before->
   W.ShapedOpen C.prog->X W args->
   Calls C.prog f args W λe p6=>∃ v,e=.returned v/\s.post enc C.prog fn apart FK handsOn again W args v p6) :
  ReturnsInHanded a C os f .any (λw args=>(s.pre enc C.prog fn conds apart w args/\X w args)/\sizedMet enc C.prog fn (OpenSpec.ofChange s) apart w args) (s.post enc C.prog fn apart FK handsOn again):=by
 refine returnsInHanded_of_calls own started awX witness ?_;intro w tape i _ nm _ cq gw ayn;obtain⟨_,_,_,awZ,aw0,_,_,_,_,xE⟩:=cq;have e:awZ=fn:=Option.some.inj (aw0.symm.trans s5);subst e;obtain⟨⟨⟨a_,gs,before,hw,hc⟩,hx⟩,bb⟩:=gw;have CA:=DataW.Whole.of_heap (w':=w.forCall tape i) (by rfl) hw;refine (awY (w.forCall tape i) w.heap.size i.args a_ gs before xE CA nm (r8 (w.forCall tape i).memory (w.forCall tape i) i.args rfl hx)).mono λe p6 ⟨v,he,hp⟩=>?_;subst he;exact ChangeSpec.post_blind hp
theorem Jx{P:Program}{w:World}:∀ {l:List (String×DataW Unit)} {ps:List MemPlace},DataW.LaidVars P w l ps->∀ n d,(n,d)∈l->∃ g t cs b3 p,P.globalNamed n=some g/\(P.globals[g]?).map (·.type)=some t/\w.var? P n=some cs/\DataW.trod (λ_=>()) P w 0 (λ_=>true) false b3 t cs.toList=some (d,p)
 | [],_,_,_,_,an=>by cases an
 | (iL,uR)::r,ps,h,n,d,an=>by
  obtain⟨g,t,cs,b3,p,q,h1,h2,h3,aR,bw,_⟩:=h;rcases List.mem_cons.1 an with e | e
  ·cases e;exact⟨g,t,cs,b3,p,h1,h2,h3,aR⟩
  ·exact Jx bw n d e
theorem ab_{P:Program}{w:World}{n:String}{g:Nat}{t:TypeId}{d:DataW Unit}{b3:Nat}{cs:Array Value}{p:List MemPlace}(aA:P.globalNamed n=some g)(hv:w.var? P n=some cs)(hu:∃ ms,P.underlying t=some (.interface ms))
  (h:DataW.trod (λ_=>()) P w 0 (λ_=>true) false b3 t cs.toList=some (d,p)):∃ v,w.cell? ⟨g,0,none⟩=some v/\(v=.nilIface\/∃ te pe,v=.iface te pe):=by
 obtain⟨ms,hu⟩:=hu;have hc:w.cell? ⟨g,0,none⟩=cs[0]?:=by
  unfold World.var? at hv;rw[aA]at hv;simp only[Option.bind_some]at hv;cases ag:w.heap[g]? with
  | none=>rw[ag]at hv;cases hv
  | some o=>
   rw[ag]at hv;cases o with
   | cells a T ep=>cases hv;simp[World.cell?,ag]
   | _=>cases hv
 have aG:cs[0]?=cs.toList[0]?:=by simp
 rw[hc,aG];generalize cs.toList=l at h;cases b3 with
 | zero=>simp[DataW.trod]at h
 | succ b3=>
  match l with
  | []=>simp[DataW.trod,hu]at h
  | [.nilIface]=>exact⟨_,rfl,.inl rfl⟩
  | [.iface u v]=>exact⟨_,rfl,.inr ⟨u,v,rfl⟩⟩
  | _::_::_=>simp[DataW.trod,hu]at h
  | [x]=>cases x<;>first | exact⟨_,rfl,.inl rfl⟩ | exact⟨_,rfl,.inr ⟨_,_,rfl⟩⟩ | (simp[DataW.trod,hu]at h;done)
theorem aw1:((List.range 8).all λb=>(((begin Tryz.prog (λ_ _=>0) default).world.heap[b]?).bind Obj.row?).isSome)=true:=by kernel_rfl
theorem acf{W : World}(h : W.ShapedOpen Tryz.prog)(h1 : ∃ v, W.cell? ⟨1, 0, none⟩ = some v /\ (v = .nilIface \/ ∃ te pe, v = .iface te pe))(h2 : ∃ v, W.cell? ⟨2, 0, none⟩ = some v /\ (v = .nilIface \/ ∃ te pe, v = .iface te pe))(aG : Lib.TabIs Tryz.prog W "internal/strconv.uint64pow10" .u64 Lib.pow10Tab) : np Tryz.prog (p9 W) W := λb ab => by
 have iX:b<8:=Nat.lt_of_lt_of_le ab (of_decide_eq_true (by kernel_rfl));refine⟨?_,?_⟩
 ·have G:=List.all_eq_true.1 aw1 b (List.mem_range.2 iX);obtain⟨⟨zero,t⟩,bb⟩:=Option.isSome_iff_exists.1 G;obtain⟨cs,cA,_⟩:=h.1 b zero t ab bb;exact (Array.getElem?_eq_some_iff.1 cA).1
 ·match b,ab,iX with
  | 0,ab,_=>exact cell_of_shapedOpen_int (t:=3) (zero:=#[.int .i64 0]) h ab (by kernel_rfl) rfl (by kernel_rfl) (by kernel_rfl) Tryz.underlying3
  | 1,_,_=>exact h1
  | 2,_,_=>exact h2
  | 3,_,_=>trivial
  | 4,_,_=>trivial
  | 5,_,_=>
   show ∀ i,W.cell? ⟨5,i,none⟩=if i<20 then some (.int .u64 (10 ^ i)) else none
   unfold Lib.TabIs World.var? at aG;rw[show Tryz.prog.globalNamed "internal/strconv.uint64pow10" = some 5 by kernel_rfl]at aG;change (match W.heap[5]? with | some (.cells cs _ _)=>some cs | _=>none)=_ at aG;intro i;cases ag:W.heap[5]? with
   | none=>rw[ag]at aG;cases aG
   | some o=>
    rw[ag]at aG;cases o with
    | cells cs T ep=>
     simp only[Option.some.injEq]at aG;simp only[World.cell?,ag,aG];simp only[Option.isSome_none,Bool.false_eq_true,if_false,List.getElem?_toArray,List.getElem?_map,Lib.pow10Tab];split
     ·rename_i Bc;rw[List.getElem?_range Bc];simp
     ·rename_i Bc;rw[List.getElem?_eq_none (by simp;omega)];rfl
    | _=>cases aG
  | 6,_,_=>trivial
  | 7,_,_=>trivial
end Go.Fer.nZ
