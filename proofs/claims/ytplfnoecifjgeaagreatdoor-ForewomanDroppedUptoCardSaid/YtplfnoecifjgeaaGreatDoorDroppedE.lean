/- Part 5 of the proof of Dropped: shallow programs of Go functions, and what they compute. No condition. -/
import Derived.Test.YtplfnoecifjgeaaGreatDoorDroppedD
noncomputable section
set_option linter.unusedVariables false
set_option linter.unusedSimpArgs false
namespace Go.Fer.H
open A (W)
abbrev bx:ad:=.int .i64
abbrev dk:ad:=.bool
abbrev fP:ad:=.slice bx
abbrev mA:ad:=.st (.az bx bx)
abbrev Oa:ad:=.st (.az bx (.az bx (.az bx (.az bx (.az bx (.az bx bx))))))
abbrev jv:ad:=.st (.az (.slice mA) (.az (.slice hq) (.az fP (.az (.slice mA) Oa))))
abbrev HM:ad:=.st (.az hq bx)
abbrev x4:ad:=.st (.az fP (.array 10 (.slice HM)))
abbrev sK:ad:=.st (.az jv (.az (.slice hq) (.slice (.bH x4))))
attribute [simp] qt Vo vA A.dJ A.Fc A.Rh A.gN A.fD A.n3 A.jb A.kA A.b2 A.pw cm hM Vn W.ho
section
variable {al:Type}
def x5(d:al)(x:List al×(al->A Bool)):A Int:=
 A.bind (A.loop (λ(D:List al×(al->A Bool)×Int×Int×Unit)=>if decide (D.2.2.2.1<D.2.2.1)=true then A.ae (0<=D.2.2.2.1/\
 D.2.2.2.1<Int.ofNat (List.length D.1)) (A.bind (D.2.1 (List.getD D.1 (Int.toNat D.2.2.2.1) d)) λy=>if y=true then A.bind (A.bind (A.pure
 D.2.2.2.1) λr=>A.pure (W.done r)) λr=>A.pure (W.done r) else A.pure (W.next (D.1,D.2.1,D.2.2.1,IntKind.wrap .i64 (Add.add
 D.2.2.2.1 1),()))) else A.bind (A.pure (W.next ())) λr=>A.pure (W.done r)) (x.1,x.2,Int.ofNat (List.length x.1),0,())) (W.bB λ(D
 : Unit)=>A.pure (-1))
def D0(c:List al×(al->A Bool)->A Int)(x:List al×(al->A Bool)):A Bool:=A.bind (c x) λy=>A.pure (decide (y>=0))
def hQ(p:al->Bool):List al->Int->Int
 | [],_=>-1
 | x::l,i=>if p x=true then i else hQ p l (i+1)
theorem Ax(p:al->Bool):∀ (l:List al) (i:Int),0<=i->(decide (hQ p l i>=0))=l.any p
 | [],i,_=>by rfl
 | x::l,i,h=>by
  simp only[hQ,List.any_cons];by_cases ai:p x=true
  ·grind
  ·have:=Ax p l (i+1) (by omega);grind
theorem Ay(p:al->Bool):∀ (l:List al) (i:Int),e0 (λx (i:Int)=>if p x=true then (.done (.done i):W Int (W Unit Int)) else .next (i+1)) (λ_=>.next ()) l i=if l.any p=true then .done (hQ p l i) else .next ()
 | [],i=>by rfl
 | x::l,i=>by
  simp only[e0,List.any_cons,hQ];by_cases ai:p x=true
  ·grind
  ·have:=Ay p l (i+1);grind
theorem D1{p:al->Bool}:∀ (l:List al) (i:Int),¬l.any p=true->hQ p l i=-1
 | [],_,_=>rfl
 | x::l,i,aA=>by
  simp only[List.any_cons,Bool.or_eq_true,not_or]at aA;simp only[hQ,aA.1,Bool.false_eq_true,if_false];exact D1 l _ aA.2
theorem Ob(d:al)(l:List al)(f:al->A Bool)(h:l.length<2 ^ 63)(ar:∀ y∈l,∃ b,f y=A.pure b):x5 d (l,f)=A.pure (hQ (λy=>(f y).val false) l 0):=by
 unfold x5;rw[A.f_ l (λi (b:Int)=>(l,f,(l.length:Int),b,())) (λy (i:Int)=>if (f y).val false=true then (.done (.done i):W Int (W Unit Int)) else .next (i+1)) (λ_=>.next ()) (λi b=>b=(i:Int)) 0 ?_ ?_ ?_ ?_]
 ·rw[Ay (λy=>(f y).val false)];by_cases bb:(l.any λy=>(f y).val false)=true
  ·simp[bb]
  ·have:hQ (λy=>(f y).val false) l 0=-1:=by
    have:∀ (l:List al) (i:Int),¬(l.any λy=>(f y).val false)=true->hQ (λy=>(f y).val false) l i=-1:=by
     intro l;induction l with
     | nil=>intro i _;rfl
     | cons x l aJ=>
      intro i aA;simp only[List.any_cons,Bool.or_eq_true,not_or]at aA;simp only[hQ,aA.1,Bool.false_eq_true,if_false];grind
    grind
   simp[bb,this]
 ·rfl
 ·rfl
 ·intro i G b aa;subst aa;have hw:=bC (n:=(i:Int)+1) (by omega) (by omega);refine⟨?_,λbe cW=>?_⟩
  ·obtain⟨b,aa⟩:=ar _ (List.getElem_mem G);simp only[bW,cZ G,if_true,dm G,cL G,A.br,aa,A.fD,A.aH,cm,hw];split<;>rfl
  grind
 simp
end
abbrev kW(e:ad):aP:=⟨.az (.slice e) (.fn e .bool),bx,λx=>x.1.length<2 ^ 63/\∀ y∈x.1,∃ b,x.2 y=A.pure b,λx=>hQ (λy=>(x.2 y).val false) x.1 0⟩
theorem sL(e:ad)(x):A.le (x5 e.dh x) ((kW e).sh x):=A.bw λh=>Ob e.dh x.1 x.2 h.1 h.2
abbrev jc(e:ad):aP:=⟨.az (.slice e) (.fn e .bool),dk,λx=>x.1.length<2 ^ 63/\∀ y∈x.1,∃ b,x.2 y=A.pure b,λx=>x.1.any λy=>(x.2 y).val false⟩
theorem sM(e:ad)(x):A.le (D0 (kW e).sh x) ((jc e).sh x):=A.bw λh=>by
 unfold D0;simp only[aP.sh,kW,A.dJ];rw[A.bz (by exact h)];exact congrArg A.pure (Ax (λy=>(x.2 y).val false) x.1 0 (by omega))
abbrev lq(s:ba):Int:=s.1
abbrev pB(s:ba):Int:=s.2.1
abbrev x6(s:ba):Int:=s.2.2.1
abbrev ek(s:ba):Int:=s.2.2.2.1
abbrev uq(s:ba):Int:=s.2.2.2.2.1
abbrev iK(s:ba):Int:=s.2.2.2.2.2
def iR(c:a6):Prop:=c.1.length<2 ^ 63/\c.2.1.length<2 ^ 63/\c.2.2.1.length<2 ^ 63/\c.2.2.2.1.length<2 ^ 63
def b4(n aT G:Int):Bool:=decide (aT<=n)&&decide (n<=G)
theorem oP{n aT G:Int}:b4 n aT G=true<->aT<=n/\n<=G:=by simp[b4]
def pC(t:pz):Bool:=b4 t.1 0 9999&&b4 t.2.1 1 9999&&b4 t.2.2.2.2.1 1 9999&&b4 t.2.2.1 0 100000&&b4 t.2.2.2.1 0 100000&&b4 t.2.2.2.2.2.1 0 100000&&b4 t.2.2.2.2.2.2 0 100000
def lr(n:Nat)(s:ba):Bool:=b4 (lq s) 0 99&&b4 (pB s) 0 ((n:Int) - 1)&&b4 (x6 s) 0 9999&&b4 (uq s) 0 9&&b4 (iK s) 0 99&&(decide (ek s=1)||decide (ek s=2)&&decide (iK s=0))
abbrev ct:aP:=⟨.az bx (.az bx bx),dk,λ_=>True,λx=>b4 x.1 x.2.1 x.2.2⟩
theorem ak1(x):A.le (WC ct.sh x) (ct.sh x):=A.bw λ_=>by
 unfold WC;simp[aP.sh,ct]
theorem ak2(x):A.le (aku x) (ct.sh x):=A.bw λ_=>rfl
abbrev x7:aP:=⟨bx,dk,λ_=>True,λx=>b4 x 0 9999⟩
theorem ak3(x):A.le (Wm ct.sh x) (x7.sh x):=A.bw λ_=>by
 unfold Wm;simp[aP.sh,ct]
abbrev vI:aP:=⟨bx,dk,λ_=>True,λx=>b4 x 0 99⟩
theorem ak4(x):A.le (Ww ct.sh x) (vI.sh x):=A.bw λ_=>by
 unfold Ww;simp[aP.sh,ct]
abbrev vJ:aP:=⟨Oa,dk,λ_=>True,λx=>pC x⟩
theorem ak5(x):A.le (WN ct.sh x) (vJ.sh x):=A.bw λ_=>by
 unfold WN;show _=A.pure (pC x);unfold pC;simp only[aP.sh,ct,A.nE,A.aH,A.kA];simp
theorem ak6(x):A.le (WJ ct.sh x) (vJ.sh x):=A.bw λ_=>by
 unfold WJ;rw[A.dL [x.2.2.1,x.2.2.2.1,x.2.2.2.2.2.1,x.2.2.2.2.2.2] (λi (_:Unit)=>(4,(i:Int),x,[x.2.2.1,x.2.2.2.1,x.2.2.2.2.2.1,x.2.2.2.2.2.2],())) (λy b=>if (!b4 y 0 100000)=true then .done (.done false) else .next b) (λ_=>.next (x,())) () ?_ ?_ ?_]
 ·rw[kR (q:=λy=>b4 y 0 100000) _ _ (λ_=>rfl)];show _=A.pure (pC x);unfold pC;simp only[List.all_cons,List.all_nil,Bool.and_true,aP.sh,ct,A.nE,A.aH,A.kA];cases E:b4 x.1 0 9999<;>cases U:b4 x.2.1 1 9999<;>cases ah:b4 x.2.2.2.2.1 1 9999<;>cases b4 x.2.2.1 0 100000<;>cases b4 x.2.2.2.1 0 100000<;>cases b4 x.2.2.2.2.2.1 0 100000<;>cases b4 x.2.2.2.2.2.2 0 100000<;>simp[E,U,ah]
 ·rfl
 ·intro i G b;have dM:i<4:=by omega
  have hw:=bC (n:=(i:Int)+1) (by omega) (by omega);have E:decide ((i:Int)<4)=true:=by grind
  simp only[E,if_true,bW,dm G,cL G,A.br,aP.sh,ct,A.nE,A.aH,cm,hw];exact na (mk:=λ(_:Unit)=>((4:Int),((i+1:Nat):Int),x,[x.2.2.1,x.2.2.2.1,x.2.2.2.2.2.1,x.2.2.2.2.2.2],()))
 simp
abbrev vK:aP:=⟨.az jv hq,dk,λx=>x.1.1.length<2 ^ 63,λx=>lr x.1.1.length x.2⟩
theorem ak7(x):A.le (WO ct.sh x) (vK.sh x):=A.bw λh=>by
 have hw:=bC (n:=(x.1.1.length:Int) - 1) (by omega) (by omega);unfold WO;show _=A.pure (lr x.1.1.length x.2);unfold lr;simp only[aP.sh,ct,A.nE,A.aH,A.kA,bW,hw];grind
theorem ak8(x):A.le (WL ct.sh vI.sh x) (vK.sh x):=A.bw λh=>by
 have hw:=bC (n:=(x.1.1.length:Int) - 1) (by omega) (by omega);unfold WL;show _=A.pure (lr x.1.1.length x.2);unfold lr;simp only[aP.sh,ct,vI,A.nE,A.aH,A.kA,bW,hw];grind
abbrev D2:aP:=⟨.az hq (.bH jv),dk,λx=>∃ c:a6,x.2=some c/\c.1.length<2 ^ 63,λx=>!lr (x.2.getD ([],[],[],[],0,0,0,0,0,0,0)).1.length x.1⟩
theorem ak9(x):A.le (WK vK.sh x) (D2.sh x):=A.bw λh=>by
 obtain⟨s,o⟩:=x;obtain⟨c,hc,h⟩:=h;change o=some c at hc;subst hc;unfold WK;simp only[Option.getD_some,aP.sh,vK,A.dJ];simp_all
abbrev Az:aP:=⟨bx,dk,λ_=>True,λx=>!b4 x 0 99⟩
theorem ak_(x):A.le (WM vI.sh x) (Az.sh x):=A.bw λ_=>by
 unfold WM;simp[aP.sh,vI]
theorem W8(a b:ba):(decide (a.1=b.1)&&(decide (a.2.1=b.2.1)&&(decide (a.2.2.1=b.2.2.1)&&(decide (a.2.2.2.1=b.2.2.2.1)&&(decide (a.2.2.2.2.1=b.2.2.2.2.1)&&decide (a.2.2.2.2.2=b.2.2.2.2.2))))))=decide (a=b):=by
 grind
def ur(a b:ba):Bool:=decide (lq a=lq b)&&!decide (a=b)
abbrev HN:aP:=⟨.az hq hq,dk,λ_=>True,λx=>ur x.1 x.2⟩
theorem ak'(x):A.le (WB x) (HN.sh x):=A.bw λ_=>by
 have h:=W8 x.1 x.2;unfold WB;show _=A.pure (ur x.1 x.2);unfold ur;grind
abbrev oQ:aP:=⟨.az fP bx,dk,λx=>x.1.length<2 ^ 63,λx=>x.1.contains x.2⟩
theorem ala(x):A.le (akQ x) ((kW hq).sh x):=sL hq x
theorem alb(x):A.le (akK (kW hq).sh x) ((jc hq).sh x):=sM hq x
abbrev oR:aP:=⟨fP,fP,λx=>x.length<=3000000,λx=>x⟩
theorem gv{n:Nat}(h:n<65536):b6 n:=by unfold b6;omega
theorem alc(x):A.le (WR x) (oR.sh x):=A.sF λh=>by
 unfold WR;rw[A.fX];refine⟨⟨false,by simp⟩,λb aa=>?_⟩;change b=true->x=[]at aa;cases b with
 | true=>rw[aa rfl];exact A.d'.2 rfl
 | false=>
  simp only[Bool.false_eq_true,if_false];exact A.kI.2 ⟨by change List.length x<=3000000 at h;simp only[hM,b6];omega,A.d'.2 (by simp)⟩
abbrev ald(c:a6):Prop:=c.1.length<=20/\c.2.1.length<=40/\c.2.2.1.length<=60/\c.2.2.2.1.length<=40
abbrev HO:aP:=⟨bx,dk,λ_=>True,λ_=>false⟩
theorem ale(x):A.le (WV x) (HO.sh x):=A.bw λ_=>by simp[WV]
abbrev HP:aP:=⟨.az bx bx,bx,λ_=>True,λx=>if x.1<x.2 then -1 else if x.1 > x.2 then 1 else 0⟩
theorem alf(x):A.le (WT HO.sh x) (HP.sh x):=A.bw λ_=>by
 unfold WT;simp only[aP.sh,HO,A.nE,A.aH,Bool.false_eq_true,if_false,decide_eq_true_eq];grind
abbrev l2:aP:=⟨.az HM HM,bx,λ_=>True,λx=>if x.1.2<x.2.2 then -1 else if x.1.2 > x.2.2 then 1 else 0⟩
theorem alg(x):A.le (WS HP.sh x) (l2.sh x):=A.bw λ_=>by
 unfold WS;simp only[aP.sh,HP,A.nE,A.aH]
abbrev Oc:aP:=⟨.int .u64,bx,λx=>0<=x/\x<=12,λx=>(DY x).val 0⟩
theorem alh(x):A.le (DY x) (Oc.sh x):=A.bw λh=>by
 have key:∃ v,DY x=A.pure v:=by
  change Int at x;change (0:Int)<=x/\x<=12 at h;unfold DY;have ay:¬(x>=4294967296):=by omega
  have aN:¬(x>=65536):=by omega
  have cA:¬(x>=256):=by omega
  have ea:IntKind.wrap .u8 x=x:=by
   show (if (false&&decide (x % 2 ^ 8>=(2 ^ (8 - 1):Int)))=true then x % 2 ^ 8 - 2 ^ 8 else x % 2 ^ 8)=x;grind
  have k5:0<=x/\x<Int.ofNat 256:=⟨h.1,by grind⟩
  simp only[decide_eq_true_eq,ay,aN,cA,if_false,A.aH,A.b2,ea,A.bz k5];grind
 obtain⟨v,af⟩:=key;simp_all
abbrev Od:aP:=⟨.int .u64,bx,λx=>0<=x/\x<=12,λx=>(DY x).val 0⟩
theorem ali(f)(x):A.le (WQ f Oc.sh x) (Od.sh x):=A.bw λh=>by
 unfold WQ;simp only[aP.sh,A.dJ];simp_all
end Go.Fer.H
namespace Go.Fer.H
open A (W)
section
variable {al:Type} (d:al) (lt:al->al->Bool)
def vL(l:List al):Nat->List al
 | 0=>l
 | k+1=>if lt (l.getD (k+1) d) (l.getD k d)=true then vL ((l.set (k+1) (l.getD k d)).set k (l.getD (k+1) d)) k else l
def pD(e:al):List al->List al
 | []=>[e]
 | a::r=>if lt e a=true then a::pD e r else e::a::r
def uu(l:List al):List al:=l.foldl (λr e=>pD lt e r) []
def fr(l:List al):List al:=(uu lt l).reverse
theorem W9:∀ (r:List al) (e:al) (R:List al),vL d lt (r.reverse++e::R) r.length=(pD lt e r).reverse++R
 | [],e,R=>rfl
 | a::r,e,R=>by
  have ay:((a::r).reverse++e::R).getD (r.length+1) d=e:=by
   simp
  have aN:((a::r).reverse++e::R).getD r.length d=a:=by
   simp
  show vL d lt ((a::r).reverse++e::R) (r.length+1)=_;unfold vL;rw[ay,aN];unfold pD;split
  ·have cA:(((a::r).reverse++e::R).set (r.length+1) a).set r.length e=r.reverse++e::(a::R):=by
    simp
   rw[cA,W9 r e (a::R)];simp
  ·simp
theorem Oe(e:al):∀ r:List al,(pD lt e r).Perm (e::r)
 | []=>.refl _
 | a::r=>by
  unfold pD;split
  ·exact ((Oe e r).cons a).trans (List.Perm.swap e a r)
  rfl
theorem W_:∀ (l r:List al),(l.foldl (λr e=>pD lt e r) r).Perm (l++r)
 | [],r=>.refl _
 | x::l,r=>by
  simp only[List.foldl_cons];refine (W_ l _).trans ?_;refine ((Oe lt x r).append_left l).trans ?_;simp
theorem W'(l:List al):(uu lt l).Perm l:=by
 have:=W_ lt l [];rwa [List.append_nil]at this
theorem D3(l:List al):(fr lt l).Perm l:=(List.reverse_perm _).trans (W' lt l)
theorem Xa(l:List al):(uu lt l).length=l.length:=(W' lt l).length_eq
theorem HQ(l:List al):(fr lt l).length=l.length:=(D3 lt l).length_eq
theorem Xb{l:List al}{x:al}:x∈fr lt l<->x∈l:=(D3 lt l).mem_iff
theorem alj(l:List al)(e:al):uu lt (l++[e])=pD lt e (uu lt l):=by simp[uu]
def qw(l:List al)(n:Nat):List al:=(uu lt (l.take n)).reverse++l.drop n
theorem alk(l:List al):qw lt l 1=l:=by
 cases l with
 | nil=>rfl
 | cons x l=>rfl
theorem alm(l:List al):qw lt l l.length=fr lt l:=by simp[qw,fr]
theorem aln(l:List al)(n:Nat)(h:n<=l.length):(qw lt l n).length=l.length:=by
 simp[qw,Xa,Nat.min_eq_left h];omega
theorem alo{l:List al}{n:Nat}(h:n<l.length):vL d lt (qw lt l n) n=qw lt l (n+1):=by
 have ay:(uu lt (l.take n)).length=n:=by rw[Xa];grind
 have:=W9 d lt (uu lt (l.take n)) l[n] (l.drop (n+1));rw[ay]at this;unfold qw;rw[List.drop_eq_getElem_cons h,this,List.take_add_one,List.getElem?_eq_getElem h,Option.toList_some,alj]
theorem Of(cc:∀ a b,lt a b=false->lt b a=true\/lt b a=false)(aR:∀ a b c:al,lt a b=false->lt b c=false->lt a c=false)(Xc:∀ a b,lt a b=true->lt b a=false)(e:al):∀ r:List al,r.Pairwise (λa b=>lt a b=false)->(pD lt e r).Pairwise (λa b=>lt a b=false)
 | [],_=>by simp[pD]
 | a::r,h=>by
  rw[List.pairwise_cons]at h;unfold pD;split
  ·rename_i he;refine List.pairwise_cons.2 ⟨λx ai=>?_,Of cc aR Xc e r h.2⟩;rcases List.mem_cons.1 ((Oe lt e r).mem_iff.1 ai) with rfl | ai
   ·exact Xc _ _ he
   ·exact h.1 x ai
  ·rename_i he;have he:lt e a=false:=by grind
   refine List.pairwise_cons.2 ⟨λx ai=>?_,List.pairwise_cons.2 h⟩;grind
end
def hs(a b:Int):Bool:=decide (a<b)
def h1(a b:bA):Bool:=decide (a.2<b.2)
theorem Xd:∀ (l r:z1'),r.Pairwise (λa b=>hs a b=false)->(l.foldl (λr e=>pD hs e r) r).Pairwise (λa b=>hs a b=false)
 | [],r,h=>h
 | x::l,r,h=>Xd l _ (Of hs (λa b _=>by simp) (λa b c E U=>by simp[hs]at *;omega) (λa b h=>by simp[hs]at *;omega) x r h)
theorem Og(l:z1'):(fr hs l).Pairwise (·<=·):=by
 have:=Xd l [] .nil;unfold fr;rw[List.pairwise_reverse];exact this.imp λh=>by simp[hs]at h;exact h
theorem Xe:∀ (l r:List bA),r.Pairwise (λa b=>h1 a b=false)->(l.foldl (λr e=>pD h1 e r) r).Pairwise (λa b=>h1 a b=false)
 | [],r,h=>h
 | x::l,r,h=>Xe l _ (Of h1 (λa b _=>by simp) (λa b c E U=>by simp[h1]at *;omega) (λa b h=>by simp[h1]at *;omega) x r h)
theorem alp(l:List bA):(fr h1 l).Pairwise λa b=>a.2<=b.2:=by
 have:=Xe l [] .nil;unfold fr;rw[List.pairwise_reverse];exact this.imp λh=>by simp[h1]at h;exact h
theorem AA{l m:z1'}(h:m.Pairwise (·<=·))(ao:l.Perm m):fr hs l=m:=
 List.Perm.eq_of_pairwise (λa b _ _ E U=>by omega) (Og l) h ((D3 hs l).trans ao)
theorem Xf{l m:z1'}(ao:l.Perm m):fr hs l=fr hs m:=AA (Og m) (ao.trans (D3 hs m).symm)
theorem alq{al:Type}{d:al}{lt:al->al->Bool}{D aI:Type}{body:D->A (W D aI)}{s0:D}(mk:Nat->List al->D)(fin:List al->aI)(hn:Nat)(fg:List al)(m_:s0=mk hn fg)(mT:hn<fg.length)
  (aD:∀ k l,l.length=fg.length->k<fg.length->body (mk k l)=A.pure (if 0<k/\lt (l.getD k d) (l.getD (k - 1) d)=true then .next (mk (k - 1) ((l.set k (l.getD (k - 1) d)).set (k - 1) (l.getD k d))) else .done (fin l))) :
  A.loop body s0=A.pure (fin (vL d lt fg hn)):=by
 subst m_;have key:∀ k l,l.length=fg.length->k<fg.length->A.loop body (mk k l)=A.pure (fin (vL d lt l k)):=by
  intro k;induction k with
  | zero=>
   intro l ak an;exact A.rX (by rw[aD 0 l ak an,if_neg (by simp)];rfl)
  | succ k aJ=>
   intro l ak an;unfold vL;by_cases h:lt (l.getD (k+1) d) (l.getD k d)=true
   ·rw[if_pos h,A.yW (s':=mk k ((l.set (k+1) (l.getD k d)).set k (l.getD (k+1) d)))]
    ·exact aJ _ (by simpa using ak) (by omega)
    ·rw[aD (k+1) l ak an,if_pos ⟨by omega,h⟩];rfl
   ·rw[if_neg h];exact A.rX (by grind)
 grind
theorem Oh{al:Type}{l:List al}{d:al}{k:Nat}:l.getD ((k:Int) - 1).toNat d=l.getD (k - 1) d:=by
 simp
theorem Xg{al:Type}{l:List al}{d:al}{k:Nat}:l.getD ((k:Int)).toNat d=l.getD k d:=by rfl
theorem alr{D aI:Type}{c:Bool}{p:Prop}[Decidable p](h:c=decide p){x y:A (W D aI)}{a b:W D aI}(E:p->x=A.pure a)(U:¬p->y=A.pure b):(if c=true then x else y)=A.pure (if p then a else b):=by
 grind
def HR(x:Int×Int×(bA×ba×Int->A Int)×List bA×Unit):A (List bA×Unit):=A.dI (x.1=0/\x.2.1=(x.2.2.2.1.length:Int)/\x.2.2.2.1.length<=12/\x.2.2.1=l2.sh) (fr h1 x.2.2.2.1,())
theorem als(x):A.le (WZ x) (HR x):=A.bw λh=>by
 obtain⟨a,b,f,l,u⟩:=x;obtain⟨E,U,ah,aZ⟩:=h;change a=0 at E;change b=(l.length:Int) at U;change l.length<=12 at ah;change f=l2.sh at aZ;subst E;subst U;subst aZ;unfold WZ;rw[A.dL (List.range (l.length - 1)) (λi (_:Unit)=>(0,(l.length:Int),l2.sh,((i+1:Nat):Int),qw h1 l (i+1),())) (λ_ _=>.next ()) (λ_=>(fr h1 l,())) () ?_ ?_ ?_]
 ·rw[ej]
 ·show (0,(l.length:Int),l2.sh,IntKind.wrap .i64 (Add.add 0 1),l,())=(0,(l.length:Int),l2.sh,((0+1:Nat):Int),qw h1 l (0+1),())
  rw[alk];rfl
 ·intro i G _;have G:i+1<l.length:=by grind
  have ak:=aln h1 l (i+1) (by omega);have hw:=bC (n:=((i+1:Nat):Int)+1) (by omega) (by omega);have aw:decide (((i+1:Nat):Int)<(l.length:Int))=true:=by grind
  simp only[aw,if_true];rw[alq (d:=((0,0,0,0,0,0),0)) (lt:=h1) (λk m=>(0,(l.length:Int),l2.sh,((i+1:Nat):Int),(k:Int),m,())) (λm=>.next (0,(l.length:Int),l2.sh,((i+1:Nat):Int),m,())) (i+1) (qw h1 l (i+1)) rfl (by omega) ?_]
  ·simp only[A.aH,A.b2,cm,hw,alo ((0,0,0,0,0,0),0) h1 G];rfl
  ·intro k m hm an;have gE:0<k->IntKind.wrap .i64 ((k:Int) - 1)=(k:Int) - 1:=λ_=>bC (by omega) (by omega);by_cases mT:0<k
   ·have ao:decide ((k:Int) > 0)=true:=by grind
    have cj:(0:Int)<=(k:Int)/\(k:Int)<Int.ofNat m.length:=⟨by omega,by grind⟩
    have cK:(0:Int)<=(k:Int) - 1/\(k:Int) - 1<Int.ofNat m.length:=⟨by omega,by omega⟩
    have eu:(0:Int)<=(k:Int) - 1/\(k:Int) - 1<Int.ofNat (m.set k (m.getD (k - 1) ((0,0,0,0,0,0),0))).length:=⟨by omega,by grind⟩
    have HS:((k:Int) - 1)=((k - 1:Nat):Int):=by omega
    simp only[ao,gE mT,cj,cK,forall_const,and_self,true_and,A.br,aP.sh,l2,A.nE,A.kA,A.aH,if_true,Bool.true_and,Oh,Xg,Int.toNat_natCast,eu];rw[show ((k:Int) - 1).toNat=k - 1 from by omega];refine alr (p:=0<k/\h1 (m.getD k ((0,0,0,0,0,0),0)) (m.getD (k - 1) ((0,0,0,0,0,0),0))=true) ?_ (λ_=>?_) (λ_=>rfl)
    ·rw[Bool.eq_iff_iff];simp only[h1,mT,true_and,decide_eq_true_eq];grind
    rw[HS]
   ·have Xh:k=0:=by omega
    subst Xh;simp[ck]
 ·intro _;have e:qw h1 l (l.length - 1+1)=fr h1 l:=by
   cases l with
   | nil=>rfl
   | cons x r=>exact alm h1 (x::r)
  have aw:decide (((l.length - 1+1:Nat):Int)<(l.length:Int))=false:=by grind
  simp only[List.length_range,aw,Bool.false_eq_true,if_false,e,A.aH]
def HT(x:Int×Int×Int×(bA×ba×Int->A Int)×List bA×Unit):A (List bA×Unit):=A.dI (x.1=0/\x.2.1=(x.2.2.2.2.1.length:Int)/\x.2.2.2.2.1.length<=12/\x.2.2.2.1=l2.sh) (fr h1 x.2.2.2.2.1,())
theorem alu(x):A.le (W5 HR x) (HT x):=A.bw λh=>by
 obtain⟨a,b,c,f,l,u⟩:=x;obtain⟨E,U,ah,aZ⟩:=h;change a=0 at E;change b=(l.length:Int) at U;change l.length<=12 at ah;change f=l2.sh at aZ;subst E;subst U;subst aZ;unfold W5;refine A.rX ?_;have hw:=bC (n:=(l.length:Int) - 0) (by omega) (by omega);have aw:decide ((l.length:Int) - 0<=12)=true:=by grind
 simp only[hw,aw,if_true];unfold HR;simp_all
theorem alv{n:Int}(h:0<=n)(U:n<=12):IntKind.wrap .u64 n=n:=by
 show (if (false&&decide (n % 2 ^ 64>=(2 ^ (64 - 1):Int)))=true then n % 2 ^ 64 - 2 ^ 64 else n % 2 ^ 64)=n;grind
def x8(x:z1'×Unit):A (z1'×Unit):=A.dI (x.1.length<4611686018427387904) (fr hs x.1,())
def AB(x:(bA×ba×Int->A Int)×List bA×Unit):A (List bA×Unit):=A.dI (x.2.1.length<=12/\x.1=l2.sh) (fr h1 x.2.1,())
theorem alw(x):A.le (W7 Od.sh HT x) (AB x):=A.bw λh=>by
 obtain⟨f,l,u⟩:=x;obtain⟨h,aZ⟩:=h;change l.length<=12 at h;change f=l2.sh at aZ;subst aZ;unfold W7;have hw:=alv (n:=(l.length:Int)) (by omega) (by omega);show A.bind (A.dI (0<=IntKind.wrap .u64 (l.length:Int)/\IntKind.wrap .u64 (l.length:Int)<=12) _) _=_;rw[A.dJ,A.bz (by omega)];unfold HT;simp_all
def AD(x:(z1'->Prop)×Unit):A (z1'×Unit):=⟨(∃ L,x.1 L)/\∀ L,x.1 L->L.length<60000,λy=>x.1 y.1⟩
theorem Xi:∀ (L acc:z1'),L.length+acc.length<60000->jM (λ(D:z1'×Unit) (y:Int)=>A.bind (A.ae (b6 (Add.add (List.length D.1) (Add.add 0 1))) (A.pure (dj.normal,D.1++[y],()))) λp=>A.pure (p.1,p.2.1,())) L (acc,())=A.pure (.normal,acc++L,())
 | [],acc,_=>by simp[jM]
 | x::L,acc,h=>by
  simp only[List.length_cons]at h;unfold jM;rw[A.bz (gv (by grind))];simp only[A.aH];rw[Xi L (acc++[x]) (by grind)];simp
theorem alx(x):A.le (WW x) (AD x):=λh=>by
 obtain⟨S,u⟩:=x;obtain⟨E,U⟩:=h;show A.cw _ _;unfold WW;rw[A.fX];refine⟨E,λL hK=>?_⟩;have hK:S L:=hK;show A.cw (A.bind (jM _ L ([],())) _) _;rw[Xi L [] (by grind)];simp only[A.aH,so,List.nil_append];exact A.d'.2 hK
theorem aly(x):A.le (WX AD x) (AD x):=λh=>by
 obtain⟨S,u⟩:=x;show A.cw _ _;unfold WX;rw[A.fX];exact⟨h,λy aS=>A.d'.2 aS⟩
open Classical in
def AE(S:z1'->Prop):z1':=if h:∃ L,S L then fr hs h.choose else []
abbrev sN:aP:=⟨.cu bx,fP,λS=>(∃ L,S L)/\(∀ L e7,S L->S e7->L.Perm e7)/\∀ L,S L->L.length<60000,λS=>AE S⟩
theorem alz(x):A.le (Wo x8 AD x) (sN.sh x):=A.sF λh=>by
 obtain⟨E,U,ah⟩:=h;unfold Wo;rw[A.fX];refine⟨⟨E,λL hK=>by grind⟩,λy aS=>?_⟩;have aS:x y.1:=aS;unfold x8;show A.cw (A.bind (A.dI _ _) _) _;rw[A.dJ,A.kI];refine⟨Nat.lt_trans (ah _ aS) (by decide),A.d'.2 ?_⟩;show fr hs y.1=AE x;unfold AE;rw[dif_pos E];exact Xf (U _ _ aS E.choose_spec)
theorem alA{S:z1'->Prop}{L:z1'}(h:S L)(U:∀ L e7,S L->S e7->L.Perm e7):AE S=fr hs L:=by
 have E:∃ L,S L:=⟨L,h⟩
 unfold AE;rw[dif_pos E];exact Xf (U _ _ E.choose_spec h)
def jS{al:Type}(x:Option (List (Int×al)))(L:z1'):Prop:=∃ m,x=some m/\(m.map (·.1)).Perm L
abbrev HU:aP:=⟨.map bx bx,.cu bx,λ_=>True,λx=>jS (some x)⟩
theorem alB(x):A.le (akw jS x) (HU.sh x):=A.bw λ_=>rfl
abbrev x9:aP:=⟨.map bx hq,.cu bx,λ_=>True,λx=>jS (some x)⟩
theorem alC(x):A.le (akN jS x) (x9.sh x):=A.bw λ_=>rfl
theorem uv{al:Type}{m:List (Int×al)}{L:z1'}:jS (some m) L<->(m.map (·.1)).Perm L:=⟨λ⟨dx,h,k⟩=>by grind,λh=>⟨m,rfl,h⟩⟩
theorem Xj{al:Type}{m:List (Int×al)}(h:m.length<60000):sN.pre (jS (some m)):=
 ⟨⟨_,uv.2 (.refl _)⟩,λL e7 E U=>(uv.1 E).symm.trans (uv.1 U),λL hK=>by rw[<-(uv.1 hK).length_eq];grind⟩
theorem Xk{al:Type}{m:List (Int×al)}:AE (jS (some m))=fr hs (m.map (·.1)):=
 alA (uv.2 (.refl _)) λL e7 E U=>(uv.1 E).symm.trans (uv.1 U)
end Go.Fer.H
namespace Go.Fer.H
open A (W)
def sO(s:Int×Int):Bool:=b4 s.1 (-30) s.2&&!decide (s.2 > 30)
def iL(l:z4')(i:Nat):Bool:=b4 (l.getD i (0,0)).1 0 (l.getD i (0,0)).2&&!decide ((l.getD i (0,0)).2 > 9999)&&!(decide (0<i)&&decide ((l.getD i (0,0)).1<=(l.getD (i - 1) (0,0)).2))
def AF(l:z4'):Bool:=(List.range l.length).all (iL l)
def sP(c:a6):Bool:=!(decide ((c.1.length:Int) > 3)||decide ((c.2.1.length:Int) > 12)||decide ((c.2.2.1.length:Int) > 12)||decide ((c.2.2.2.1.length:Int) > 4))&&pC c.2.2.2.2
def jT(c:a6):Bool:=sP c&&c.1.all sO&&c.2.1.all (lr c.1.length)&&c.2.2.1.all (λn=>b4 n 0 99)&&AF c.2.2.2.1
abbrev vM:aP:=⟨jv,dk,iR,λc=>jT c⟩
theorem HV{D aI β:Type}{mk:β->D}{b:β}{q:Bool}{r:aI}{m:A (W D aI)}(E:q=true->m=A.pure (.next (mk b)))(U:q=false->m=A.pure (.done r)):m=A.pure (W.ho mk (if (!q)=true then .done r else .next b)):=by
 cases q
 ·exact U rfl
 ·exact E rfl
theorem Xl{al:Type}{a t:Bool}{m n:al}:(if (a||!(if (!a)=true then t else false))=true then m else n)=if (!a&&t)=true then n else m:=by grind
theorem alD(x):A.le (Wz ct.sh vJ.sh vK.sh x) (vM.sh x):=A.bw λh=>by
 obtain⟨aW,aY,bO,gC⟩:=h;unfold Wz;show _=A.pure (jT x);simp only[aP.sh,vJ,A.nE,A.kA,A.aH,bW,Xl];unfold jT;rw[show (!(decide ((x.1.length:Int) > 3)||decide ((x.2.1.length:Int) > 12)||decide ((x.2.2.1.length:Int) > 12)||decide ((x.2.2.2.1.length:Int) > 4))&&pC x.2.2.2.2)=sP x from rfl];cases aa:sP x with
 | false=>rfl
 | true=>
  rw[if_pos rfl];rw[A.dL x.1 (λi (_:Unit)=>((i:Int),x,())) (λy b=>if (!sO y)=true then .done (.done false) else .next b) (λ_=>.next (x,())) () ?_ ?_ ?_]
  ·rw[kR (q:=sO) _ _ (λ_=>rfl)];cases hc:x.1.all sO with
   | false=>simp
   | true=>
    simp only[if_true,A.aH,A.b2];rw[A.dL x.2.1 (λi (_:Unit)=>((i:Int),x,())) (λy b=>if (!lr x.1.length y)=true then .done (.done false) else .next b) (λ_=>.next (x,())) () ?_ ?_ ?_]
    ·rw[kR (q:=lr x.1.length) _ _ (λ_=>rfl)];cases aw:x.2.1.all (lr x.1.length) with
     | false=>simp
     | true=>
      simp only[if_true,A.aH,A.b2];rw[A.dL x.2.2.1 (λi (_:Unit)=>((i:Int),x,())) (λy b=>if (!b4 y 0 99)=true then .done (.done false) else .next b) (λ_=>.next (x,())) () ?_ ?_ ?_]
      ·rw[kR (q:=λn=>b4 n 0 99) _ _ (λ_=>rfl)];cases he:x.2.2.1.all (λn=>b4 n 0 99) with
       | false=>simp
       | true=>
        simp only[if_true,A.aH,A.b2];rw[A.dL (List.range x.2.2.2.1.length) (λi (_:Unit)=>((i:Int),x,())) (λy b=>if (!iL x.2.2.2.1 y)=true then .done (.done false) else .next b) (λ_=>.next ()) () ?_ ?_ ?_]
        ·rw[kR (q:=iL x.2.2.2.1) _ _ (λ_=>rfl)];unfold AF;cases (List.range x.2.2.2.1.length).all (iL x.2.2.2.1)<;>simp
        ·rfl
        ·intro i G b;have G:i<x.2.2.2.1.length:=by grind
         have hw:=bC (n:=(i:Int)+1) (by omega) (by omega);have gE:=bC (n:=(i:Int) - 1) (by omega) (by omega);have iM:x.2.2.2.1.getD i (0,0)=x.2.2.2.1[i]:=by grind
         have sQ:(decide ((i:Int) > 0))=decide (0<i):=by simp
         have M:decide (0<i)=true->((0:Int)<=(i:Int) - 1/\(i:Int) - 1<(x.2.2.2.1.length:Int)):=λh=>by grind
         refine HV (mk:=λ(_:Unit)=>(((i+1:Nat):Int),x,())) (b:=b) ?_ ?_<;>intro bq<;>
         ·simp only[List.getElem_range,iL,iM]at bq;simp only[bW,cZ G,if_true,dm G,cL G,A.br,aP.sh,ct,A.nE,A.iS,A.fD,cm,hw,gE,sQ,Oh,List.getElem_range];revert bq;generalize b4 x.2.2.2.1[i].1 0 x.2.2.2.1[i].2=dP;generalize decide (x.2.2.2.1[i].2 > 9999)=e2;generalize decide (x.2.2.2.1[i].1<=(x.2.2.2.1.getD (i - 1) (0,0)).2)=mH;revert M;generalize decide (0<i)=rW;intro M;cases rW
          ·cases dP<;>cases e2<;>cases mH<;>simp
          ·have M:=M rfl;cases dP<;>cases e2<;>cases mH<;>simp[M,(by omega:(1:Int)<=(i:Int))]
        simp
      ·rfl
      ·intro i G b;have hw:=bC (n:=(i:Int)+1) (by omega) (by omega);simp only[bW,cZ G,if_true,dm G,cL G,A.br,aP.sh,ct,A.nE,A.aH,cm,hw];exact na (mk:=λ(_:Unit)=>(((i+1:Nat):Int),x,()))
      simp
    ·rfl
    ·intro i G b;have hw:=bC (n:=(i:Int)+1) (by omega) (by omega);simp only[bW,cZ G,if_true,dm G,cL G,A.br,aP.sh,vK,A.n3,A.gN,A.aH,cm,hw];rw[A.bz aW];exact na (mk:=λ(_:Unit)=>(((i+1:Nat):Int),x,()))
    simp
  ·rfl
  ·intro i G b;have hw:=bC (n:=(i:Int)+1) (by omega) (by omega);refine HV (mk:=λ(_:Unit)=>(((i+1:Nat):Int),x,())) (b:=b) ?_ ?_<;>intro bq<;>
   ·simp only[sO]at bq;simp only[bW,cZ G,if_true,dm G,cL G,A.br,aP.sh,ct,A.nE,A.iS,A.fD,cm,hw];revert bq;generalize b4 x.1[i].1 (-30) x.1[i].2=dP;generalize decide (x.1[i].2 > 30)=e2;simp_all
  simp
theorem Xm{al:Type}{p:al->Bool}(l:List al):(l.any λy=>!p y)=!l.all p:=by grind
theorem alE(x):A.le (Wy ct.sh (jc hq).sh vJ.sh (jc bx).sh D2.sh Az.sh x) (vM.sh x):=A.bw λh=>by
 obtain⟨aW,aY,bO,gC⟩:=h;unfold Wy;show _=A.pure (jT x);simp only[show vJ.sh x.2.2.2.2=A.pure (pC x.2.2.2.2) from rfl,A.kA,A.aH,bW,Xl];unfold jT;rw[show (!(decide ((x.1.length:Int) > 3)||decide ((x.2.1.length:Int) > 12)||decide ((x.2.2.1.length:Int) > 12)||decide ((x.2.2.2.1.length:Int) > 4))&&pC x.2.2.2.2)=sP x from rfl];cases aa:sP x with
 | false=>rfl
 | true=>
  rw[if_pos rfl];rw[A.dL x.1 (λi (_:Unit)=>(x.1,(x.1.length:Int),(i:Int),x,())) (λy b=>if (!sO y)=true then .done (.done false) else .next b) (λ_=>.next (x,())) () ?_ ?_ ?_]
  ·rw[kR (q:=sO) _ _ (λ_=>rfl)];cases hc:x.1.all sO with
   | false=>simp
   | true=>
    simp only[if_true,A.aH,A.b2];rw[A.dL (List.range x.2.2.2.1.length) (λi (_:Unit)=>(x.2.2.2.1,(x.2.2.2.1.length:Int),(i:Int),x,())) (λy b=>if (!iL x.2.2.2.1 y)=true then .done (.done false) else .next b) (λ_=>.next (x,())) () ?_ ?_ ?_]
    ·rw[kR (q:=iL x.2.2.2.1) _ _ (λ_=>rfl)];unfold AF;cases aw:(List.range x.2.2.2.1.length).all (iL x.2.2.2.1) with
     | false=>simp
     | true=>
      simp only[if_true,A.aH,A.b2];have ay:(jc hq).sh (x.2.1,λy=>D2.sh (y,some x))=A.pure (!x.2.1.all (lr x.1.length)):=by
       have ar:∀ y,D2.sh (y,some x)=A.pure (!lr x.1.length y):=λy=>A.bR ⟨x,rfl,aW⟩ _;refine (A.bR ⟨aY,λy _=>⟨_,ar y⟩⟩ _).trans ?_;refine congrArg A.pure ?_;rw[<-Xm];simp_all
      have aN:(jc bx).sh (x.2.2.1,Az.sh)=A.pure (!x.2.2.1.all (λn=>b4 n 0 99)):=by
       refine (A.bR ⟨bO,λy _=>⟨_,rfl⟩⟩ _).trans ?_;refine congrArg A.pure ?_;rw[<-Xm];show (x.2.2.1.any λy=>(Az.sh y).val false)=_;simp only[show ∀ y,Az.sh y=A.pure (!b4 y 0 99) from λ_=>rfl,A.fD]
      rw[ay,aN];simp only[A.aH,A.kA];grind
    ·rfl
    ·intro i G b;have G:i<x.2.2.2.1.length:=by grind
     have hw:=bC (n:=(i:Int)+1) (by omega) (by omega);have gE:=bC (n:=(i:Int) - 1) (by omega) (by omega);have iM:x.2.2.2.1.getD i (0,0)=x.2.2.2.1[i]:=by grind
     have sQ:(decide ((i:Int) > 0))=decide (0<i):=by simp
     have M:decide (0<i)=true->((0:Int)<=(i:Int) - 1/\(i:Int) - 1<(x.2.2.2.1.length:Int)):=λh=>by grind
     refine HV (mk:=λ(_:Unit)=>(x.2.2.2.1,(x.2.2.2.1.length:Int),((i+1:Nat):Int),x,())) (b:=b) ?_ ?_<;>intro bq<;>
     ·simp only[List.getElem_range,iL,iM]at bq;simp only[bW,cZ G,if_true,dm G,cL G,A.br,aP.sh,ct,A.nE,A.iS,A.fD,cm,hw,gE,sQ,Oh,List.getElem_range];revert bq;generalize b4 x.2.2.2.1[i].1 0 x.2.2.2.1[i].2=dP;generalize decide (x.2.2.2.1[i].2 > 9999)=e2;generalize decide (x.2.2.2.1[i].1<=(x.2.2.2.1.getD (i - 1) (0,0)).2)=mH;revert M;generalize decide (0<i)=rW;intro M;cases rW
      ·cases dP<;>cases e2<;>cases mH<;>simp
      ·have M:=M rfl;cases dP<;>cases e2<;>cases mH<;>simp[M,(by omega:(1:Int)<=(i:Int))]
    simp
  ·rfl
  ·intro i G b;have hw:=bC (n:=(i:Int)+1) (by omega) (by omega);refine HV (mk:=λ(_:Unit)=>(x.1,(x.1.length:Int),((i+1:Nat):Int),x,())) (b:=b) ?_ ?_<;>intro bq<;>
   ·simp only[sO]at bq;simp only[bW,cZ G,if_true,dm G,cL G,A.br,aP.sh,ct,A.nE,A.aH,cm,hw];grind
  simp
abbrev jw:ba:=(0,0,0,0,0,0)
def kX(l:List ba):Bool:=(List.range l.length).any λi=>(List.range i).any λk=>ur (l.getD k jw) (l.getD i jw)
def cP(c:a6):Int:=if jT c=true then (if kX c.2.1=true then 91 else 0) else 90
abbrev h2:aP:=⟨jv,bx,iR,λc=>cP c⟩
theorem sR{al:Type}{l:List al}{i:Nat}{d:al}(h:i<l.length):l.getD i d=l[i]:=by grind
theorem alF(x):A.le (Wh vM.sh HN.sh x) (h2.sh x):=A.bw λh=>by
 obtain⟨aW,aY,bO,gC⟩:=id h;unfold Wh;show _=A.pure (cP x);rw[show vM.sh x=A.pure (jT x) from A.bR h _];unfold cP;cases jT x with
 | false=>simp
 | true=>
  simp only[A.aH,Bool.not_true,Bool.false_eq_true,if_false,if_true];rw[A.dL (List.range x.2.1.length) (λi (_:Unit)=>((i:Int),x,())) (λi b=>if ((List.range i).any λk=>ur (x.2.1.getD k jw) (x.2.1.getD i jw))=true then .done (.done 91) else .next b) (λ_=>.next ()) () ?_ ?_ ?_]
  ·rw[rv];unfold kX;cases (List.range x.2.1.length).any λi=>(List.range i).any λk=>ur (x.2.1.getD k jw) (x.2.1.getD i jw)<;>simp
  ·rfl
  ·intro i G b;have G:i<x.2.1.length:=by grind
   have hw:=bC (n:=(i:Int)+1) (by omega) (by omega);have aw:decide ((i:Int)<Int.ofNat x.2.1.length)=true:=cZ G;simp only[aw,if_true,List.getElem_range];rw[A.dL (List.range i) (λk (_:Unit)=>((i:Int),(k:Int),x,())) (λk b=>if ur (x.2.1.getD k jw) (x.2.1.getD i jw)=true then .done (.done (.done (.done 91))) else .next b) (λ_=>(.next ((i:Int),x,()):W (Int×a6×Unit) (W (Int×a6×Unit) (W Unit Int)))) () ?_ ?_ ?_]
   ·rw[rv];cases (List.range i).any λk=>ur (x.2.1.getD k jw) (x.2.1.getD i jw)<;>simp[hw]
   ·rfl
   ·intro k an b;have an:k<i:=by grind
    have vN:k<x.2.1.length:=by omega
    have hw:=bC (n:=(k:Int)+1) (by omega) (by omega);have aw:decide ((k:Int)<(i:Int))=true:=by grind
    simp only[aw,if_true,bW,cL vN,cL G,A.br,aP.sh,HN,A.nE,A.iS,A.fD,A.aH,cm,hw,List.getElem_range,Xg];exact na (mk:=λ(_:Unit)=>((i:Int),((k+1:Nat):Int),x,()))
   simp
  simp
def gW(l:List ba):List ba:=(ev 0 99).filterMap λid=>l.find? λs=>s.1 == id
def fs(c:a6):List ba:=(gW c.2.1).filter λs=>!c.2.2.1.contains s.1
theorem alG(l:List ba):(gW l).length<=100:=by
 refine Nat.le_trans (List.length_filterMap_le _ _) ?_;rw[show (ev 0 99).length=100 from by decide];omega
def jx(m:List (Int×ba))(k:Int):Option ba:=(m.find? λp=>decide (k=p.1)).map (·.2)
def jd(m:List (Int×ba)):z1':=m.map (·.1)
theorem Oi(p:Int×ba)(m:List (Int×ba))(k:Int)(v:ba):kT (p::m) k v=if decide (k=p.1)=true then (p.1,v)::m else p::kT m k v:=rfl
theorem Oj(k:Int)(v:ba):kT [] k v=[(k,v)]:=rfl
theorem Xn(k:Int)(v:ba):∀ m:List (Int×ba),(kT m k v).length<=m.length+1
 | []=>by rw[Oj];simp
 | p::m=>by
  rw[Oi];split
  ·simp
  ·simp;exact Xn k v m
theorem Ol(k:Int)(v:ba)(x:Int):∀ m:List (Int×ba),jx (kT m k v) x=if x=k then some v else jx m x
 | []=>by
  rw[Oj];by_cases h:x=k<;>simp[jx,h]
 | p::m=>by
  rw[Oi];have aJ:=Ol k v x m;unfold jx at aJ ⊢;grind
theorem D4(k:Int)(v:ba):∀ m:List (Int×ba),((jd m).Nodup->(jd (kT m k v)).Nodup)/\∀ x,x∈jd (kT m k v)<->x∈jd m\/x=k
 | []=>by rw[Oj];simp[jd]
 | p::m=>by
  obtain⟨E,U⟩:=D4 k v m;rw[Oi];by_cases h:k=p.1
  ·subst h;simp only[decide_true,if_true];refine⟨λh=>h,λx=>?_⟩;show x∈p.1::jd m<->x∈p.1::jd m\/x=p.1;grind
  ·simp only[h,decide_false,Bool.false_eq_true,if_false];refine⟨λaA=>?_,λx=>?_⟩
   ·show (p.1::jd (kT m k v)).Nodup;have Cx:(p.1::jd m).Nodup:=aA;grind
   ·show x∈p.1::jd (kT m k v)<->x∈p.1::jd m\/x=k;grind
theorem Xo{m:List (Int×ba)}{k:Int}:k∈jd m<->(jx m k).isSome=true:=by
 unfold jx jd;simp
def AG(l:List ba):Prop:=∀ a∈l,∀ b∈l,a.1=b.1->a=b
def qx(l:List ba)(k:Int):Option ba:=l.find? λs=>s.1 == k
def rA:List ba->List (Int×ba)->Option (List (Int×ba))
 | [],m=>some m
 | s::l,m=>if ((jx m s.1).isSome&&!decide ((jx m s.1).getD jw=s))=true then none else rA l (kT m s.1 s)
structure uw(P:List ba)(m:List (Int×ba)):Prop where
 oL:∀ k,jx m k=qx P k
 mu:(jd m).Nodup
 AH:AG P
 D5:m.length<=P.length
theorem Xp{l:List ba}{k:Int}{s:ba}(h:qx l k=some s):s∈l/\s.1=k:=by
 unfold qx at h;grind
theorem alH{l:List ba}{k:Int}(h:qx l k=none):∀ s∈l,s.1≠k:=by
 unfold qx at h;grind
theorem uw.nil:uw [] []:=⟨λ_=>rfl,.nil,λa h=>by simp,Nat.le_refl _⟩
theorem AI:∀ (l P:List ba) (m:List (Int×ba)),uw P m->(AG (P++l)->∃ dx,rA l m=some dx/\uw (P++l) dx)/\(¬AG (P++l)->rA l m=none)
 | [],P,m,h=>by simp only[List.append_nil];exact⟨λ_=>⟨m,rfl,h⟩,λaA=>absurd h.AH aA⟩
 | s::l,P,m,h=>by
  unfold rA;rw[h.oL];cases ar:qx P s.1 with
  | some o=>
   obtain⟨ag,G⟩:=Xp ar;by_cases he:o=s
   ·subst he;simp only[Option.isSome_some,Option.getD_some,decide_true,Bool.not_true,Bool.and_false,Bool.false_eq_true,if_false];have:=AI l (P++[o]) (kT m o.1 o) ⟨λk=>?_,(D4 _ _ _).1 h.mu,?_,?_⟩
    ·grind
    ·rw[Ol,h.oL];unfold qx at ar ⊢;grind
    ·intro a bb b aa vO;simp only[List.mem_append,List.mem_singleton]at bb aa;exact h.AH a (bb.elim id λe=>e ▸ ag) b (aa.elim id λe=>e ▸ ag) vO
    ·have hm:o.1∈jd m:=Xo.2 (by rw[h.oL,ar];rfl);have ak:(jd (kT m o.1 o)).length<=(jd m).length:=by
      have E:=(D4 o.1 o m).1 h.mu;have U:jd (kT m o.1 o) ⊆ jd m:=λx ai=>by
       rcases ((D4 o.1 o m).2 x).1 ai with ai | ai
       ·exact ai
       ·exact ai ▸ hm
      exact E.length_le_of_subset U
     have:=h.D5;simp only[jd,List.length_map]at ak;grind
   ·simp only[Option.isSome_some,Option.getD_some,he,decide_false,Bool.not_false,Bool.and_self,if_true];refine⟨λaA=>absurd (aA o (by grind) s (by simp) G) he,λ_=>trivial⟩
  | none=>
   simp only[Option.isSome_none,Bool.false_and,Bool.false_eq_true,if_false];have:=AI l (P++[s]) (kT m s.1 s) ⟨λk=>?_,(D4 _ _ _).1 h.mu,?_,?_⟩
   ·grind
   ·rw[Ol,h.oL];have rk:=ar;unfold qx at ar ⊢;grind
   ·have ar:=alH ar;intro a bb b aa vO;simp only[List.mem_append,List.mem_singleton]at bb aa;rcases bb with bb | rfl<;>rcases aa with aa | rfl
    ·exact h.AH a bb b aa vO
    ·exact absurd vO (ar a bb)
    ·exact absurd vO.symm (ar b aa)
    ·rfl
   ·have:=Xn s.1 s m;have:=h.D5;grind
theorem AJ(l:List ba):kX l=false<->AG l:=by
 unfold kX ur;rw[<-Bool.not_eq_true,List.any_eq_true];constructor
 ·intro h a bb b aa vO;obtain⟨i,G,rfl⟩:=List.mem_iff_getElem.1 bb;obtain⟨k,an,rfl⟩:=List.mem_iff_getElem.1 aa;by_cases he:l[i]=l[k]
  ·exact he
  ·exfalso;have eD:i≠k:=λe=>he (by grind);rcases Nat.lt_or_gt_of_ne eD with cc | cc
   ·refine h ⟨k,by grind,List.any_eq_true.2 ⟨i,by grind,?_⟩⟩;grind
   ·refine h ⟨i,by grind,List.any_eq_true.2 ⟨k,by grind,?_⟩⟩;grind
 ·rintro h ⟨i,G,an⟩;obtain⟨k,an,hc⟩:=List.any_eq_true.1 an;simp only[List.mem_range]at G an;rw[sR G,sR (by omega:k<l.length)]at hc;simp only[Bool.and_eq_true,decide_eq_true_eq,Bool.not_eq_true',decide_eq_false_iff_not]at hc;exact hc.2 (h _ (List.getElem_mem _) _ (List.getElem_mem _) hc.1)
theorem alI{l:List ba}:kX l=true<->¬AG l:=by rw[<-AJ];simp
theorem Xq{l:List ba}{m:List (Int×ba)}(h:uw l m)(hid:∀ s∈l,b4 s.1 0 99=true):(fr hs (jd m)).map (λk=>(jx m k).getD jw)=gW l:=by
 have ay:fr hs (jd m)=(ev 0 99).filter λk=>(qx l k).isSome:=by
  refine AA ?_ ?_
  ·refine List.Pairwise.filter _ ?_;unfold ev;rw[List.pairwise_map];exact (List.pairwise_lt_range).imp λh=>by omega
  ·refine (List.perm_ext_iff_of_nodup h.mu ?_).2 λk=>?_
   ·refine List.Pairwise.filter _ ?_;unfold ev;rw[List.pairwise_map];exact (List.pairwise_lt_range).imp λh=>by omega
   ·rw[Xo,h.oL,List.mem_filter,sG];refine⟨λaD=>⟨?_,aD⟩,λaD=>aD.2⟩;obtain⟨s,aD⟩:=Option.isSome_iff_exists.1 aD;obtain⟨E,U⟩:=Xp aD;exact U ▸ oP.1 (hid s E)
 rw[ay];unfold gW;have:∀ L:z1',(L.filter λk=>(qx l k).isSome).map (λk=>(jx m k).getD jw)=L.filterMap λid=>l.find? λs=>s.1 == id:=by
  intro L;induction L with
  | nil=>rfl
  | cons k L aJ=>
   rw[List.filter_cons,List.filterMap_cons];have e:(l.find? λs=>s.1 == k)=qx l k:=rfl;rw[e];cases ar:qx l k with
   | none=>grind
   | some s=>
    have ie:(jx m k).getD jw=s:=by rw[h.oL,ar];rfl
    grind
 grind
theorem alJ{l:List ba}{m:List (Int×ba)}(h:uw l m)(hid:∀ s∈l,b4 s.1 0 99=true):(gW l).length<=l.length:=by
 rw[<-Xq h hid,List.length_map,HQ,jd,List.length_map];exact h.D5
theorem Xr{aI:Type}{r:aI}{fin:List (Int×ba)->aI}:∀ (l:List ba) (m:List (Int×ba)),e0 (λs m=>if ((jx m s.1).isSome&&!decide ((jx m s.1).getD jw=s))=true then .done r else .next (kT m s.1 s)) fin l m=match rA l m with | none=>r | some dx=>fin dx
 | [],m=>rfl
 | s::l,m=>by
  simp only[e0,rA];by_cases h:((jx m s.1).isSome&&!decide ((jx m s.1).getD jw=s))=true
  ·grind
  ·simp only[h,Bool.false_eq_true,if_false];exact Xr l _
def vP(l:List ba):Prop:=l.length<=24/\∀ s∈l,b4 s.1 0 99=true
abbrev AK:aP:=⟨.slice hq,.az (.slice hq) .bool,vP,λl=>if kX l=true then ([],false) else (gW l,true)⟩
theorem alK{m:List (Int×ba)}{x_:z1'}{aI:Type}(h:x_.length<=24) :
 A.loop (λ(D:z1'×Int×Int×List ba×List (Int×ba)×Unit)=>if decide (D.2.2.1<D.2.1)=true then A.ae (0<=D.2.2.1/\D.2.2.1<Int.ofNat (List.length D.1)) (A.ae (b6
 (Add.add (List.length D.2.2.2.1) (Add.add 0 1))) (A.pure (W.next (D.1,D.2.1,IntKind.wrap .i64 (Add.add D.2.2.1 1),D.2.2.2.1++[Option.getD
 (Option.map (λx=>x.2) (List.find? (λp=>decide (List.getD D.1 (Int.toNat D.2.2.1) 0=p.1)) D.2.2.2.2.1)) (0,0,0,0,0,0)],D.2.2.2.2.1,())))) else A.bind (A.pure (W.next (D.2.2.2.1,()))) λr=>A.pure (W.done r)) (x_,Int.ofNat (List.length x_),0,[],m,())=A.pure (W.next (x_.map (λk=>(jx m k).getD jw),()):W (List ba×Unit) aI):=by
 rw[A.f_ x_ (λi (b:List ba)=>(x_,(x_.length:Int),(i:Int),b,m,())) (λk b=>.next (b++[(jx m k).getD jw])) (λb=>.next (b,())) (λi b=>b.length=i) [] ?_ ?_ ?_ ?_]
 ·rw[ej,xV];rfl
 ·rfl
 ·rfl
 ·intro i G b aa;have hw:=bC (n:=(i:Int)+1) (by omega) (by omega);refine⟨?_,λbe cW=>?_⟩
  ·simp only[bW,cZ G,if_true,dm G,cL G,A.br,cm,hw];rw[A.bz (gv (by grind))];rfl
  grind
 simp
def sS{gy:Type}(R:A gy):List ba×Int×Int×List (Int×ba)×Unit->A (W (List ba×Int×Int×List (Int×ba)×Unit) (W (List (Int×ba)×Unit) gy)):=λ(D:List ba×Int×Int×List (Int×ba)×Unit)=>if decide (D.2.2.1<D.2.1)=true then A.ae (0<=D.2.2.1/\D.2.2.1 <
 Int.ofNat (List.length D.1)) (if (Option.isSome (Option.map (λx=>x.2) (List.find? (λp=>decide ((List.getD D.1 (Int.toNat D.2.2.1) (0,0,0,0,0,0)).1=p.1)) D.2.2.2.1))&&!(decide ((Option.getD (Option.map (λx=>x.2) (List.find? (λp=>decide ((List.getD D.1 (Int.toNat D.2.2.1)
 (0,0,0,0,0,0)).1=p.1)) D.2.2.2.1)) (0,0,0,0,0,0)).1=(List.getD D.1 (Int.toNat D.2.2.1) (0,0,0,0,0,0)).1)&&(decide ((Option.getD
 (Option.map (λx=>x.2) (List.find? (λp=>decide ((List.getD D.1 (Int.toNat D.2.2.1) (0,0,0,0,0,0)).1=p.1)) D.2.2.2.1)) (0,0,0,0,0,0)).2.1=(List.getD D.1 (Int.toNat D.2.2.1) (0,0,0,0,0,0)).2.1)&&(decide ((Option.getD (Option.map (λx=>x.2) (List.find? (λp=>
 decide ((List.getD D.1 (Int.toNat D.2.2.1) (0,0,0,0,0,0)).1=p.1)) D.2.2.2.1)) (0,0,0,0,0,0)).2.2.1=(List.getD D.1 (Int.toNat D.2.2.1)
 (0,0,0,0,0,0)).2.2.1)&&(decide ((Option.getD (Option.map (λx=>x.2) (List.find? (λp=>decide ((List.getD D.1 (Int.toNat D.2.2.1) (0,0,0,0,0,0)).1=p.1)) D.2.2.2.1)) (0,0,0,0,0,0)).2.2.2.1=(List.getD D.1 (Int.toNat D.2.2.1) (0,0,0,0,0,0)).2.2.2.1)&&(decide
 ((Option.getD (Option.map (λx=>x.2) (List.find? (λp=>decide ((List.getD D.1 (Int.toNat D.2.2.1) (0,0,0,0,0,0)).1=p.1)) D.2.2.2.1))
 (0,0,0,0,0,0)).2.2.2.2.1=(List.getD D.1 (Int.toNat D.2.2.1) (0,0,0,0,0,0)).2.2.2.2.1)&&decide ((Option.getD (Option.map (λx=>x.2)
 (List.find? (λp=>decide ((List.getD D.1 (Int.toNat D.2.2.1) (0,0,0,0,0,0)).1=p.1)) D.2.2.2.1)) (0,0,0,0,0,0)).2.2.2.2.2=(List.getD
 D.1 (Int.toNat D.2.2.1) (0,0,0,0,0,0)).2.2.2.2.2)))))))=true then A.bind (A.bind R λr=>A.pure (W.done r)) λr=>
 A.pure (W.done r) else A.pure (W.next (D.1,D.2.1,IntKind.wrap .i64 (Add.add D.2.2.1 1),kT D.2.2.2.1 (List.getD D.1 (Int.toNat D.2.2.1)
 (0,0,0,0,0,0)).1 (List.getD D.1 (Int.toNat D.2.2.1) (0,0,0,0,0,0)),()))) else A.bind (A.pure (W.next (D.2.2.2.1,()))) λr=>A.pure
 (W.done r)
theorem Xs{gy:Type}{R:A gy}{l:List ba}(ak:l.length<=24){i:Nat}(G:i<l.length)(m:List (Int×ba)):sS R (l,(l.length:Int),(i:Int),m,())=if ((jx m l[i].1).isSome&&!decide ((jx m l[i].1).getD jw=l[i]))=true then A.bind (A.bind R λr=>A.pure (W.done r)) λr=>A.pure (W.done r) else A.pure (.next (l,(l.length:Int),((i+1:Nat):Int),kT m l[i].1 l[i],())):=by
 have hw:=bC (n:=(i:Int)+1) (by omega) (by omega);have es:=W8 ((jx m l[i].1).getD jw) l[i];unfold sS;simp only[bW,cZ G,if_true,dm G,cL G,A.br,cm,hw];rw[show (Option.map (λx=>x.2) (List.find? (λp=>decide (l[i].1=p.1)) m))=jx m l[i].1 from rfl];grind
theorem Xt{gy:Type}{R:A gy}{l:List ba}(m:List (Int×ba)):sS R (l,(l.length:Int),(l.length:Int),m,())=A.pure (.done (.next (m,()))):=by
 unfold sS;simp
def AL{gy:Type}(k:List ba->A gy):List (Int×ba)×Unit->A gy:=λ(D:List (Int×ba)×Unit)=>A.bind (A.bind
 (x9.sh D.1) λy=>A.bind (sN.sh y) λy=>A.loop (λ(D:z1'×Int×Int×List ba×
 List (Int×ba)×Unit)=>if decide (D.2.2.1<D.2.1)=true then A.ae (0<=D.2.2.1/\D.2.2.1<Int.ofNat (List.length D.1)) (A.ae (b6
 (Add.add (List.length D.2.2.2.1) (Add.add 0 1))) (A.pure (W.next (D.1,D.2.1,IntKind.wrap .i64 (Add.add D.2.2.1 1),D.2.2.2.1++[Option.getD
 (Option.map (λx=>x.2) (List.find? (λp=>decide (List.getD D.1 (Int.toNat D.2.2.1) 0=p.1)) D.2.2.2.2.1)) (0,0,0,0,0,0)],D.2.2.2.2.1,())))) else A.bind (A.pure (W.next (D.2.2.2.1,()))) λr=>A.pure (W.done r)) (y,Int.ofNat (List.length y),0,[],D.1,())) (W.bB λ(D
 : List ba×Unit)=>k D.1)
theorem alL{l:List ba}{m:List (Int×ba)}(eA:uw l m)(hid:vP l){gy:Type}(k:List ba->A gy):AL k (m,())=k (gW l):=by
 obtain⟨ak,hid⟩:=hid;have ao:sN.pre (jS (some m)):=Xj (by have:=eA.D5;omega);have e:sN.sh (jS (some m))=A.pure (fr hs (jd m)):=by
  refine (A.bR ao _).trans (congrArg A.pure ?_);exact Xk
 unfold AL;show A.bind (A.bind (x9.sh m) _) _=_;rw[show x9.sh m=A.pure (jS (some m)) from rfl,A.aH,e,A.aH,alK (by rw[HQ,jd,List.length_map];have:=eA.D5;omega),A.aH,A.b2,Xq eA hid]
theorem Xu(l:List ba)(h:vP l)(hc:kX l=false){gy:Type}(k:List ba->A gy)(R:A gy) :
  A.bind (A.loop (sS R) (l,Int.ofNat (List.length l),0,[],())) (W.bB (AL k))=k (gW l):=by
 have aA:=(AJ l).1 hc;obtain⟨E,_⟩:=AI l [] [] .nil;rw[List.nil_append]at E;obtain⟨m,hm,eA⟩:=E aA;have key:A.loop (sS R) (l,Int.ofNat (List.length l),0,[],())=A.pure (.next (m,())):=by
  have gen:∀ (k:Nat) (i:Nat) (dx:List (Int×ba)),l.length - i=k->i<=l.length->rA (l.drop i) dx=some m->uw (l.take i) dx->A.loop (sS R) (l,(l.length:Int),(i:Int),dx,())=A.pure (.next (m,())):=by
   intro k;induction k with
   | zero=>
    intro i dx an G ag _;have:i=l.length:=by omega
    subst this;rw[List.drop_length]at ag;simp only[rA,Option.some.injEq]at ag;subst ag;exact A.rX (Xt _)
   | succ k aJ=>
    intro i dx an G ag M4;have G:i<l.length:=by omega
    rw[List.drop_eq_getElem_cons G]at ag;unfold rA at ag;split at ag
    ·cases ag
    ·rename_i FT;refine (A.yW ((Xs h.1 G dx).trans (if_neg FT))).trans ?_;refine aJ (i+1) _ (by omega) G ag ?_;obtain⟨g1,_⟩:=AI [l[i]] (l.take i) dx M4;have pE:l.take i++[l[i]]=l.take (i+1):=by simp
     rw[pE]at g1;obtain⟨ax1,ay,aN⟩:=g1 λa bb b aa=>aA a (List.mem_of_mem_take bb) b (List.mem_of_mem_take aa);unfold rA at ay;rw[if_neg FT]at ay;simp only[rA,Option.some.injEq]at ay;grind
  exact gen l.length 0 [] rfl (Nat.zero_le _) hm .nil
 rw[key,A.aH,A.b2,alL eA h]
theorem alM(l:List ba)(h:vP l)(hc:kX l=true){gy:Type}(k:List ba->A gy)(r:gy) :
  A.bind (A.loop (sS (A.pure r)) (l,Int.ofNat (List.length l),0,[],())) (W.bB (AL k))=A.pure r:=by
 rw[A.dL l (λi (m:List (Int×ba))=>(l,(l.length:Int),(i:Int),m,())) (λs m=>if ((jx m s.1).isSome&&!decide ((jx m s.1).getD jw=s))=true then (.done (.done r):W (List (Int×ba)) (W (List (Int×ba)×Unit) _)) else .next (kT m s.1 s)) (λm=>.next (m,())) [] ?_ ?_ ?_]
 ·rw[Xr];obtain⟨_,U⟩:=AI l [] [] .nil;rw[U (alI.1 hc)];simp
 ·rfl
 ·intro i G m;rw[Xs h.1 G m,A.aH,A.aH];exact Vr (mk:=λ(m:List (Int×ba))=>(l,(l.length:Int),((i+1:Nat):Int),m,()))
 ·intro m;exact Xt m
theorem alN(x):A.le (akG sN.sh x9.sh x) (AK.sh x):=A.bw λh=>by
 show A.bind (A.loop (sS (A.pure ([],false))) (x,Int.ofNat (List.length x),0,[],())) (W.bB (AL λa=>A.pure (a,true)))=A.pure (if kX x=true then ([],false) else (gW x,true));cases hc:kX x with
 | true=>exact alM x h hc _ _
 | false=>exact Xu x h hc _ _
def HW(x:List ba×Unit):A (Bool×List ba×Unit):=A.dI (vP x.1/\kX x.1=false) (true,gW x.1,())
theorem alO(x):A.le (akT sN.sh x9.sh x) (HW x):=A.bw λh=>by
 show A.bind (A.loop (sS (A.pure (false,[],()))) (x.1,Int.ofNat (List.length x.1),0,[],())) (W.bB (AL λa=>A.pure (true,a,())))=_;exact Xu x.1 h.1 h.2 _ _
theorem HX{c:a6}(h:jT c=true):vP c.2.1:=by
 unfold jT sP at h;simp only[Bool.and_eq_true,List.all_eq_true,Bool.not_eq_true',Bool.or_eq_false_iff,decide_eq_false_iff_not]at h;obtain⟨⟨⟨⟨⟨bk,_⟩,_⟩,U⟩,_⟩,_⟩:=h;refine⟨by omega,λs aD=>?_⟩;have:=U s aD;unfold lr at this;grind
theorem alP(x):A.le (Wg vM.sh AK.sh x) (h2.sh x):=A.bw λh=>by
 unfold Wg;show _=A.pure (cP x);rw[show vM.sh x=A.pure (jT x) from A.bR h _];unfold cP;cases hc:jT x with
 | false=>simp
 | true=>
  simp only[A.aH,Bool.not_true,Bool.false_eq_true,if_false,if_true];rw[show AK.sh x.2.1=A.pure (if kX x.2.1=true then ([],false) else (gW x.2.1,true)) from A.bR (HX hc) _];cases kX x.2.1<;>simp
def HY(x:(ba->A Bool)×List ba×Unit):A ((Nat×Nat)×List ba×Unit):=A.dI (x.2.1.length<2 ^ 63/\∀ y∈x.2.1,∃ b,x.1 y=A.pure b)
 ((0,(x.2.1.filter λs=>!(x.1 s).val false).length),(x.2.1.filter λs=>!(x.1 s).val false)++List.replicate (x.2.1.length - (x.2.1.filter λs=>!(x.1 s).val false).length) jw,())
theorem Xv{al:Type}(p:al->Bool):∀ (l:List al) (i:Int),(l.any p=true->∃ k:Nat,∃ h:k<l.length,hQ p l i=i+k/\p l[k]=true/\(∀ y∈l.take k,p y=false))
 | [],i,h=>by grind
 | x::l,i,h=>by
  unfold hQ;by_cases ai:p x=true
  ·grind
  ·have nK:p x=false:=by grind
   simp only[List.any_cons,nK,Bool.false_or]at h;obtain⟨k,an,E,U,ah⟩:=Xv p l (i+1) h;refine⟨k+1,by grind,by grind,by grind,?_⟩;grind
theorem alQ(x):A.le (WY (kW hq).sh x) (HY x):=A.bw λh=>by
 obtain⟨f,l,u⟩:=x;obtain⟨E,U⟩:=h;change l.length<2 ^ 63 at E;change ∀ y∈l,∃ b,f y=A.pure b at U;unfold WY;rw[show (kW hq).sh (l,f)=A.pure (hQ (λy=>(f y).val false) l 0) from A.bR ⟨E,U⟩ _];rw[A.aH];by_cases bb:(l.any λy=>(f y).val false)=true
 ·obtain⟨k,an,ay,aN,cA⟩:=Xv (λy=>(f y).val false) l 0 bb;have hw:=bC (n:=(k:Int)+1) (by omega) (by omega);have eD:¬(decide ((0:Int)+k=-1)=true):=by simp
  rw[ay,if_neg eD];generalize bq:(λs=>!(f s).val false)=q at *
  have alR:∀ s,(!(f s).val false)=q s:=λs=>by grind
  have pE:l.take k=(l.take k).filter q:=by
   rw[List.filter_eq_self.2];grind
  have HS:(l.take (k+1)).filter q=l.take k:=by
   rw[List.take_add_one,List.getElem?_eq_getElem an,Option.toList_some,List.filter_append,<-pE];grind
  rw[A.dL (l.drop (k+1)) (λi (_:Unit)=>(f,(((l.take (k+1+i)).filter q).length:Int),((k+1+i:Nat):Int),(l.take (k+1+i)).filter q++l.drop ((l.take (k+1+i)).filter q).length,())) (λ_ u=>.next u) (λ_=>.next (((l.filter q).length:Int),l.filter q++l.drop (l.filter q).length,())) () ?_ ?_ ?_]
  ·rw[ej];have hlen:(l.filter q).length<=l.length:=List.length_filter_le _ _;have gn:(l.filter q++l.drop (l.filter q).length).length=l.length:=by grind
   simp only[A.aH,A.b2,bW,gn];rw[A.bz (by omega)];simp only[A.br,Int.toNat_natCast];have D6:List.take (l.filter q).length (l.filter q++l.drop (l.filter q).length)=l.filter q:=List.take_left;rw[D6];refine (A.bz ⟨by omega,by omega,by grind⟩ _).trans ?_;refine congrArg A.pure (Prod.ext rfl (Prod.ext ?_ rfl));show (_++_++_:List ba)=_;exact (congrArg (λz=>_++z) (List.drop_eq_nil_iff.2 (by simp))).trans (List.append_nil _)
  ·show (f,(0:Int)+k,IntKind.wrap .i64 (Add.add ((0:Int)+k) 1),l,())=_;rw[Int.zero_add,cm,hw];refine Prod.ext rfl (Prod.ext ?_ (Prod.ext ?_ (Prod.ext ?_ rfl)))
   ·grind
   ·rfl
   ·show l=(l.take (k+1+0)).filter q++l.drop ((l.take (k+1+0)).filter q).length;rw[Nat.add_zero,HS,List.length_take,Nat.min_eq_left (by omega),List.take_append_drop]
  ·intro i G _;have G:k+1+i<l.length:=by grind
   have hle:((l.take (k+1+i)).filter q).length<=k+i:=by
    have E:=List.length_filter_le q (l.drop (k+1) |>.take i);rw[List.take_add,List.filter_append,List.length_append,HS];grind
   have cc:((l.take (k+1+i)).filter q).length<l.length:=by omega
   have lP:((l.take (k+1+i)).filter q++l.drop ((l.take (k+1+i)).filter q).length).length=l.length:=by grind
   have hw:=bC (n:=((k+1+i:Nat):Int)+1) (by omega) (by omega);have gE:=bC (n:=(((l.take (k+1+i)).filter q).length:Int)+1) (by omega) (by omega);have dA:k+1+i<((l.take (k+1+i)).filter q++l.drop ((l.take (k+1+i)).filter q).length).length:=by omega
   have Ch:((l.take (k+1+i)).filter q).length<((l.take (k+1+i)).filter q++l.drop ((l.take (k+1+i)).filter q).length).length:=by omega
   have iM:((l.take (k+1+i)).filter q++l.drop ((l.take (k+1+i)).filter q).length)[k+1+i]=l[k+1+i]:=by
    rw[List.getElem_append_right (by omega),List.getElem_drop];congr 1;omega
   obtain⟨b,aa⟩:=U _ (List.getElem_mem G);have af:q l[k+1+i]=!b:=by rw[<-alR,aa,A.fD]
   have pE:(l.take (k+1+(i+1))).filter q=(l.take (k+1+i)).filter q++(if (!b)=true then [l[k+1+i]] else []):=by
    rw[show k+1+(i+1)=k+1+i+1 from rfl,List.take_add_one,List.getElem?_eq_getElem G,Option.toList_some,List.filter_append,List.filter_cons,af,List.filter_nil]
   simp only[bW,cZ dA,if_true,dm dA,cL dA,cL Ch,A.br,iM,aa,A.aH,cm,gE];simp only[Int.toNat_natCast];cases b with
   | true=>
    simp only[Bool.not_true,Bool.false_eq_true,if_false,A.aH,A.b2,hw,W.ho,List.append_nil]at pE ⊢;grind
   | false=>
    simp only[Bool.not_false,if_true,A.aH,A.b2,hw,W.ho]at pE ⊢;have es:(List.filter q (List.take (k+1+i) l)++List.drop (List.filter q (List.take (k+1+i) l)).length l).set (List.filter q (List.take (k+1+i) l)).length l[k+1+i]=(l.take (k+1+(i+1))).filter q++l.drop ((l.take (k+1+(i+1))).filter q).length:=by
     rw[pE,List.set_append_right _ _ (Nat.le_refl _),Nat.sub_self,List.drop_eq_getElem_cons cc,List.set_cons_zero];simp
    rw[es];have Mx:(((l.take (k+1+i)).filter q).length:Int)+1=(((l.take (k+1+(i+1))).filter q).length:Int):=by grind
    grind
  ·intro _;have ak:(l.drop (k+1)).length=l.length - (k+1):=by simp
   have bG:k+1+(l.drop (k+1)).length=l.length:=by omega
   have hle:(l.filter q).length<=l.length:=List.length_filter_le _ _;simp only[bG,List.take_length];rw[if_neg (by grind),A.aH]
 ·rw[D1 _ _ bb];have:(l.filter λs=>!(f s).val false)=l:=by
   simp_all
  simp only[decide_true,if_true,this,Nat.sub_self,List.replicate_zero,List.append_nil]
abbrev bG:bA:=((0,0,0,0,0,0),0)
def oS(c:a6)(w:z1')(u:Int):List bA:=((fs c).filter λs=>decide (uq s=u)).map λs=>(s,x6 s+w.getD (pB s).toNat 0)
def b8(c:a6)(w:z1')(u:Int):List bA:=fr h1 (oS c w u)
def qy(l:List bA)(i:Nat):Bool:=!(decide (0<i)&&decide ((l.getD i bG).2=(l.getD (i - 1) bG).2))&&decide (ek (l.getD i bG).1=1+((i % 2:Nat):Int))
def eF(l:List bA):Bool:=(List.range l.length).all (qy l)
structure gX(c:a6):Prop where
 Om:cP c=0
 ee:c.1.length<=3
 eh:c.2.1.length<=12
 jI:c.2.2.1.length<=12
 n4:c.2.2.2.1.length<=4
 iX:jT c=true
 AH:AG c.2.1
 On:pC c.2.2.2.2=true
 clk:∀ s∈c.1,-30<=s.1/\s.1<=s.2/\s.2<=30
 je:∀ s∈c.2.1,lr c.1.length s=true
 ix:AF c.2.2.2.1=true
theorem oT{c:a6}(h:cP c=0):gX c:=by
 have aX:=h;unfold cP at h;split at h
 ·rename_i hc;split at h
  ·omega
  ·rename_i aA;have lS:=hc;unfold jT sP at hc;simp only[Bool.and_eq_true,List.all_eq_true,Bool.not_eq_true',Bool.or_eq_false_iff,decide_eq_false_iff_not]at hc;obtain⟨⟨⟨⟨⟨⟨⟨⟨b9,a2⟩,a3⟩,a4⟩,a5⟩,gw⟩,gx⟩,h3⟩,a9⟩:=hc;refine⟨aX,by omega,by omega,by omega,by omega,lS,(AJ _).1 (by grind),a5,λs aD=>?_,gx,a9⟩;have:=gw s aD;unfold sO at this;simp only[Bool.and_eq_true,Bool.not_eq_true',decide_eq_false_iff_not,oP]at this;omega
 omega
theorem AM{n:Nat}{s:ba}:lr n s=true<->(0<=lq s/\lq s<=99)/\(0<=pB s/\pB s<=(n:Int) - 1)/\(0<=x6 s/\x6 s<=9999)/\(0<=uq s/\uq s<=9)/\(0<=iK s/\iK s<=99)/\(ek s=1\/ek s=2/\iK s=0):=by
 unfold lr;simp only[Bool.and_eq_true,oP,Bool.or_eq_true,decide_eq_true_eq,and_assoc]
theorem gX.alS{c:a6}(h:gX c):∃ m,uw c.2.1 m:=by
 obtain⟨E,_⟩:=AI c.2.1 [] [] .nil;rw[List.nil_append]at E;obtain⟨m,_,eA⟩:=E h.AH;grind
theorem gX.Oo{c:a6}(h:gX c):(fs c).length<=12:=by
 obtain⟨m,eA⟩:=h.alS;have E:=alJ eA (HX h.iX).2;have U:=List.length_filter_le (λs:ba=>!c.2.2.1.contains s.1) (gW c.2.1);have:=h.eh;unfold fs;omega
theorem D7{l:List ba}{s:ba}(h:s∈gW l):s∈l:=by
 unfold gW at h;grind
theorem alT{c:a6}{s:ba}(h:s∈fs c):s∈c.2.1:=D7 (List.mem_filter.1 h).1
theorem gX.AN{c:a6}(h:gX c){s:ba}(aD:s∈fs c):lr c.1.length s=true:=h.je s (alT aD)
def pF(c:a6)(w:z1'):Prop:=w.length=c.1.length/\∀ n∈w,-30<=n/\n<=30
theorem pF.at{c:a6}{w:z1'}(h:pF c w)(aC:gX c){s:ba}(aD:s∈fs c):0<=pB s/\pB s<(w.length:Int)/\-30<=w.getD (pB s).toNat 0/\w.getD (pB s).toNat 0<=30:=by
 have E:=(AM.1 (aC.AN aD)).2.1;have ak:pB s<(w.length:Int):=by rw[h.1];omega
 exact⟨E.1,ak,h.2 _ (xW E.1 ak)⟩
theorem D8{c:a6}(h:gX c)(w:z1')(u:Int):(b8 c w u).length<=12:=by
 unfold b8 oS;rw[HQ,List.length_map];exact Nat.le_trans (List.length_filter_le _ _) h.Oo
theorem D9{c:a6}{w:z1'}{u:Int}{e:bA}(h:e∈b8 c w u):e.1∈fs c/\uq e.1=u/\e.2=x6 e.1+w.getD (pB e.1).toNat 0:=by
 unfold b8 at h;rw[Xb]at h;unfold oS at h;grind
theorem Xw(i:Nat):Int.tmod (i:Int) 2=((i % 2:Nat):Int):=by
 rfl
theorem alU(l:List bA)(i:Nat):(decide ((i:Int) > 0)&&decide ((l.getD i bG).2=(l.getD (i - 1) bG).2)||decide (ek (l.getD i bG).1≠1+((i % 2:Nat):Int)))=!qy l i:=by
 unfold qy;simp
def ki(a b:Int)(s:Int×Int):Int:=max 0 (min (b - 1) s.2 - max a s.1+1)
def l3(cl:z4')(a b:Int):Int:=cl.foldl (λn s=>n - ki a b s) (b - a)
def Xx(cl:z4'):Prop:=cl.length<=4/\∀ s∈cl,0<=s.1/\s.1<=s.2/\s.2<=9999
theorem gX.Oq{c:a6}(h:gX c):Xx c.2.2.2.1:=by
 refine⟨h.n4,λs aD=>?_⟩;have:=h.ix;unfold AF at this;rw[List.all_eq_true]at this;obtain⟨i,G,rfl⟩:=List.mem_iff_getElem.1 aD;have:=this i (by grind);unfold iL at this;rw[sR G]at this;simp only[Bool.and_eq_true,oP,Bool.not_eq_true',decide_eq_false_iff_not]at this;omega
abbrev AO(x:a6×Int×Int):Prop:=Xx x.1.2.2.2.1/\-100<=x.2.1/\x.2.1<=x.2.2/\x.2.2<=11000
theorem alV{a b:Int}{s:Int×Int}(bb:-100<=a)(aa:b<=11000)(aD:0<=s.1/\s.1<=s.2/\s.2<=9999):0<=ki a b s/\ki a b s<=20000:=by
 unfold ki;omega
theorem Xy{n:Int}:(if n > 0 then n else 0)=max 0 n:=by omega
theorem Xz{a b:Int}:(if a<b then a else b)=min b a:=by omega
theorem alW{a b:Int}:(if a<b then a else b)=min a b:=by omega
theorem alX{a b:Int}:(if a > b then a else b)=max b a:=by omega
theorem alY{a b:Int}:(if a > b then a else b)=max a b:=by omega
abbrev vQ:aP:=⟨.az jv (.az bx bx),bx,AO,λx=>l3 x.1.2.2.2.1 x.2.1 x.2.2⟩
theorem alZ(x):A.le (WD x) (vQ.sh x):=A.bw λh=>by
 obtain⟨c,a,b⟩:=x;obtain⟨⟨E,U⟩,ah,aZ,bM⟩:=h;change -100<=a at ah;change a<=b at aZ;change b<=11000 at bM;change c.2.2.2.1.length<=4 at E;change ∀ s∈c.2.2.2.1,_ at U;unfold WD;have Ah:=bC (n:=b - a) (by omega) (by omega);rw[A.f_ c.2.2.2.1 (λi (n:Int)=>(a,b,n,c.2.2.2.1,(c.2.2.2.1.length:Int),(i:Int),())) (λs n=>.next (n - ki a b s)) (λn=>.next (n,())) (λi n=>-(20000*(i:Int))<=n/\n<=20000) (b - a) ?_ ?_ ?_ ?_]
 ·rw[ej,A.aH];rfl
 ·grind
 ·omega
 ·intro i G n aA;have aD:=U _ (List.getElem_mem G);have hc:=alV (a:=a) (b:=b) ah bM aD;have hw:=bC (n:=(i:Int)+1) (by omega) (by omega);refine⟨?_,λbe cW=>?_⟩
  ·simp only[Prod.dc,bW,cZ G,if_true,dm G,cL G,A.br,cm,hw];have cn:=bC (n:=b - 1) (by omega) (by omega);have da:=bC (n:=min (b - 1) c.2.2.2.1[i].2 - max a c.2.2.2.1[i].1) (by omega) (by omega);have eY:=bC (n:=min (b - 1) c.2.2.2.1[i].2 - max a c.2.2.2.1[i].1+1) (by omega) (by omega);have AP:=bC (n:=n - ki a b c.2.2.2.1[i]) (by omega) (by omega);simp only[cn,alW,alY,da,eY,Xy];rw[show max (min (b - 1) c.2.2.2.1[i].2 - max a c.2.2.2.1[i].1+1) 0=ki a b c.2.2.2.1[i] from Int.max_comm _ _,AP];rfl
  grind
 simp
def ls(t:pz)(m:Int):Int:=if m>=t.2.2.2.2.1 then t.2.2.2.2.2.1 else min t.2.2.2.1 ((max 0 (m - t.1)+t.2.1 - 1) / t.2.1*t.2.2.1)
abbrev x'(x:pz×Int):Prop:=pC x.1=true/\-100000<=x.2/\x.2<=20000
abbrev vR:aP:=⟨.az Oa bx,bx,x',λx=>ls x.1 x.2⟩
theorem HZ{t:pz}:pC t=true<->(0<=t.1/\t.1<=9999)/\(1<=t.2.1/\t.2.1<=9999)/\(1<=t.2.2.2.2.1/\t.2.2.2.2.1<=9999)/\(0<=t.2.2.1/\t.2.2.1<=100000)/\(0<=t.2.2.2.1/\t.2.2.2.1<=100000)/\(0<=t.2.2.2.2.2.1/\t.2.2.2.2.2.1<=100000)/\(0<=t.2.2.2.2.2.2/\t.2.2.2.2.2.2<=100000):=by
 unfold pC;simp only[Bool.and_eq_true,oP,and_assoc]
theorem XA{t:pz}{m:Int}(h:x' (t,m)):0<=(max 0 (m - t.1)+t.2.1 - 1) / t.2.1/\(max 0 (m - t.1)+t.2.1 - 1) / t.2.1<=30000/\0<=(max 0 (m - t.1)+t.2.1 - 1) / t.2.1*t.2.2.1/\(max 0 (m - t.1)+t.2.1 - 1) / t.2.1*t.2.2.1<=3000000000:=by
 obtain⟨E,U,ah⟩:=h;change -100000<=m at U;change m<=20000 at ah;obtain⟨b9,a2,a3,a4,a5,gw,gx⟩:=(HZ (t:=t)).1 E;have dP:0<=(max 0 (m - t.1)+t.2.1 - 1) / t.2.1:=Int.ediv_nonneg (by omega) (by omega);have e2:(max 0 (m - t.1)+t.2.1 - 1) / t.2.1<=max 0 (m - t.1)+t.2.1 - 1:=Int.ediv_le_self _ (by omega);have mH:(max 0 (m - t.1)+t.2.1 - 1) / t.2.1<=30000:=by omega
 refine⟨dP,mH,Int.mul_nonneg dP a4.1,?_⟩;calc (max 0 (m - t.1)+t.2.1 - 1) / t.2.1*t.2.2.1<=30000*100000:=Int.mul_le_mul mH a4.2 a4.1 (by omega)
  _=3000000000:=by decide
theorem al0{t:pz}{m:Int}(h:x' (t,m)):0<=ls t m/\ls t m<=100000:=by
 have:=XA h;obtain⟨E,U,ah⟩:=h;obtain⟨b9,a2,a3,a4,a5,gw,gx⟩:=(HZ (t:=t)).1 E;unfold ls;omega
theorem al1(x):A.le (Wr x) (vR.sh x):=A.bw λh=>by
 obtain⟨t,m⟩:=x;have hu:=XA h;obtain⟨E,U,ah⟩:=h;change -100000<=m at U;change m<=20000 at ah;obtain⟨b9,a2,a3,a4,a5,gw,gx⟩:=(HZ (t:=t)).1 E;have cn:=bC (n:=m - t.1) (by omega) (by omega);have da:=bC (n:=max 0 (m - t.1)+t.2.1) (by omega) (by omega);have eY:=bC (n:=max 0 (m - t.1)+t.2.1 - 1) (by omega) (by omega);have AP:=bC (n:=(max 0 (m - t.1)+t.2.1 - 1) / t.2.1) (by omega) (by omega);have al2:=bC (n:=(max 0 (m - t.1)+t.2.1 - 1) / t.2.1*t.2.2.1) (by omega) (by omega);have D_:Int.tdiv (max 0 (m - t.1)+t.2.1 - 1) t.2.1=(max 0 (m - t.1)+t.2.1 - 1) / t.2.1:=Int.tdiv_eq_ediv_of_nonneg (by omega);unfold Wr;show _=A.pure (ls t m);unfold ls;simp only[Prod.dc,cn,Xy,cm,da,eY,D_,AP,Int.mul_comm t.2.2.1,al2,Xz,decide_eq_true_eq];rw[A.bz (show t.2.1≠0 from by omega)];grind
def gY(c:a6)(w:z1')(u:Int):List bA:=if eF (b8 c w u)=true then b8 c w u else []
def nd(l:List bA)(minute:Int):Int×Int:=l.foldl (λb e=>if e.2<=minute then (if ek e.1=2 then (-1,e.2) else (iK e.1,e.2)) else b) (-1,0)
def H0(c:a6)(w:z1')(minute:Int):Int:=((ev 0 9).foldl (λn u=>if (nd (gY c w u) minute).1>=0 then n+1 else n) (0:Int))
def ux(l:List bA):List (bA×bA):=l.zip (l.drop 1)
def D'(cl:z4')(je:Int)(l:List bA):Option Int:=((ux l).find? λp=>lq p.1.1 == je&&ek p.1.1 == 1).map λp=>l3 cl p.1.2 p.2.2
def jU(c:a6)(w:z1')(je:Int):Option Int:=(ev 0 9).findSome? λu=>D' c.2.2.2.1 je (gY c w u)
theorem al3{l:List bA}{i:Nat}(h:i+1<(fr h1 l).length):(fr h1 l)[i].2<=(fr h1 l)[i+1].2:=by
 have:=List.pairwise_iff_getElem.1 (alp l) i (i+1) (by omega) h (by omega);omega
theorem Ea{c:a6}(aC:gX c){w:z1'}(U:pF c w){u:Int}{e:bA}(he:e∈b8 c w u):-30<=e.2/\e.2<=10029:=by
 obtain⟨E,_,ah⟩:=D9 he;have aW:=(U.at aC E).2.2;have aY:=(AM.1 (aC.AN E)).2.2.1;omega
theorem AQ{c:a6}{w:z1'}{u:Int}{e:bA}(he:e∈gY c w u):e∈b8 c w u:=by
 unfold gY at he;grind
theorem al4{c:a6}{w:z1'}{u:Int}{i:Nat}(h:i+1<(gY c w u).length):(gY c w u)[i].2<=(gY c w u)[i+1].2:=by
 have key:∀ l,gY c w u=l->∀ (h:i+1<l.length),l[i].2<=l[i+1].2:=by
  intro l ak h;unfold gY at ak;split at ak
  ·subst ak;exact al3 h
  grind
 grind
theorem XB{c:a6}(aC:gX c){w:z1'}(U:pF c w){u:Int}{i:Nat}(h:i+1<(gY c w u).length):AO (c,(gY c w u)[i].2,(gY c w u)[i+1].2):=by
 have ah:=Ea aC U (AQ (List.getElem_mem (by omega:i<(gY c w u).length)));have aZ:=Ea aC U (AQ (List.getElem_mem h));exact⟨aC.Oq,show -100<=(gY c w u)[i].2 by omega,al4 h,show (gY c w u)[i+1].2<=11000 by omega⟩
theorem al5{l:List bA}{i:Nat}(h:i<(ux l).length):∃ U:i+1<l.length,(ux l)[i]=(l[i],l[i+1]):=by
 unfold ux at h ⊢;grind
theorem al6{a b:Int}{s:Int×Int}(h:b<=s.1):ki a b s=0:=by unfold ki;omega
def rB:z4'->Prop
 | []=>True
 | s::r=>s.1<=s.2/\(∀ t∈r,s.2<t.1)/\rB r
theorem Ot:∀ (cl:z4') (a b n:Int),cl.foldl (λn s=>n - ki a b s) n=n - (cl.map (ki a b)).sum
 | [],a,b,n=>by simp
 | s::r,a,b,n=>by simp only[List.foldl_cons,List.map_cons,List.sum_cons];rw[Ot r];omega
theorem XC:∀ (cl:z4') (a b:Int),rB cl->a<=b->(cl.map (ki a b)).sum<=b - a
 | [],a,b,_,h=>by grind
 | s::r,a,b,⟨E,U,ah⟩,h=>by
  simp only[List.map_cons,List.sum_cons];by_cases aa:s.2+1<=b
  ·have aJ:=XC r (max a (s.2+1)) b ah (by omega);have e:r.map (ki a b)=r.map (ki (max a (s.2+1)) b):=by
    refine List.map_congr_left λt aK=>?_;have:=U t aK;unfold ki;omega
   rw[e];have:ki a b s<=max a (s.2+1) - a:=by unfold ki;omega
   omega
  ·have e:∀ l:z4',(∀ t∈l,b<=t.1)->(l.map (ki a b)).sum=0:=by
    intro l;induction l with
    | nil=>simp
    | cons t l aJ=>
     intro ak;simp only[List.map_cons,List.sum_cons];rw[al6 (ak t (by simp)),aJ λx ai=>ak x (by grind)];rfl
   rw[e r λt aK=>by grind];unfold ki;omega
theorem XD:∀ (cl:z4'),(∀ i,(h:i+1<cl.length)->cl[i].2<cl[i+1].1)->(∀ s∈cl,s.1<=s.2)->rB cl
 | [],_,_=>trivial
 | s::r,h,U=>by
  have M:rB r:=XD r (λi G=>by have:=h (i+1) (by grind);grind) λt aK=>U t (by grind);refine⟨U s (by simp),?_,M⟩;cases r with
  | nil=>simp
  | cons t r=>
   have aX:=h 0 (by simp);simp at aX;intro u hu;rcases List.mem_cons.1 hu with rfl | hu
   ·exact aX
   ·have:=M.2.1 u hu;grind
theorem gX.al7{c:a6}(h:gX c):rB c.2.2.2.1:=by
 have hc:=h.ix;unfold AF at hc;rw[List.all_eq_true]at hc;refine XD _ (λi G=>?_) λs aD=>(h.Oq.2 s aD).2.1;have:=hc (i+1) (by grind);unfold iL at this;grind
theorem al8{cl:z4'}{a b:Int}(h:rB cl)(vO:a<=b):0<=l3 cl a b:=by
 unfold l3;rw[Ot];have:=XC cl a b h vO;omega
theorem XE:∀ (cl:z4') (a b:Int),0<=(cl.map (ki a b)).sum
 | [],_,_=>by simp
 | s::r,a,b=>by
  simp only[List.map_cons,List.sum_cons];have:=XE r a b;have:0<=ki a b s:=by unfold ki;omega
  omega
theorem al9{cl:z4'}{a b:Int}:l3 cl a b<=b - a:=by
 unfold l3;rw[Ot];have:=XE cl a b;omega
theorem al_{cl:z4'}{je:Int}{l:List bA}{m:Int}(h:D' cl je l=some m):∃ i,∃ G:i+1<l.length,l[i].1.1=je/\ek l[i].1=1/\m=l3 cl l[i].2 l[i+1].2:=by
 unfold D' at h;rw[Option.map_eq_some_iff]at h;obtain⟨p,ao,rfl⟩:=h;have U:=List.find?_some ao;obtain⟨i,G,rfl⟩:=List.mem_iff_getElem.1 (List.mem_of_find?_eq_some ao);obtain⟨dA,e⟩:=al5 G;grind
theorem XF{c:a6}(aC:gX c){w:z1'}(U:pF c w){je m:Int}(h:jU c w je=some m):0<=m/\m<=11000:=by
 unfold jU at h;obtain⟨u,_,hu⟩:=List.exists_of_findSome?_eq_some h;obtain⟨i,G,_,_,rfl⟩:=al_ hu;have ao:=XB aC U G;have hm:=al8 aC.al7 ao.2.2.1;have ah:=Ea aC U (AQ (List.getElem_mem (by omega:i<(gY c w u).length)));have aZ:=Ea aC U (AQ (List.getElem_mem G));have bM:=@al9 c.2.2.2.1 (gY c w u)[i].2 (gY c w u)[i+1].2;grind
def H2(c:a6)(w:z1')(al':Int):Int:=(fs c).foldl (λn s=>if (ek s=1/\iK s=al')/\(jU c w (lq s)).isSome=true then n+ls c.2.2.2.2 ((jU c w (lq s)).getD 0) else n) 0
def AR(c:a6)(je:Int):Bool:=(fs c).any λs=>lq s == je&&ek s == 1
def sT(c:a6)(w:z1'):Bool:=(List.range w.length).all λi=>b4 (w.getD i 0) (c.1.getD i (0,0)).1 (c.1.getD i (0,0)).2
def iN(c:a6)(w:z1'):Bool:=decide (w.length=c.1.length)&&sT c w&&(ev 0 9).all λu=>eF (b8 c w u)
theorem XG{c:a6}(aC:gX c){w:z1'}(ak:w.length=c.1.length)(h:sT c w=true):pF c w:=by
 refine⟨ak,λn aA=>?_⟩;obtain⟨i,G,rfl⟩:=List.mem_iff_getElem.1 aA;unfold sT at h;rw[List.all_eq_true]at h;have E:=h i (by grind);rw[sR G,sR (by omega:i<c.1.length),oP]at E;have:=aC.clk _ (List.getElem_mem (by omega:i<c.1.length));omega
def kj:z4'->Nat
 | []=>1
 | s::r=>(s.2 - s.1+1).toNat*kj r
def nf(c:a6):z4'->z1'->List (z1')
 | [],w=>if iN c w=true then [w] else []
 | s::r,w=>(ev s.1 s.2).flatMap λn=>nf c r (w++[n])
theorem Ou{al β:Type}(f:al->List β)(k:Nat):∀ (l:List al),(∀ x∈l,(f x).length<=k)->(l.flatMap f).length<=l.length*k
 | [],_=>by simp
 | x::l,h=>by
  simp only[List.flatMap_cons,List.length_append,List.length_cons];have:=Ou f k l λy aS=>h y (by grind);grind
theorem Ov(c:a6):∀ (r:z4') (w:z1'),(nf c r w).length<=kj r
 | [],w=>by unfold nf kj;grind
 | s::r,w=>by
  unfold nf kj;have:=Ou (λn=>nf c r (w++[n])) (kj r) (ev s.1 s.2) λn _=>Ov c r _;rw[xX]at this;omega
theorem XH{al β:Type}(f:al->List β):∀ (l:List al) (b:List β),l.foldl (λb x=>b++f x) b=b++l.flatMap f
 | [],b=>by simp
 | x::l,b=>by simp only[List.foldl_cons,List.flatMap_cons];rw[XH f l,List.append_assoc]
abbrev cQ(c:a6):List (z1'):=nf c c.1 []
def ama(c:a6):Prop:=cP c=0->kj c.1<=60
def gF(c:a6):Prop:=ald c/\ama c
theorem gF.gL{c:a6}(h:gF c):iR c:=by
 obtain⟨⟨E,U,ah,aZ⟩,_⟩:=h;exact⟨by omega,by omega,by omega,by omega⟩
def eK(c:a6)(b:Bool):List (z1')×Int:=if cP c≠0 then ([],cP c) else if b=false then ([],1) else if cQ c=[] then ([],3) else (cQ c,0)
theorem Ow(c:a6):∀ (r:z4') (w x:z1'),x∈nf c r w->iN c x=true
 | [],w,x,h=>by
  unfold nf at h;grind
 | s::r,w,x,h=>by
  unfold nf at h;rw[List.mem_flatMap]at h;obtain⟨n,_,aA⟩:=h;exact Ow c r _ x aA
theorem Eb{c:a6}(h:cP c=0){w:z1'}(hw:iN c w=true):pF c w:=by
 unfold iN at hw;simp only[Bool.and_eq_true,decide_eq_true_eq]at hw;exact XG (oT h) hw.1.1 hw.1.2
theorem H3{c:a6}{w:z1'}(hw:iN c w=true){u:Int}(hu:0<=u/\u<=9):eF (b8 c w u)=true:=by
 unfold iN at hw;simp only[Bool.and_eq_true,List.all_eq_true]at hw;exact hw.2 u (sG.2 hu)
theorem amb{c:a6}{b:Bool}{w:z1'}(h:w∈(eK c b).1):cP c=0/\w∈cQ c/\iN c w=true/\pF c w:=by
 unfold eK at h;split at h
 ·grind
 ·rename_i hc;have hc:cP c=0:=by omega
  split at h
  ·grind
  ·split at h
   ·grind
   ·have:=Ow c _ _ _ h;exact⟨hc,h,this,Eb hc this⟩
def H4:Option (Int×Int)->Int->Int×Int
 | none,n=>(n,n)
 | some s,n=>(min s.1 n,max s.2 n)
def ya(l:z1'):Option (Int×Int):=l.foldl (λo n=>some (H4 o n)) none
def uy(l:z1'):Int×Int:=(ya l).getD (0,0)
theorem amc(a b c:Int):ct.sh (a,b,c)=A.pure (b4 a b c):=rfl
def lu(c:a6)(je:Int):z1'×Int:=if (eK c (AR c je)).2≠0 then ([],(eK c (AR c je)).2) else if (eK c (AR c je)).1.filterMap (λw=>jU c w je)=[] then ([],3) else ((eK c (AR c je)).1.filterMap (λw=>jU c w je),0)
def H5(c:a6)(n:Int):(Int×Int)×Int:=(uy (lu c n).1,(lu c n).2)
abbrev H6:aP:=⟨.az jv bx,.az mA bx,λx=>gF x.1,λx=>H5 x.1 x.2⟩
def H7(c:a6)(n:Int):(Int×Int)×Int:=(uy ((lu c n).1.map λm=>ls c.2.2.2.2 m),(lu c n).2)
abbrev H8:aP:=⟨.az jv bx,.az mA bx,λx=>gF x.1,λx=>H7 x.1 x.2⟩
def H9(c:a6)(g:Int):(Int×Int)×Int:=(uy ((eK c (b4 g 0 99)).1.map λw=>H2 c w g),(eK c (b4 g 0 99)).2)
abbrev H_:aP:=⟨.az jv bx,.az mA bx,λx=>gF x.1,λx=>H9 x.1 x.2⟩
def Ia(c:a6)(t:Int):(Int×Int)×Int:=(uy ((eK c (b4 t 0 9999)).1.map λw=>H0 c w t*c.2.2.2.2.2.2.2.2.2.2),(eK c (b4 t 0 9999)).2)
abbrev Ib:aP:=⟨.az jv bx,.az mA bx,λx=>gF x.1,λx=>Ia x.1 x.2⟩
def vS(u t:Int):Bool:=b4 u 0 9&&b4 t 0 9999
def Ox(c:a6)(u t:Int):z1':=(eK c (vS u t)).1.map λw=>(nd (gY c w u) t).1
def rC(c:a6)(u t:Int):z1'×Int:=((ev (-1) 99).filter λg=>(Ox c u t).contains g,(eK c (vS u t)).2)
abbrev Ic:aP:=⟨.az jv (.az bx bx),.az fP bx,λx=>gF x.1,λx=>rC x.1 x.2.1 x.2.2⟩
def Ec(c:a6)(w:z1')(u t:Int):Bool:=decide ((nd (gY c w u) t).1>=0)&&decide (l3 c.2.2.2.1 (nd (gY c w u) t).2 t>=c.2.2.2.2.2.2.2.2.1)
def oU(c:a6)(l:List (z1'))(u t:Int):Nat:=(l.filter λw=>Ec c w u t).length
def sU(c:a6)(t:Int):z1'×z1'×Int:=
 if (eK c (b4 t 0 9999)).2≠0 then ([],[],(eK c (b4 t 0 9999)).2)
 else ((ev 0 9).filter (λu=>decide (oU c (eK c (b4 t 0 9999)).1 u t=(eK c (b4 t 0 9999)).1.length)),(ev 0 9).filter (λu=>decide (oU c (eK c (b4 t 0 9999)).1 u t > 0)),0)
abbrev Ie:aP:=⟨.az jv bx,.az fP (.az fP bx),λx=>gF x.1,λx=>sU x.1 x.2⟩
theorem Oy:∀ (l:List bA) (t:Int) (b:Int×Int),(∀ e∈l,(0<=iK e.1))->(l.foldl (λb e=>if e.2<=t then (if ek e.1=2 then (-1,e.2) else (iK e.1,e.2)) else b) b=b\/∃ e∈l,e.2<=t/\l.foldl (λb e=>if e.2<=t then (if ek e.1=2 then (-1,e.2) else (iK e.1,e.2)) else b) b=(if ek e.1=2 then (-1,e.2) else (iK e.1,e.2)))
 | [],t,b,_=>.inl rfl
 | x::l,t,b,h=>by
  simp only[List.foldl_cons];by_cases ai:x.2<=t
  ·rw[if_pos ai];rcases Oy l t (if ek x.1=2 then (-1,x.2) else (iK x.1,x.2)) λe he=>h e (by grind) with E | ⟨e,he,E,U⟩
   ·exact .inr ⟨x,by simp,ai,E⟩
   ·exact .inr ⟨e,by simp[he],E,U⟩
  ·rw[if_neg ai];rcases Oy l t b λe he=>h e (by grind) with E | ⟨e,he,E,U⟩
   ·exact .inl E
   ·exact .inr ⟨e,by simp[he],E,U⟩
theorem amd{c:a6}(aC:gX c){w:z1'}(U:pF c w){u t:Int}(aK:t<=9999)(h:(nd (gY c w u) t).1>=0):AO (c,(nd (gY c w u) t).2,t):=by
 rcases Oy (gY c w u) t (-1,0) (λe he=>((AM.1 (aC.AN (D9 (AQ he)).1)).2.2.2.2.1).1) with E | ⟨e,he,E,ah⟩
 ·unfold nd at h;grind
 ·have:=Ea aC U (AQ he);have aN:(nd (gY c w u) t).2=e.2:=by
   unfold nd;grind
  exact⟨aC.Oq,by grind,by grind,show t<=11000 by omega⟩
abbrev kC(z:hp):a6:=(z.1,z.2.1,z.2.2.1,z.2.2.2.1,z.2.2.2.2.1,z.dc,z.fq,z.gO,z.ir,z.jR,z.kU)
abbrev Oz(z:hp):List ba:=z.hP
abbrev XI(z:hp):List (Option dQ):=z.nb
abbrev Ed(c:a6)(l:List ba)(t:List (Option dQ)):hp:=(c.1,c.2.1,c.2.2.1,c.2.2.2.1,c.2.2.2.2.1,c.2.2.2.2.2.1,c.2.2.2.2.2.2.1,c.2.2.2.2.2.2.2.1,c.2.2.2.2.2.2.2.2.1,c.2.2.2.2.2.2.2.2.2.1,c.2.2.2.2.2.2.2.2.2.2,l,t,())
def uz(l:List ba)(w:z1')(u:Int):List bA:=(l.filter λs=>decide (uq s=u)).map λs=>(s,x6 s+w.getD (pB s).toNat 0)
theorem ame{l:List ba}{w:z1'}{i:Nat}(h:i<l.length)(u:Int):uz (l.take (i+1)) w u=if l[i].2.2.2.2.1=u then uz (l.take i) w u++[(l[i],x6 l[i]+w.getD (pB l[i]).toNat 0)] else uz (l.take i) w u:=by
 unfold uz;rw[List.take_add_one,List.getElem?_eq_getElem h,Option.toList_some,List.filter_append,List.map_append];grind
theorem XJ(l:List ba)(w:z1')(u:Int):(uz l w u).length<=l.length:=by
 unfold uz;grind
abbrev ng(c:a6)(w:z1'):List (List bA):=[b8 c w 0,b8 c w 1,b8 c w 2,b8 c w 3,b8 c w 4,b8 c w 5,b8 c w 6,b8 c w 7,b8 c w 8,b8 c w 9]
def sV(c:a6)(w:z1'):Bool:=(ev 0 9).all λu=>eF (b8 c w u)
theorem amf(c:a6)(w:z1'):sV c w=(eF (b8 c w 0)&&(eF (b8 c w 1)&&(eF (b8 c w 2)&&(eF (b8 c w 3)&&(eF (b8 c w 4)&&(eF (b8 c w 5)&&(eF (b8 c w 6)&&(eF (b8 c w 7)&&(eF (b8 c w 8)&&eF (b8 c w 9)))))))))):=by
 unfold sV;rw[show ev 0 9=[0,1,2,3,4,5,6,7,8,9] from by decide];simp
abbrev amg(x:z1'×hp):Prop:=cP (kC x.2)=0/\pF (kC x.2) x.1/\Oz x.2=fs (kC x.2)
def rD(x:z1'×hp):A (Option dQ×Bool×hp):=A.dI (amg x) (if sV (kC x.2) x.1=true then (some (x.1,ng (kC x.2) x.1),true,x.2) else (none,false,x.2))
theorem amh{bm aI:Type}{body:Int×Int×Int×bm->A (W (Int×Int×Int×bm) aI)}(l:List bA){a n:Int}{z:bm}(bad sW:aI)
  (aa:∀ i,i<l.length->body (a,n,(i:Int),z)=A.pure (if (!qy l i)=true then .done bad else .next (a,n,((i+1:Nat):Int),z)))
  (he:body (a,n,(l.length:Int),z)=A.pure (.done sW)):A.loop body (a,n,0,z)=A.pure (if eF l=true then sW else bad):=by
 rw[A.dL (List.range l.length) (λi (_:Unit)=>(a,n,(i:Int),z)) (λi b=>if (!qy l i)=true then .done bad else .next b) (λ_=>sW) () ?_ ?_ ?_]
 ·rw[kR (q:=qy l) _ _ (λ_=>rfl)];rfl
 ·rfl
 ·intro i G b;have G:i<l.length:=by grind
  rw[aa i G,List.getElem_range];cases qy l i<;>rfl
 grind
theorem XK{X:Type}{l:List bA}(ak:l.length<=12){i:Nat}(G:i<l.length){k:Int}(an:k=1+((i % 2:Nat):Int))(aL B:A X):N' l l[i] i k aL B=if (!qy l i)=true then aL else B:=by
 unfold N';have zx:=alU l i;rw[Bool.or_comm,sR G]at zx;have ay:(decide (l[i].1.2.2.2.1≠k)||decide ((i:Int) > 0)&&decide (l[i].2=(List.getD l (Int.toNat (IntKind.wrap .i64 ((i:Int) - 1))) ((0,0,0,0,0,0),0)).2))=!qy l i:=by
  rw[<-zx,an];rcases Nat.eq_zero_or_pos i with aX | aX
  ·simp_all
  ·rw[bC (n:=(i:Int) - 1) (by omega) (by omega),show ((i:Int) - 1).toNat=i - 1 from by omega]
 rw[ay];have bM:decide ((i:Int) > 0)=true->(0<=IntKind.wrap .i64 ((i:Int) - 1)/\IntKind.wrap .i64 ((i:Int) - 1)<Int.ofNat (List.length l)):=λh=>by
  have h:=of_decide_eq_true h;rw[bC (n:=(i:Int) - 1) (by omega) (by omega),bW];omega
 simp_all
theorem ami{l:List bA}(h:l.length<=12):AB (l2.sh,l,())=A.pure (fr h1 l,()):=A.bR ⟨h,rfl⟩ _
theorem amj{l:List ba}{w:z1'}{c:a6}(ak:l.length<=12)(aD:∀ s∈l,lr c.1.length s=true)(hw:pF c w){i:Nat}(G:i<l.length):0<=l[i].2.2.2.2.1/\l[i].2.2.2.2.1<=9/\(0<=l[i].2.1/\l[i].2.1<(w.length:Int))/\IntKind.wrap .i64 (l[i].2.2.1+w.getD l[i].2.1.toNat 0)=l[i].2.2.1+w.getD l[i].2.1.toNat 0:=by
 have h:=AM.1 (aD _ (List.getElem_mem G));have E:pB l[i]<(w.length:Int):=by rw[hw.1];omega
 have U:=hw.2 _ (xW (d:=0) h.2.1.1 E);have ah:=h.2.2.1;have aZ:=h.2.2.2.1;exact⟨aZ.1,aZ.2,⟨h.2.1.1,E⟩,bC (by grind) (by grind)⟩
abbrev n6(f:Nat->List bA)(c:hp):lp:=(f 0,f 1,f 2,f 3,f 4,f 5,f 6,f 7,f 8,f 9,c)
theorem OA{f g:Nat->List bA}(h:∀ u,u<10->f u=g u)(c:hp):n6 f c=n6 g c:=by
 simp only[n6,h 0 (by decide),h 1 (by decide),h 2 (by decide),h 3 (by decide),h 4 (by decide),h 5 (by decide),h 6 (by decide),h 7 (by decide),h 8 (by decide),h 9 (by decide)]
theorem OB(f:Nat->List bA)(c:hp):∀ k,k<10->mz k (n6 f c)=f k
 | 0,_ | 1,_ | 2,_ | 3,_ | 4,_ | 5,_ | 6,_ | 7,_ | 8,_ | 9,_=>rfl
 | k+10,h=>by omega
theorem XL(f:Nat->List bA)(c:hp)(v:List bA):∀ k,k<10->HJ k v (n6 f c)=n6 (λj=>if j=k then v else f j) c
 | 0,_ | 1,_ | 2,_ | 3,_ | 4,_ | 5,_ | 6,_ | 7,_ | 8,_ | 9,_=>rfl
 | k+10,h=>by omega
theorem XM{X:Type}(f:Nat->A X){v:Int}{u:Nat}(h:v=(u:Int)):∀ {n:Nat},u<=n->HL f v n=f u
 | 0,hu=>by
  obtain rfl:u=0:=by omega
  rfl
 | n+1,hu=>by
  unfold HL;simp only[hM,bW,h];by_cases e:u=n+1
  ·rw[if_pos (by omega),e]
  ·rw[if_neg (by omega)];exact XM f rfl (by omega)
theorem amk{c:a6}{w:z1'}(kc:∀ u,(b8 c w u).length<=12){z:hp}{g:Nat->List bA}{k:Nat}(an:k<10)(aC:g k=b8 c w k) :
  A.loop (HK k) (Int.ofNat k,Int.ofNat (List.length (b8 c w k)),0,w,n6 g z)=A.pure (if eF (b8 c w k)=true then .next (Int.ofNat k,w,n6 g z) else .done (.done (none,false,z))):=by
 have ay:mz k (n6 g z)=b8 c w k:=(OB g z k an).trans aC;refine amh (b8 c w k) _ _ (λi G=>?_) ?_
 ·have hw:=bC (n:=(i:Int)+1) (by omega) (by have:=kc k;omega);unfold HK;simp only[bW,cZ G,if_true,ay,cL G,dm G,A.br];rcases Nat.mod_two_eq_zero_or_one i with hm | hm
  ·have aw:decide (Int.tmod (i:Int) 2=1)=false:=by rw[Xw,hm];rfl
   simp only[aw,Bool.false_eq_true,if_false,A.Fc,A.aH,A.b2];rw[A.bz (by decide),ay];refine (XK (kc k) G (by rw[hm];rfl) _ _).trans ?_;simp only[cm,hw];cases qy (b8 c w k) i<;>rfl
  ·have aw:decide (Int.tmod (i:Int) 2=1)=true:=by rw[Xw,hm];rfl
   simp only[aw,if_true,A.Fc,A.aH,A.b2];rw[A.bz (by decide),ay];refine (XK (kc k) G (by rw[hm];rfl) _ _).trans ?_;simp only[cm,hw];cases qy (b8 c w k) i<;>rfl
 ·unfold HK;simp
theorem XN{c:a6}{w:z1'}(hlen:∀ u,(oS c w u).length<=12)(kc:∀ u,(b8 c w u).length<=12){z:hp}:∀ n k,k+n=10->
  DZ AB l2.sh n k (w,n6 (λu=>if u<k then b8 c w u else oS c w u) z)=A.pure (if ((List.range' k n).all λu=>eF (b8 c w u))=true then .next (w,n6 (λu=>b8 c w u) z) else .done (none,false,z))
 | 0,k,h=>by
  unfold DZ;rw[OA (g:=λu=>b8 c w u) λu hu=>if_pos (by omega)];rfl
 | n+1,k,h=>by
  have an:k<10:=by omega
  have aD:AB (l2.sh,oS c w k,())=A.pure (b8 c w k,()):=ami (hlen k);have hw:=bC (n:=(k:Int)+1) (by omega) (by omega);have aN:HJ k (b8 c w k) (n6 (λu=>if u<k then b8 c w u else oS c w u) z)=n6 (λu=>if u<k+1 then b8 c w u else oS c w u) z:=by
   rw[XL _ _ _ _ an];exact OA (λu hu=>by
    by_cases e:u=k
    ·subst e;simp
    ·by_cases aN:u<k
     ·simp[e,aN,show u<k+1 by omega]
     ·simp[e,aN,show ¬u<k+1 by omega]) _
  unfold DZ;dsimp only;rw[A.bz (by simp only[bW];omega),OB _ _ _ an,if_neg (Nat.lt_irrefl k),aD,A.aH];simp only[aN];rw[amk kc an (if_pos (Nat.lt_succ_self k)),A.aH,List.range'_succ,List.all_cons];cases eF (b8 c w k) with
  | false=>rfl
  | true=>
   simp only[if_true,Bool.true_and,A.b2];rw[A.bz (by simp only[bW,cm,hw];omega)];exact XN hlen kc n (k+1) (by omega)
theorem OC(x):A.le (W4 oR.sh AB l2.sh x) (rD x):=A.bw λh=>by
 obtain⟨w,z⟩:=x;obtain⟨E,U,ah⟩:=h;change cP (kC z)=0 at E;change pF (kC z) w at U;change z.hP=fs (kC z) at ah;show _=A.pure (if sV (kC z) w=true then (some (w,ng (kC z) w),true,z) else (none,false,z));generalize ua:kC z=c at *
 have aC:=oT E;have ak:=aC.Oo;have nJ:∀ s∈fs c,lr c.1.length s=true:=λs aD=>aC.AN aD;have aA:=aC.ee;have hlen:∀ u,(oS c w u).length<=12:=λu=>Nat.le_trans (XJ (fs c) w u) ak;have kc:∀ u,(b8 c w u).length<=12:=λu=>D8 aC w u;have pG:∀ u,uz z.hP w u=oS c w u:=λu=>by rw[ah];rfl
 rw[<-ah]at ak nJ;clear ah;unfold W4;rw[show oR.sh w=A.pure w from A.bR (show w.length<=3000000 by have:=U.1;omega) _];simp only[A.aH,A.b2,A.br];refine (congrArg (λm=>A.bind m _) (A.dL z.hP (λi (_:Unit)=>(w,z.hP,(z.hP.length:Int),(i:Int),w,n6 (λu=>uz (z.hP.take i) w u) z)) (λ_ b=>.next b) (λ_=>.next (w,n6 (λu=>oS c w u) z)) () ?_ ?_ ?_)).trans ?_
 ·simp only[bW,List.take_zero];rfl
 ·intro i G b;obtain⟨aW,aY,bO,gC⟩:=amj (c:=c) ak nJ U G;have hw:=bC (n:=(i:Int)+1) (by omega) (by omega);have iC:∀ u,b6 (Add.add (uz (z.hP.take i) w u).length (Add.add 0 1)):=λu=>gv (by have:=XJ (z.hP.take i) w u;rw[List.length_take]at this;simp only[hM];omega);obtain⟨u,hu⟩:∃ u:Nat,z.hP[i].2.2.2.2.1=(u:Int):=⟨z.hP[i].2.2.2.2.1.toNat,by omega⟩
  have aml:u<=9:=by omega
  simp only[bW,cZ G,if_true,dm G,cL G,A.br];rw[A.bz (show (0<=z.hP[i].2.2.2.2.1/\z.hP[i].2.2.2.2.1<((10:Nat):Int)) from⟨aW,by omega⟩),XM _ hu aml];unfold W3;simp only[dm G,bW,OB _ _ u (show u<10 by omega),XL _ _ _ u (show u<10 by omega)];rw[A.bz trivial,A.bz (by omega),A.bz bO,A.bz (iC _),A.bz trivial,A.bz (by omega),A.aH,A.b2];simp only[cm,hw,gC];refine congrArg (λq=>A.pure (W.next (w,z.hP,(z.hP.length:Int),((i:Int)+1),w,q))) ?_;refine OA (λj aG=>?_) _;rw[ame G,hu];by_cases e:j=u
  ·subst e;rw[if_pos rfl,if_pos rfl,<-hu]
  ·rw[if_neg e,if_neg (by omega)]
 ·intro b;simp only[List.take_length,pG];simp
 ·rw[ej,A.aH,A.b2];have bG:=XN (c:=c) (w:=w) hlen kc (z:=z) 10 0 rfl;rw[A.bz (by decide)];rw[show (λu:Nat=>if u<0 then b8 c w u else oS c w u)=λu:Nat=>oS c w u from funext λu=>if_neg (Nat.not_lt_zero u)]at bG;rw[bG,A.aH];have ay:((List.range' 0 10).all λu=>eF (b8 c w u))=sV c w:=by
   rw[amf];simp[List.range']
  rw[ay];cases sV c w<;>rfl
abbrev iu(c:a6)(w:z1'):Option dQ:=some (w,ng c w)
abbrev amm(f:Nat)(x:z1'×hp):Prop:=cP (kC x.2)=0/\Oz x.2=fs (kC x.2)/\x.1.length<=(kC x.2).1.length/\(kC x.2).1.length<x.1.length+f/\sT (kC x.2) x.1=true/\(XI x.2).length+kj ((kC x.2).1.drop x.1.length)<=60
def yb(f:Nat)(x:z1'×hp):A hp:=A.dI (amm f x) (Ed (kC x.2) (Oz x.2) (XI x.2++(nf (kC x.2) ((kC x.2).1.drop x.1.length) x.1).map (iu (kC x.2))))
theorem amn(x):¬(yb 0 x).cq:=λh=>by have E:=h.2.2.1;have U:=h.2.2.2.1;omega
theorem amo{c:a6}{w:z1'}{n:Int}:sT c (w++[n])=(sT c w&&b4 n (c.1.getD w.length (0,0)).1 (c.1.getD w.length (0,0)).2):=by
 unfold sT;grind
theorem amp{c:a6}{w:z1'}(ak:w.length=c.1.length)(h:sT c w=true):iN c w=sV c w:=by
 unfold iN sV;grind
set_option maxHeartbeats 1000000 in
theorem amq(f:Nat)(x):A.le (W6 (yb f) rD x) (yb (f+1) x):=A.bw λh=>by
 obtain⟨w,a0,b9,a2,a3,a4,a5,gw,gx,h3,a9,hB,l,t,u⟩:=x;obtain⟨E,U,ah,aZ,bM,dt⟩:=h;change cP (a0,b9,a2,a3,a4,a5,gw,gx,h3,a9,hB)=0 at E;change l=fs (a0,b9,a2,a3,a4,a5,gw,gx,h3,a9,hB) at U;change w.length<=a0.length at ah;change a0.length<w.length+(f+1) at aZ;change sT (a0,b9,a2,a3,a4,a5,gw,gx,h3,a9,hB) w=true at bM;change t.length+kj (a0.drop w.length)<=60 at dt;show _=A.pure (Ed (a0,b9,a2,a3,a4,a5,gw,gx,h3,a9,hB) l (t++(nf (a0,b9,a2,a3,a4,a5,gw,gx,h3,a9,hB) (a0.drop w.length) w).map (iu (a0,b9,a2,a3,a4,a5,gw,gx,h3,a9,hB))));have aC:=oT E;have aA:a0.length<=3:=aC.ee;unfold W6;simp only[Prod.dc,Prod.fq,Prod.gO,Prod.ir,Prod.jR,Prod.kU,Prod.hP,Prod.nb,Prod.pA,Prod.sI,Prod.x3,Prod.NW,Prod.NX,Prod.NY,Prod.NZ,bW,A.br];by_cases ak:w.length=a0.length
 ·rw[if_pos (by simp only[decide_eq_true_eq];omega)];have amr:pF (a0,b9,a2,a3,a4,a5,gw,gx,h3,a9,hB) w:=XG aC ak bM;have ag:rD (w,a0,b9,a2,a3,a4,a5,gw,gx,h3,a9,hB,l,t,())=A.pure (if sV (a0,b9,a2,a3,a4,a5,gw,gx,h3,a9,hB) w=true then (iu (a0,b9,a2,a3,a4,a5,gw,gx,h3,a9,hB) w,true,a0,b9,a2,a3,a4,a5,gw,gx,h3,a9,hB,l,t,()) else (none,false,a0,b9,a2,a3,a4,a5,gw,gx,h3,a9,hB,l,t,())):=A.bR ⟨E,amr,U⟩ _;rw[ag,A.aH,ak,List.drop_length];unfold nf;rw[amp ak bM];cases an:sV (a0,b9,a2,a3,a4,a5,gw,gx,h3,a9,hB) w with
  | true=>
   rw[if_pos rfl,if_pos rfl,A.bz (gv (by simp only[hM];omega)),A.aH,A.b2];rfl
  | false=>
   simp only[Bool.false_eq_true,if_false,A.aH,A.b2,List.map_nil,List.append_nil]
 ·have cc:w.length<a0.length:=by omega
  rw[if_neg (by simp only[decide_eq_true_eq];omega),A.bz (show (0:Int)<=(w.length:Int)/\(w.length:Int)<(a0.length:Int) by omega)];rw[List.drop_eq_getElem_cons cc]at dt ⊢;simp only[Int.toNat_natCast,sR cc];have aD:=aC.clk _ (List.getElem_mem cc);change -30<=a0[w.length].1/\a0[w.length].1<=a0[w.length].2/\a0[w.length].2<=30 at aD;have nh:a0.getD w.length (0,0)=a0[w.length]:=sR cc;generalize a0[w.length]=s at *
  unfold kj at dt;have Ee:∀ n (ts:List (Option dQ)),s.1<=n->n<=s.2->ts.length+kj (a0.drop (w.length+1))<=60->yb f (w++[n],a0,b9,a2,a3,a4,a5,gw,gx,h3,a9,hB,l,ts,())=A.pure (Ed (a0,b9,a2,a3,a4,a5,gw,gx,h3,a9,hB) l (ts++(nf (a0,b9,a2,a3,a4,a5,gw,gx,h3,a9,hB) (a0.drop (w.length+1)) (w++[n])).map (iu (a0,b9,a2,a3,a4,a5,gw,gx,h3,a9,hB)))):=by
   intro n ts aW aY bO;refine (A.bR ⟨E,U,?_,?_,?_,?_⟩ _).trans (congrArg A.pure ?_)
   ·show Ed (a0,b9,a2,a3,a4,a5,gw,gx,h3,a9,hB) l (ts++(nf (a0,b9,a2,a3,a4,a5,gw,gx,h3,a9,hB) (a0.drop (w++[n]).length) (w++[n])).map (iu (a0,b9,a2,a3,a4,a5,gw,gx,h3,a9,hB)))=_;rw[List.length_append,List.length_singleton]
   ·show (w++[n]).length<=a0.length;simp;omega
   ·show a0.length<(w++[n]).length+f;simp;omega
   ·show sT (a0,b9,a2,a3,a4,a5,gw,gx,h3,a9,hB) (w++[n])=true;rw[amo,bM];show (true&&b4 n (a0.getD w.length (0,0)).1 (a0.getD w.length (0,0)).2)=true;rw[nh,Bool.true_and];exact oP.2 ⟨aW,aY⟩
   ·show ts.length+kj (a0.drop (w++[n]).length)<=60;rw[List.length_append,List.length_singleton];exact bO
  rw[A.f_ (ev s.1 s.2) (λi (ts:List (Option dQ))=>(w,(w.length:Int),s.1+(i:Int),a0,b9,a2,a3,a4,a5,gw,gx,h3,a9,hB,l,ts,())) (λn ts=>.next (ts++(nf (a0,b9,a2,a3,a4,a5,gw,gx,h3,a9,hB) (a0.drop (w.length+1)) (w++[n])).map (iu (a0,b9,a2,a3,a4,a5,gw,gx,h3,a9,hB)))) (λts=>(a0,b9,a2,a3,a4,a5,gw,gx,h3,a9,hB,l,ts,())) (λi ts=>ts.length<=t.length+i*kj (a0.drop (w.length+1))) t ?_ ?_ ?_ ?_]
  ·rw[ej,XH (f:=λn=>(nf (a0,b9,a2,a3,a4,a5,gw,gx,h3,a9,hB) (a0.drop (w.length+1)) (w++[n])).map (iu (a0,b9,a2,a3,a4,a5,gw,gx,h3,a9,hB)))];rw[<-List.map_flatMap];rfl
  ·rw[Int.natCast_zero,Int.add_zero]
  ·simp
  ·intro i G ts ag;rw[xX]at G;have hw:=bC (n:=s.1+(i:Int)+1) (by omega) (by omega);have aw:decide (s.1+(i:Int)<=s.2)=true:=by simpa using (by omega:s.1+(i:Int)<=s.2)
   have hle:=Ov (a0,b9,a2,a3,a4,a5,gw,gx,h3,a9,hB) (a0.drop (w.length+1)) (w++[s.1+(i:Int)]);have ams:ts.length+kj (a0.drop (w.length+1))<=60:=by
    have:(i+1)*kj (a0.drop (w.length+1))<=(s.2 - s.1+1).toNat*kj (a0.drop (w.length+1)):=Nat.mul_le_mul_right _ (by omega);rw[Nat.succ_mul]at this;omega
   refine⟨?_,λbe cW=>?_⟩
   ·simp only[Int.toNat_natCast,nh,aw,if_true,cm,hw,DI,List.take_length];rw[A.bz (by omega),A.bz ⟨by omega,by omega,trivial,by omega⟩,A.bz ⟨by simp only[hM];omega,gv (by simp only[hM];omega)⟩,Ee _ ts (by omega) (by omega) ams,A.aH];simp only[W.ho];rw[show s.1+((i+1:Nat):Int)=s.1+(i:Int)+1 from by omega]
   ·simp only[W.next.injEq,DI]at cW;subst cW;rw[List.length_append,List.length_map,Nat.succ_mul];omega
  ·intro ts ag;rw[xX];have aw:decide (s.1+(((s.2 - s.1+1).toNat:Nat):Int)<=s.2)=false:=by simpa using (by omega:s.2<s.1+(((s.2 - s.1+1).toNat:Nat):Int))
   simp only[Int.toNat_natCast,nh,aw,Bool.false_eq_true,if_false,A.aH];rw[A.bz (by omega)]
abbrev uA:a6:=([],[],[],[],0,0,0,0,0,0,0)
abbrev AS:aP:=⟨.az hq (.bH jv),dk,λx=>∃ c:a6,x.2=some c/\c.2.2.1.length<2 ^ 63,λx=>(x.2.getD uA).2.2.1.contains (lq x.1)⟩
theorem OD(x):A.le (WG oQ.sh x) (AS.sh x):=A.bw λh=>by
 obtain⟨s,o⟩:=x;obtain⟨c,hc,h⟩:=h;change o=some c at hc;subst hc;unfold WG;simp only[Option.getD_some];rw[show oQ.sh (c.2.2.1,s.1)=A.pure (c.2.2.1.contains s.1) from A.bR h _,A.aH]
abbrev uB(c:a6):d_:=(c,fs c,(cQ c).map (iu c))
def Ef(c:a6)(f:Option d_->A Bool):Bool:=(f (some (c,fs c,[]))).val false
def sX(c:a6)(b:Bool):Option d_×Int:=if cP c≠0 then (none,cP c) else if b=false then (none,1) else if cQ c=[] then (none,3) else (some (uB c),0)
abbrev vT:aP:=⟨.az jv (.fn (.bH sK) .bool),.az (.bH sK) bx,λx=>gF x.1/\(cP x.1=0->∃ b,x.2 (some (x.1,fs x.1,[]))=A.pure b),λx=>sX x.1 (Ef x.1 x.2)⟩
theorem amt{c:a6}(aC:gX c):HY ((λs=>AS.sh (s,some c)),gW c.2.1,())=A.pure ((0,(fs c).length),fs c++List.replicate ((gW c.2.1).length - (fs c).length) jw,()):=by
 have af:∀ s,AS.sh (s,some c)=A.pure (c.2.2.1.contains s.1):=λs=>A.bR ⟨c,rfl,by have:=aC.jI;omega⟩ _;have e:((gW c.2.1).filter λs=>!(AS.sh (s,some c)).val false)=fs c:=by
  unfold fs;simp_all
 have:=alG c.2.1;refine (A.bR ⟨show (gW c.2.1).length<2 ^ 63 by omega,λs _=>⟨_,af s⟩⟩ _).trans (congrArg A.pure ?_);grind
set_option maxHeartbeats 1000000 in
theorem amu(x):A.le (Wk h2.sh HW HY (yb 5) AS.sh x) (vT.sh x):=A.bw λh=>by
 obtain⟨c,f⟩:=x;obtain⟨h,ar⟩:=h;change gF c at h;change cP c=0->∃ b,f (some (c,fs c,[]))=A.pure b at ar;unfold Wk;show _=A.pure (sX c (Ef c f));unfold sX;rw[show h2.sh c=A.pure (cP c) from A.bR h.gL _];simp only[A.aH,decide_eq_true_eq];by_cases hc:cP c=0
 ·simp only[hc,ne_eq,not_true_eq_false,if_false];have aC:=oT hc;obtain⟨b,aa⟩:=ar hc;have E:=aC.ee;have hid:=HX aC.iX;rw[show HW (c.2.1,())=A.pure (true,gW c.2.1,()) from A.bR ⟨hid,(AJ _).2 aC.AH⟩ _,A.aH];simp only[A.br];rw[amt aC,A.aH];have pE:List.drop 0 (List.take (fs c).length (fs c++List.replicate ((gW c.2.1).length - (fs c).length) jw))=fs c:=by
   rw[List.drop_zero,List.take_left]
  simp only[pE];unfold Ef;simp only[aa,A.fD,A.aH];cases b with
  | false=>simp
  | true=>
   simp only[Bool.not_true,Bool.false_eq_true,if_false,A.aH,A.b2,reduceCtorEq];simp only[Prod.dc,Prod.fq,Prod.gO,Prod.ir,Prod.jR,Prod.kU,Prod.hP,Prod.nb,Prod.pA,Prod.sI,Prod.x3,Prod.NW,Prod.NX,Prod.NY,Prod.NZ,pE];have nh:yb 5 ([],c.1,c.2.1,c.2.2.1,c.2.2.2.1,c.2.2.2.2.1,c.2.2.2.2.2.1,c.2.2.2.2.2.2.1,c.2.2.2.2.2.2.2.1,c.2.2.2.2.2.2.2.2.1,c.2.2.2.2.2.2.2.2.2.1,c.2.2.2.2.2.2.2.2.2.2,fs c,[],())=A.pure (Ed c (fs c) ((cQ c).map (iu c))):=A.bR ⟨hc,rfl,Nat.zero_le _,show c.1.length<0+5 by omega,rfl,show 0+kj c.1<=60 by have:=h.2 hc;omega⟩ _;rw[nh,A.aH];simp only[bW,List.length_map];by_cases aK:cQ c=[]
   ·simp[aK]
   ·have:¬((cQ c).length:Int)=0:=λe=>aK (List.eq_nil_of_length_eq_zero (by omega));simp only[this,aK,if_false]
 ·simp only[hc,ne_eq,not_false_eq_true,if_true]
def vU(l:List (Option dQ))(f:Option dQ->A (Int×Bool)):Option (Int×Int):=ya (l.filterMap λt=>if ((f t).val (0,false)).2=true then some ((f t).val (0,false)).1 else none)
abbrev AT:aP:=⟨.az (.bH sK) (.fn (.bH x4) (.az bx .bool)),.az mA .bool,λx=>∃ b:d_,x.1=some b/\b.2.2.length<=60/\∀ t∈b.2.2,∃ r,x.2 t=A.pure r,λx=>((vU (x.1.getD (uA,[],[])).2.2 x.2).getD (0,0),(vU (x.1.getD (uA,[],[])).2.2 x.2).isSome)⟩
theorem XO{al β gy:Type}(g:al->Option β)(h:gy->β->gy):∀ (l:List al) (b:gy),l.foldl (λb x=>(g x).elim b λy=>h b y) b=(l.filterMap g).foldl h b
 | [],b=>rfl
 | x::l,b=>by
  simp only[List.foldl_cons,List.filterMap_cons];rw[XO g h l];grind
theorem amv(x):A.le (Wt x) (AT.sh x):=A.bw λh=>by
 obtain⟨o,f⟩:=x;obtain⟨b,aa,ak,ar⟩:=h;change o=some b at aa;subst aa;unfold Wt;show _=A.pure ((vU b.2.2 f).getD (0,0),(vU b.2.2 f).isSome);simp only[Option.isSome_some,A.br,Option.getD_some];change b.2.2.length<=60 at ak;change ∀ t∈b.2.2,∃ r,f t=A.pure r at ar;generalize b.2.2=l at *
 rw[A.dL l (λi (o:Option (Int×Int))=>(f,o.isSome,l,(l.length:Int),(i:Int),o.getD (0,0),())) (λt o=>.next ((if ((f t).val (0,false)).2=true then some ((f t).val (0,false)).1 else none).elim o λn=>some (H4 o n))) (λo=>.next (o.isSome,o.getD (0,0),())) none ?_ ?_ ?_]
 ·rw[ej,XO (λt=>if ((f t).val (0,false)).2=true then some ((f t).val (0,false)).1 else none) (λo n=>some (H4 o n)),A.aH];rfl
 ·rfl
 ·intro i G o;have hw:=bC (n:=(i:Int)+1) (by omega) (by omega);obtain⟨r,M⟩:=ar _ (List.getElem_mem G);simp only[Prod.dc,bW,cZ G,if_true,dm G,cL G,A.br,cm,hw,M,A.aH,A.fD,W.ho];obtain⟨n,cb⟩:=r;cases cb with
  | false=>simp_all
  | true=>
   cases o with
   | none=>simp only[Bool.not_true,Bool.false_eq_true,if_false,if_true,Option.isSome_none,Bool.not_false,A.aH,A.b2,hw,Option.elim];rfl
   | some s=>
    simp only[Bool.not_true,Bool.false_eq_true,if_false,if_true,Option.isSome_some,A.aH,A.b2,hw,Option.elim,Option.getD_some];rw[Xz,alX];rfl
 simp
section
variable {al:Type}
def XP(x:Nat×List (Int×al)×(Nat×(z1'->Prop)×z1'×Bool)×Unit):A ((Nat×(z1'->Prop)×z1'×Bool)×Unit):=
 A.bind (A.pure ()) λy=>A.loop (λ(D:Nat×(Nat×(z1'->Prop)×z1'×Bool)×(Option (Int×al)×List (Int×al))×Unit)=>
 A.bind (Gg D.2.2.1.2) λy=>if Option.isSome y=true then A.bind (A.ae (Option.isSome (nR D.2.2.1.1 D.2.2.1.2 y)=true) (A.pure ())) λbZ
 =>A.bind (A.ae (D.1=D.2.1.1/\D.2.1.2.2.2=false/\∃ (T:z1'),D.2.1.2.1 (D.2.1.2.2.1++Option.getD (Option.map (λx=>x.1) (nR
 D.2.2.1.1 D.2.2.1.2 y)) 0::T)) (A.any λx=>True)) λdv=>if (!dv)=true then A.bind (A.pure ((D.2.1.1,D.2.1.2.1,D.2.1.2.2.1++
 [Option.getD (Option.map (λx=>x.1) (nR D.2.2.1.1 D.2.2.1.2 y)) 0],!dv),())) λr=>A.pure (W.done r) else A.pure (W.next (D.1,(D.2.1.1,D.2.1.2.1,D.2.1.2.2.1++[Option.getD (Option.map (λx=>x.1) (nR D.2.2.1.1 D.2.2.1.2 y)) 0],!dv),(nR D.2.2.1.1 D.2.2.1.2 y,CM D.2.2.1.2 y),())) else A.bind (A.pure (D.2.1,())) λr=>A.pure (W.done r)) (x.1,x.2.2.1,(none,x.2.1),())
theorem XQ{β:Type}:∀ (l:List β) (i:Nat) (h:i<l.length),(l[i]::l.eraseIdx i).Perm l
 | x::l,0,_=>.refl _
 | x::l,i+1,h=>by
  simp only[List.getElem_cons_succ,List.eraseIdx_cons_succ];exact (List.Perm.swap x _ _).trans ((XQ l i (by grind)).cons x)
theorem XR(l:Nat)(m:List (Int×al)):A.cw (XP (l,m,(l,jS (some m),[],false),())) λy=>y.1.2.2.2=false->jS (some m) y.1.2.2.1:=by
 unfold XP;rw[A.aH];refine A.BO (λD=>∃ p c ch,D=(l,(l,jS (some m),p,false),(c,ch),())/\(m.map (·.1)).Perm (p++ch.map (·.1))) (λD=>D.2.2.1.2.length) ?_ _ ⟨[],none,m,rfl,.refl _⟩;rintro D ⟨p,c,ch,rfl,ao⟩;simp only;rw[A.fX];refine⟨trivial,λy aS=>?_⟩;cases y with
 | none=>
  have M:ch=[]:=aS;subst M;simp only[Option.isSome_none,Bool.false_eq_true,if_false,A.aH];refine A.d'.2 λ_=>uv.2 (by grind)
 | some i=>
  have G:i<ch.length:=aS;have aA:nR c ch (some i)=some ch[i]:=List.getElem?_eq_getElem G;have M:CM ch (some i)=ch.eraseIdx i:=rfl;have Eg:(m.map (·.1)).Perm (p++ch[i].1::(ch.eraseIdx i).map (·.1)):=ao.trans (List.Perm.append_left p ((XQ ch i G).symm.map (·.1)));simp only[Option.isSome_some,if_true,aA,M,A.br,A.aH,Option.map_some,Option.getD_some];rw[A.fX,A.kI];refine⟨⟨trivial,trivial,(ch.eraseIdx i).map (·.1),uv.2 Eg⟩,⟨true,trivial⟩,λb _=>?_⟩;cases b with
  | false=>
   simp only[Bool.not_false,if_true,A.aH];exact A.d'.2 λh=>by cases h
  | true=>
   simp only[Bool.not_true,Bool.false_eq_true,if_false];refine A.d'.2 ⟨⟨p++[ch[i].1],some ch[i],ch.eraseIdx i,rfl,by grind⟩,?_⟩;grind
end
theorem amw(l:Nat)(m:z4'):A.cw (N9 (l,m,(l,jS (some m),[],false),())) λy=>y.1.2.2.2=false->jS (some m) y.1.2.2.1:=XR l m
theorem amx(l:Nat)(m:List (Int×ba)):A.cw (N_ (l,m,(l,jS (some m),[],false),())) λy=>y.1.2.2.2=false->jS (some m) y.1.2.2.1:=XR l m
def dA(cl:z4'):List bA->List bA
 | a::b::r=>(a.1,l3 cl a.2 b.2)::dA cl r
 | _=>[]
def Eh(c:a6)(fU:List (List bA)):Prop:=fU.length=10/\∀ l∈fU,l.length<=12/\∀ i,(h:i+1<l.length)->AO (c,l[i].2,l[i+1].2)
def pH(c:a6)(fU:List (List bA)):List bA:=fU.flatMap (dA c.2.2.2.1)
def sY(x:Option (Option dQ)×Option (Option d_))(L:List bA):Prop:=∃ t b,x.1=some (some t)/\x.2=some (some b)/\Eh b.1 t.2/\L=pH b.1 t.2
theorem amy{cl:z4'}{l:List bA}{i:Nat}(h:i+1<l.length):dA cl (l.drop i)=(l[i].1,l3 cl l[i].2 l[i+1].2)::dA cl (l.drop (i+2)):=by
 rw[List.drop_eq_getElem_cons (by omega:i<l.length),List.drop_eq_getElem_cons h];rfl
theorem amz{cl:z4'}{l:List bA}{i:Nat}(h:¬i+1<l.length):dA cl (l.drop i)=[]:=by
 have:(l.drop i).length<=1:=by grind
 match h:l.drop i with
 | []=>rfl
 | [_]=>rfl
 | _::_::_=>grind
set_option maxHeartbeats 1000000 in
theorem amA(fg:Nat)(t:dQ)(b:d_)(h:Eh b.1 t.2):A.cw (HI vQ.sh (fg,some t,some b,(fg,sY (some (some t),some (some b)),[],false),())) λy=>y.1.2.2.2=false->sY (some (some t),some (some b)) y.1.2.2.1:=by
 obtain⟨E,U⟩:=h;have G1:∀ L,sY (some (some t),some (some b)) L<->L=pH b.1 t.2:=λL=>⟨λ⟨c1,be,ay,aN,_,e⟩=>by cases ay;cases aN;exact e,λe=>⟨t,b,rfl,rfl,⟨E,U⟩,e⟩⟩
 generalize sY (some (some t),some (some b))=S at *
 unfold HI;simp only[Option.isSome_some,A.br,Option.getD_some];refine A.BO (λD=>∃ (u:Nat),u<=10/\D=(fg,some b,t.2,(u:Int),(fg,S,(t.2.take u).flatMap (dA b.1.2.2.2.1),false),())) (λD=>(10 - D.2.2.2.1).toNat) ?_ _ ⟨0,by omega,rfl⟩;rintro D ⟨u,hu,rfl⟩;by_cases L1:u<10
 ·have aw:decide ((u:Int)<10)=true:=by simpa using (by omega:(u:Int)<10)
  have sB:u<t.2.length:=by omega
  have amB:=bC (n:=(u:Int)+1) (by omega) (by omega);have hm:=List.getElem_mem sB;obtain⟨ah,aZ⟩:=U _ hm;simp only[aw,if_true,dm sB];rw[A.bz (show (0:Int)<=(u:Int)/\(u:Int)<Int.ofNat 10 by rw[bW];omega)];have fG:pH b.1 t.2=(t.2.take u).flatMap (dA b.1.2.2.2.1)++(dA b.1.2.2.2.1 t.2[u]++(t.2.drop (u+1)).flatMap (dA b.1.2.2.2.1)):=by
   unfold pH;conv=>lhs;rw[<-List.take_append_drop u t.2,List.drop_eq_getElem_cons sB]
   simp only[List.flatMap_append,List.flatMap_cons]
  generalize amC:t.2[u]=jV at *
  generalize (t.2.drop (u+1)).flatMap (dA b.1.2.2.2.1)=R at *
  generalize jq:(t.2.take u).flatMap (dA b.1.2.2.2.1)=P at *
  have amD:(t.2.take (u+1)).flatMap (dA b.1.2.2.2.1)=P++dA b.1.2.2.2.1 jV:=by
   rw[List.take_add_one,List.getElem?_eq_getElem sB,Option.toList_some,List.flatMap_append,jq,amC];simp
  rw[A.fX];refine (A.BO (p:=λz=>match z with | .next z=>z=(fg,some b,t.2,(u:Int),(fg,S,P++dA b.1.2.2.2.1 jV,false),()) | .done z=>(match z with | .next _=>False | .done y=>y.1.2.2.2=true)) (λD=>∃ (i:Nat) (Q:List bA),i<=jV.length+1/\Q++dA b.1.2.2.2.1 (jV.drop i)=dA b.1.2.2.2.1 jV/\D=(fg,some b,jV,(i:Int),t.2,(u:Int),(fg,S,P++Q,false),())) (λD=>(20 - D.2.2.2.1).toNat) ?_ _ ⟨0,[],by omega,by simp,by simp⟩).mono λz bk=>?_
  ·rintro D ⟨i,Q,ox,ud,rfl⟩;have hw:=bC (n:=(i:Int)+1) (by omega) (by omega);have gE:=bC (n:=(i:Int)+2) (by omega) (by omega);by_cases G:i+1<jV.length
   ·have LS:i<jV.length:=by omega
    have aw:decide ((i:Int)+1<(jV.length:Int))=true:=by simpa using (by omega:(i:Int)+1<(jV.length:Int))
    have cK:(0:Int)<=(i:Int)+1/\(i:Int)+1<(jV.length:Int):=⟨by omega,by omega⟩
    have iM:jV.getD ((i:Int)+1).toNat ((0,0,0,0,0,0),0)=jV[i+1]:=by
     rw[show ((i:Int)+1).toNat=i+1 from by omega,sR G]
    have em:vQ.sh (b.1,jV[i].2,jV[i+1].2)=A.pure (l3 b.1.2.2.2.1 jV[i].2 jV[i+1].2):=A.bR (aZ i G) _;simp only[Prod.dc,Prod.fq,bW,cm,hw,aw,if_true,dm LS,cL LS,cK,iM,Option.isSome_some,Option.getD_some,em,A.iS,A.fD,and_self,A.br,decide_true];rw[A.fX,A.kI];have c7:=amy (cl:=b.1.2.2.2.1) G;refine⟨⟨trivial,trivial,dA b.1.2.2.2.1 (jV.drop (i+2))++R,(G1 _).2 ?_⟩,⟨true,trivial⟩,λy _=>?_⟩
    ·rw[fG,<-ud,c7];simp
    ·cases y with
     | false=>
      simp only[Bool.not_false,if_true,A.aH];exact A.d'.2 rfl
     | true=>
      simp only[Bool.not_true,Bool.false_eq_true,if_false,gE];refine A.d'.2 ⟨⟨i+2,Q++[(jV[i].1,l3 b.1.2.2.2.1 jV[i].2 jV[i+1].2)],by omega,?_,?_⟩,?_⟩
      ·rw[<-ud,c7];simp
      ·rw[List.append_assoc];rfl
      ·show (20 - ((i:Int)+2)).toNat<(20 - (i:Int)).toNat;omega
   ·have aw:decide ((i:Int)+1<(jV.length:Int))=false:=by simpa using (by omega:(jV.length:Int)<=(i:Int)+1)
    simp only[bW,cm,hw,aw,Bool.false_eq_true,if_false,A.aH];refine A.d'.2 ?_;rw[amz G,List.append_nil]at ud;show (fg,some b,t.2,(u:Int),(fg,S,P++Q,false),())=_;rw[ud]
  ·cases z with
   | next z=>
    have bk:z=_:=bk;subst bk;simp only[A.b2,cm,amB];refine A.d'.2 ⟨⟨u+1,by omega,?_⟩,?_⟩
    ·rw[amD];rfl
    ·show (10 - ((u:Int)+1)).toNat<(10 - (u:Int)).toNat;omega
   | done z=>
    cases z with
    | next z=>exact absurd bk id
    | done y=>
     have bk:y.1.2.2.2=true:=bk;simp only[A.pw];refine A.d'.2 λh=>?_;rw[bk]at h;cases h
 ·have Nl:u=10:=by omega
  subst Nl;simp only[show decide (((10:Nat):Int)<10)=false from by decide,Bool.false_eq_true,if_false,A.aH];refine A.d'.2 λ_=>(G1 _).2 ?_;show (t.2.take 10).flatMap _=_;rw[<-E,List.take_length];rfl
abbrev AU:aP:=⟨.az (.bH sK) (.bH x4),.cu (.az hq bx),λ_=>True,λx=>sY (some x.2,some x.1)⟩
theorem amE(x):A.le (akB sY x) (AU.sh x):=A.bw λ_=>rfl
end Go.Fer.H
namespace Go.Fer.H
open A (W)
theorem AV{al β:Type}{f:al->β}:∀ {l:List al},(l.map f).Nodup->∀ {a b:al},a∈l->b∈l->f a=f b->a=b
 | [],_,a,b,bb,_,_=>by grind
 | x::l,aA,a,b,bb,aa,e=>by
  rw[List.map_cons,List.nodup_cons]at aA;rcases List.mem_cons.1 bb with E | E<;>rcases List.mem_cons.1 aa with U | U
  ·grind
  ·grind
  ·grind
  ·exact AV aA.2 E U e
theorem amF{l m:z1'}(h:l.Perm m):l.sum=m.sum:=by
 induction h with
 | nil=>rfl
 | cons x _ aJ=>grind
 | swap x y l=>grind
 | trans _ _ E U=>omega
theorem OE{l:List bA}(h:eF l=true){i:Nat}(G:i<l.length):ek l[i].1=1+((i % 2:Nat):Int)/\(0<i->l[i].2≠(l.getD (i - 1) bG).2):=by
 unfold eF at h;rw[List.all_eq_true]at h;have:=h i (by grind);unfold qy at this;grind
theorem XS(cl:z4'):∀ l:List bA,(∀ i,(h:i<l.length)->ek l[i].1=1+((i % 2:Nat):Int))->dA cl l=((ux l).filter λp=>ek p.1.1 == 1).map λp=>(p.1.1,l3 cl p.1.2 p.2.2)
 | [],_=>rfl
 | [_],_=>rfl
 | [a,b],h=>by
  have bb:ek a.1=1:=h 0 (by simp);simp[dA,ux,bb]
 | a::b::c::r,h=>by
  have bb:ek a.1=1:=h 0 (by simp);have aa:ek b.1=2:=h 1 (by simp);have aJ:=XS cl (c::r) λi G=>by
   have:=h (i+2) (by grind);grind
  have e:ux (a::b::c::r)=(a,b)::(b,c)::ux (c::r):=rfl;rw[e,List.filter_cons_of_pos (by grind),List.filter_cons_of_neg (by grind),List.map_cons,<-aJ];rfl
abbrev ni(c:a6)(w:z1'):List bA:=pH c (ng c w)
theorem If(c:a6)(w:z1'):ni c w=(ev 0 9).flatMap λu=>dA c.2.2.2.1 (b8 c w u):=by
 rfl
theorem OF{c:a6}{w:z1'}(hw:iN c w=true){u:Int}(hu:0<=u/\u<=9):gY c w u=b8 c w u:=by
 unfold gY;rw[if_pos (H3 hw hu)]
theorem amG{cl:z4'}{l:List bA}(h:eF l=true)(je:Int):D' cl je l=((dA cl l).find? λp=>p.1.1 == je).map (·.2):=by
 rw[XS cl l λi G=>(OE h G).1];unfold D';rw[List.find?_map,List.find?_filter,Option.map_map];refine congrArg _ (congrArg (λf=>(ux l).find? f) ?_);grind
theorem XT{al β:Type}{f g:al->Option β}:∀ {l:List al},(∀ x∈l,f x=g x)->l.findSome? f=l.findSome? g
 | [],_=>rfl
 | x::l,h=>by
  rw[List.findSome?_cons,List.findSome?_cons,h x (by simp),XT λy aS=>h y (by grind)]
theorem OG{c:a6}{w:z1'}(hw:iN c w=true)(je:Int):jU c w je=((ni c w).find? λp=>p.1.1 == je).map (·.2):=by
 unfold jU;rw[If,List.find?_flatMap,List.map_findSome?];refine XT λu hu=>?_;have hu:=sG.1 hu;rw[OF hw hu,amG (H3 hw hu)];rfl
theorem XU{c:a6}(aC:gX c){w:z1'}(hw:iN c w=true):Eh c (ng c w):=by
 have U:=Eb aC.Om hw;have key:∀ u:Int,0<=u/\u<=9->(b8 c w u).length<=12/\∀ i,(h:i+1<(b8 c w u).length)->AO (c,(b8 c w u)[i].2,(b8 c w u)[i+1].2):=by
  intro u hu;have:=OF hw hu;refine⟨D8 aC w u,?_⟩;have k:=λi=>@XB c aC w U u i;simp only[this]at k;exact k
 refine⟨rfl,λl ak=>?_⟩;simp only[ng,List.mem_cons,List.not_mem_nil,or_false]at ak;rcases ak with rfl | rfl | rfl | rfl | rfl | rfl | rfl | rfl | rfl | rfl<;>exact key _ (by omega)
theorem XV{cl:z4'}:∀ {l:List bA} {p:bA},p∈dA cl l->∃ i,∃ h:i+1<l.length,i % 2=0/\p=(l[i].1,l3 cl l[i].2 l[i+1].2)
 | [],_,h=>by simp[dA]at h
 | [_],_,h=>by simp[dA]at h
 | a::b::r,p,h=>by
  unfold dA at h;rcases List.mem_cons.1 h with rfl | h
  ·exact⟨0,by simp,rfl,rfl⟩
  ·obtain⟨i,G,U,e⟩:=XV h;exact⟨i+2,by grind,by omega,e⟩
theorem XW(cl:z4'):∀ l:List bA,((dA cl l).map (·.1)).Sublist (l.map (·.1))
 | []=>.slnil
 | [_]=>List.nil_sublist _
 | a::b::r=>by
  unfold dA;simp only[List.map_cons];exact ((XW cl r).cons _).cons_cons _
theorem XX(l:List ba):((gW l).map (·.1)).Nodup:=by
 unfold gW;have key:∀ L:z1',L.Nodup->((L.filterMap λid=>l.find? λs=>s.1 == id).map (·.1)).Nodup/\∀ k∈(L.filterMap λid=>l.find? λs=>s.1 == id).map (·.1),k∈L:=by
  grind
 refine (key _ ?_).1;unfold ev;show List.Pairwise _ _;rw[List.pairwise_map];exact (List.pairwise_lt_range).imp λh=>by omega
theorem OH(c:a6):((fs c).map (·.1)).Nodup:=by
 unfold fs;exact (XX c.2.1).sublist (List.filter_sublist.map _)
theorem OI{c:a6}{a b:ba}(bb:a∈fs c)(aa:b∈fs c)(h:a.1=b.1):a=b:=by
 exact AV (OH c) bb aa h
theorem OJ(c:a6)(w:z1')(u:Int):((b8 c w u).map (·.1)).Perm ((fs c).filter λs=>decide (uq s=u)):=by
 unfold b8 oS;refine ((D3 h1 _).map _).trans ?_;rw[List.map_map];exact List.Perm.of_eq (List.map_id' _)
theorem XY{c:a6}{w:z1'}{p:bA}(h:p∈ni c w):∃ u,0<=u/\u<=9/\∃ i,∃ G:i+1<(b8 c w u).length,i % 2=0/\p=((b8 c w u)[i].1,l3 c.2.2.2.1 (b8 c w u)[i].2 (b8 c w u)[i+1].2):=by
 rw[If,List.mem_flatMap]at h;obtain⟨u,hu,ao⟩:=h;obtain⟨i,G,U,e⟩:=XV ao;exact⟨u,(sG.1 hu).1,(sG.1 hu).2,i,G,U,e⟩
theorem AW{c:a6}{w:z1'}{p:bA}(h:p∈ni c w):p.1∈fs c:=by
 obtain⟨u,_,_,i,G,_,rfl⟩:=XY h;exact (D9 (List.getElem_mem (by omega:i<(b8 c w u).length))).1
theorem amH{c:a6}{w:z1'}(hw:iN c w=true){p:bA}(h:p∈ni c w):ek p.1=1:=by
 obtain⟨u,E,U,i,G,ah,rfl⟩:=XY h;have:=(OE (H3 hw ⟨E,U⟩) (by omega:i<(b8 c w u).length)).1;grind
theorem OK(c:a6)(w:z1'):((ni c w).map (·.1)).Nodup:=by
 have hc:(fs c).Nodup:=by
  have:=OH c;exact List.Pairwise.of_map _ (λa b h e=>h (by rw[e])) this
 have hu:∀ u,((dA c.2.2.2.1 (b8 c w u)).map (·.1)).Nodup/\∀ s∈(dA c.2.2.2.1 (b8 c w u)).map (·.1),uq s=u:=by
  intro u;have aD:=XW c.2.2.2.1 (b8 c w u);have ao:=OJ c w u;grind
 rw[If,List.map_flatMap];have key:∀ L:z1',L.Nodup->(L.flatMap λu=>(dA c.2.2.2.1 (b8 c w u)).map (·.1)).Nodup/\∀ s∈(L.flatMap λu=>(dA c.2.2.2.1 (b8 c w u)).map (·.1)),uq s∈L:=by
  grind
 refine (key _ ?_).1;unfold ev;show List.Pairwise _ _;rw[List.pairwise_map];exact (List.pairwise_lt_range).imp λh=>by omega
theorem XZ{al:Type}(yc:al->Int):∀ (l:List al) (n:Int),l.foldl (λn x=>n+yc x) n=n+(l.map yc).sum
 | [],n=>by simp
 | x::l,n=>by simp only[List.foldl_cons,List.map_cons,List.sum_cons];rw[XZ yc l];omega
theorem amI{al:Type}{f g:al->Int}{l:List al}(h:∀ x∈l,f x=g x):(l.map f).sum=(l.map g).sum:=by rw[List.map_congr_left h]
theorem amJ{ψ:bA->Int}:∀ (C:List ba) (H:List bA),(C.map (·.1)).Nodup->(H.map (·.1)).Nodup->(∀ p∈H,p.1∈C)->(C.map λs=>(((H.find? λp=>p.1.1 == s.1).map ψ).getD 0)).sum=(H.map ψ).sum:=by
 intro C H jn mP q6;have e:(H.map ψ).sum=((C.filterMap λs=>H.find? λp=>p.1.1 == s.1).map ψ).sum:=by
  refine amF (List.Perm.map ψ ?_);have amK:H.Nodup:=List.Pairwise.of_map _ (λa b h e=>h (by rw[e])) mP;refine (List.perm_ext_iff_of_nodup amK ?_).2 λp=>?_
  ·have:∀ C:List ba,(C.map (·.1)).Nodup->(C.filterMap λs=>H.find? λp=>p.1.1 == s.1).Nodup/\∀ q∈(C.filterMap λs=>H.find? λp=>p.1.1 == s.1),q.1.1∈C.map (·.1):=by
    grind
   grind
  ·rw[List.mem_filterMap];constructor
   ·intro ao;refine⟨p.1,q6 p ao,?_⟩;have hex:(H.find? λq=>q.1.1 == p.1.1).isSome=true:=List.find?_isSome.2 ⟨p,ao,by simp⟩;obtain⟨q,bq⟩:=Option.isSome_iff_exists.1 hex;have Ei:q.1.1=p.1.1:=by grind
    have vV:=List.mem_of_find?_eq_some bq;have amL:q.1=p.1:=AV jn (q6 q vV) (q6 p ao) Ei;have:q=p:=AV mP vV ao amL;grind
   grind
 rw[e];have:∀ C:List ba,(C.map λs=>(((H.find? λp=>p.1.1 == s.1).map ψ).getD 0)).sum=((C.filterMap λs=>H.find? λp=>p.1.1 == s.1).map ψ).sum:=by
  intro C;induction C with
  | nil=>rfl
  | cons s C aJ=>
   grind
 grind
def uC(c:a6)(g:Int)(p:bA):Int:=if iK p.1=g then ls c.2.2.2.2 p.2 else 0
theorem amM{c:a6}{w:z1'}(hw:iN c w=true)(g:Int):H2 c w g=((ni c w).map (uC c g)).sum:=by
 rw[<-amJ (ψ:=uC c g) (fs c) (ni c w) (OH c) (OK c w) λp ao=>AW ao];unfold H2;have e:(λ(n:Int) (s:ba)=>if (ek s=1/\iK s=g)/\(jU c w (lq s)).isSome=true then n+ls c.2.2.2.2 ((jU c w (lq s)).getD 0) else n)=λn s=>n+(if (ek s=1/\iK s=g)/\(jU c w (lq s)).isSome=true then ls c.2.2.2.2 ((jU c w (lq s)).getD 0) else 0):=by
  grind
 rw[e,XZ,Int.zero_add];refine amI λs aD=>?_;rw[OG hw];cases ar:(ni c w).find? λp=>p.1.1 == lq s with
 | none=>simp
 | some p=>
  have ao:=List.mem_of_find?_eq_some ar;have E:p.1.1=s.1:=by grind
  have U:p.1=s:=OI (AW ao) aD E;have ah:=amH hw ao;rw[U]at ah;simp only[Option.map_some,Option.getD_some,Option.isSome_some,and_true,ah,true_and,uC,U]
theorem AX(c:a6)(b:Bool):((eK c b).2≠0/\(eK c b).1=[]/\sX c b=(none,(eK c b).2))\/(eK c b=(cQ c,0)/\cP c=0/\b=true/\sX c b=(some (uB c),0)):=by
 unfold eK sX;by_cases hc:cP c=0
 ·cases b with
  | false=>left;simp[hc]
  | true=>
   by_cases aK:cQ c=[]
   ·left;simp[hc,aK]
   ·right;simp[hc,aK]
 ·left;simp[hc]
theorem OL{al β:Type}{f g:al->Option β}:∀ {l:List al},(∀ x∈l,f x=g x)->l.filterMap f=l.filterMap g
 | [],_=>rfl
 | x::l,h=>by
  rw[List.filterMap_cons,List.filterMap_cons,h x (by simp),OL λy aS=>h y (by simp[aS])]
theorem X0:uy []=(0,0):=rfl
theorem amN{al:Type}(L:List al)(P:al->Option dQ)(f:Option dQ->A (Int×Bool))(v:al->Int×Bool)(h:∀ w∈L,f (P w)=A.pure (v w)):vU (L.map P) f=ya (L.filterMap λw=>if (v w).2=true then some (v w).1 else none):=by
 unfold vU;rw[List.filterMap_map];refine congrArg ya (OL λw hw=>?_);simp only[Function.comp,h w hw,A.fD]
theorem X1{al:Type}(yc:al->Int)(L:List al):(L.filterMap λw=>if ((yc w,true):Int×Bool).2=true then some ((yc w,true):Int×Bool).1 else none)=L.map yc:=by
 simp only[if_true];rw[<-List.filterMap_eq_map']
theorem OM{c:a6}(ak:(cQ c).length<=60){f:Option dQ->A (Int×Bool)}{v:z1'->Int×Bool}(h:∀ w∈cQ c,f (iu c w)=A.pure (v w)):AT.sh (some (uB c),f)=A.pure ((ya ((cQ c).filterMap λw=>if (v w).2=true then some (v w).1 else none)).getD (0,0),(ya ((cQ c).filterMap λw=>if (v w).2=true then some (v w).1 else none)).isSome):=by
 refine (A.bR ⟨uB c,rfl,show ((cQ c).map (iu c)).length<=60 by simpa using ak,λt aK=>?_⟩ _).trans (congrArg A.pure ?_)
 ·show ((vU ((cQ c).map (iu c)) f).getD (0,0),(vU ((cQ c).map (iu c)) f).isSome)=_;rw[amN _ _ f v h]
 ·obtain⟨w,hw,rfl⟩:=List.mem_map.1 aK;exact⟨_,h w hw⟩
theorem amO:∀ {l:z1'},(ya l).isSome=!l.isEmpty:=by
 intro l;have key:∀ (l:z1') (o:Option (Int×Int)),o.isSome=true->(l.foldl (λo n=>some (H4 o n)) o).isSome=true:=by
  intro l;induction l with
  | nil=>intro o h;exact h
  | cons n l aJ=>intro o _;exact aJ _ rfl
 cases l with
 | nil=>rfl
 | cons n l=>exact key l _ rfl
theorem Ej{c:a6}{f:Option d_->A Bool}{b:Bool}(h:gF c)(ar:cP c=0->f (some (c,fs c,[]))=A.pure b):vT.sh (c,f)=A.pure (sX c b):=by
 refine (A.bR ⟨h,λhc=>⟨b,ar hc⟩⟩ _).trans (congrArg A.pure ?_);show sX c (Ef c f)=sX c b;unfold sX Ef;by_cases hc:cP c=0
 ·rw[ar hc,A.fD]
 ·simp[hc]
theorem Ek{c:a6}(h:gF c)(hc:cP c=0):(cQ c).length<=60:=Nat.le_trans (Ov c _ _) (h.2 hc)
theorem vW{c:a6}{w:z1'}(h:w∈cQ c):iN c w=true:=Ow c _ _ _ h
abbrev AY:aP:=⟨.az hq (.bH bx),dk,λx=>∃ k:Int,x.2=some k/\True,λx=>decide (lq x.1=x.2.getD 0)&&decide (ek x.1=1)⟩
theorem amP(x):A.le (akL x) (AY.sh x):=A.bw λ_=>rfl
abbrev ON:aP:=⟨.az (.bH sK) (.bH bx),dk,λx=>∃ (b:d_) (k:Int),x.2=some k/\x.1=some b/\b.2.1.length<2 ^ 63,λx=>(x.1.getD (uA,[],[])).2.1.any λs=>lq s == x.2.getD 0&&ek s == 1⟩
theorem amQ(x):A.le (WH (jc hq).sh AY.sh x) (ON.sh x):=A.bw λh=>by
 obtain⟨o,k⟩:=x;obtain⟨b,_,_,aa,h⟩:=h;change o=some b at aa;subst aa;unfold WH;simp only[Option.isSome_some,A.br,Option.getD_some];have af:∀ s,AY.sh (s,some (k.getD 0))=A.pure (decide (lq s=k.getD 0)&&decide (ek s=1)):=λs=>A.bR ⟨_,rfl,trivial⟩ _;rw[show (jc hq).sh (b.2.1,λs=>AY.sh (s,some (k.getD 0)))=A.pure (b.2.1.any λs=>(AY.sh (s,some (k.getD 0))).val false) from A.bR ⟨h,λs _=>⟨_,af s⟩⟩ _,A.aH];refine congrArg A.pure ?_;show _=b.2.1.any λs=>lq s == k.getD 0&&ek s == 1;refine congrArg (λp=>b.2.1.any p) ?_;funext s;rw[af,A.fD];rw[Bool.eq_iff_iff];simp
theorem X2{f:Int->A Int}{n:Int}:∀ (L:List bA),(∀ p∈L,p.1.1=n->∃ v,f p.2=A.pure v)->
  jM (λ(D:Int×(Int->A Int)×Int×Bool×Unit) (y:ba×Int)=>A.bind (if decide (y.1.1=D.1)=true then A.bind (D.2.1 y.2) λy=>A.pure (dj.ret,y,true,()) else A.pure
 (dj.normal,D.2.2.1,D.2.2.2.1,())) λp=>A.pure (p.1,D.1,D.2.1,p.2.1,p.2.2.1,())) L (n,f,0,false,())=(L.find? λp=>p.1.1 == n).elim (A.pure (dj.normal,n,f,0,false,())) λp=>A.pure (dj.ret,n,f,(f p.2).val 0,true,())
 | [],_=>rfl
 | p::L,h=>by
  unfold jM;by_cases ao:p.1.1=n
  ·obtain⟨v,af⟩:=h p (by simp) ao;simp[ao,af]
  ·have aJ:=X2 L λq bq=>h q (by simp[bq]);simp only[ao,decide_false,Bool.false_eq_true,if_false,A.aH];rw[aJ,List.find?_cons_of_neg (by simpa using ao)]
abbrev OO:aP:=⟨.az (.bH x4) (.az (.bH (.bH sK)) (.az (.bH bx) (.bH (.fn bx bx)))),.az bx .bool,λx=>∃ (t:dQ) (b:d_) (n:Int) (f:Int->A Int),x=(some t,some (some b),some n,some f)/\Eh b.1 t.2/\∀ p∈pH b.1 t.2,p.1.1=n->∃ v,f p.2=A.pure v,λx=>((pH ((x.2.1.getD none).getD (uA,[],[])).1 (x.1.getD ([],[])).2).find? λp=>p.1.1 == x.2.2.1.getD 0).elim (0,false) λp=>(((x.2.2.2.getD λ_=>A.fail) p.2).val 0,true)⟩
theorem amR(x):A.le (WI AU.sh x) (OO.sh x):=A.sF λh=>by
 obtain⟨t,b,n,f,rfl,E,U⟩:=h;unfold WI;simp only[Option.getD_some];rw[show AU.sh (some b,some t)=A.pure (sY (some (some t),some (some b))) from rfl,A.aH,A.fX];refine⟨⟨_,t,b,rfl,rfl,E,rfl⟩,λL hK=>?_⟩;obtain⟨c1,be,ay,aN,_,rfl⟩:=hK;cases ay;cases aN;rw[X2 (f:=f) (n:=n) _ U];show A.cw _ λy=>y=((pH b.1 t.2).find? λp=>p.1.1 == n).elim (0,false) λp=>((f p.2).val 0,true)
 cases (pH b.1 t.2).find? λp=>p.1.1 == n with
 | none=>simp only[Option.elim,A.aH,so];exact A.d'.2 rfl
 | some p=>simp only[Option.elim,A.aH,so];exact A.d'.2 rfl
abbrev AZ:aP:=⟨.az jv (.az bx (.fn bx bx)),.az mA bx,λx=>gF x.1/\∀ w∈cQ x.1,∀ m,cP x.1=0->jU x.1 w x.2.1=some m->∃ v,x.2.2 m=A.pure v,λx=>(uy ((lu x.1 x.2.1).1.map λm=>(x.2.2 m).val 0),(lu x.1 x.2.1).2)⟩
theorem amS(x):A.le (Wp vT.sh AT.sh ON.sh OO.sh x) (AZ.sh x):=A.bw λh=>by
 obtain⟨c,n,f⟩:=x;obtain⟨h,ar⟩:=h;change gF c at h;change ∀ w∈cQ c,∀ m,cP c=0->jU c w n=some m->∃ v,f m=A.pure v at ar;unfold Wp;show _=A.pure (uy ((lu c n).1.map λm=>(f m).val 0),(lu c n).2);unfold lu;rw[Ej (b:=AR c n) h λhc=>A.bR ⟨(c,fs c,[]),n,rfl,rfl,by have:=(oT hc).Oo;show (fs c).length<2 ^ 63;omega⟩ _];rcases AX c (AR c n) with⟨E,U,ah⟩ | ⟨E,U,ah,aZ⟩
 ·rw[ah];simp only[A.aH];rw[if_pos (by simpa using E),if_pos E];rfl
 ·rw[E,aZ];simp only[A.aH];rw[if_neg (by simp)];have aC:=oT U;rw[OM (v:=λw=>(jU c w n).elim (0,false) λm=>((f m).val 0,true)) (Ek h U) λw hw=>?_,A.aH]
  ·have e:((cQ c).filterMap λw=>if ((jU c w n).elim ((0,false):Int×Bool) λm=>((f m).val 0,true)).2=true then some ((jU c w n).elim ((0,false):Int×Bool) λm=>((f m).val 0,true)).1 else none)=((cQ c).filterMap λw=>jU c w n).map λm=>(f m).val 0:=by
    rw[List.map_filterMap];refine OL λw _=>?_;cases jU c w n<;>rfl
   rw[e,amO];generalize (cQ c).filterMap (λw=>jU c w n)=l;cases l with
   | nil=>rfl
   | cons m l=>simp;rfl
  ·have aK:=vW hw;have vg:=OG aK n;refine (A.bR ⟨(w,ng c w),uB c,n,f,rfl,XU aC aK,λp ao X3=>?_⟩ _).trans (congrArg A.pure ?_)
   ·show ((ni c w).find? λp=>p.1.1 == n).elim (0,false) (λp=>((f p.2).val 0,true))=_;rw[vg];cases (ni c w).find? λp=>p.1.1 == n<;>rfl
   ·refine ar w hw p.2 U ?_;rw[vg];have hex:((ni c w).find? λq=>q.1.1 == n).isSome=true:=List.find?_isSome.2 ⟨p,ao,by simpa using X3⟩;obtain⟨q,bq⟩:=Option.isSome_iff_exists.1 hex;have Ei:q.1.1=n:=by have:=List.find?_some bq;simpa using this
    have vV:=List.mem_of_find?_eq_some bq;have aD:q.1=p.1:=OI (AW vV) (AW ao) (Ei.trans X3.symm);have:q=p:=AV (OK c w) vV ao aD;rw[bq,this];rfl
abbrev yd:aP:=⟨bx,bx,λ_=>True,λx=>x⟩
theorem amT(x):A.le (akA x) (yd.sh x):=A.bw λ_=>rfl
theorem amU(x):A.le (Wd AZ.sh yd.sh x) (H6.sh x):=A.bw λh=>by
 obtain⟨c,n⟩:=x;change gF c at h;unfold Wd;rw[show AZ.sh (c,n,yd.sh)=A.pure (uy ((lu c n).1.map λm=>(yd.sh m).val 0),(lu c n).2) from A.bR ⟨h,λ_ _ m _ _=>⟨m,rfl⟩⟩ _];simp only[A.aH];show _=A.pure (H5 c n);unfold H5;have:((lu c n).1.map λm=>(yd.sh m).val 0)=(lu c n).1:=by
  have:(λm:Int=>(yd.sh m).val 0)=λm=>m:=by
   funext m;exact A.fD
  rw[this,List.map_id']
 rw[this]
abbrev ye:aP:=⟨.az bx (.bH jv),bx,λx=>∃ c:a6,x.2=some c/\x' (c.2.2.2.2,x.1),λx=>ls (x.2.getD uA).2.2.2.2 x.1⟩
theorem amV(x):A.le (Wq vR.sh x) (ye.sh x):=A.bw λh=>by
 obtain⟨m,q⟩:=x;obtain⟨c,hc,h⟩:=h;change q=some c at hc;subst hc;unfold Wq;simp only[Option.getD_some];rw[show vR.sh (c.2.2.2.2,m)=A.pure (ls c.2.2.2.2 m) from A.bR h _,A.aH]
theorem X4{c:a6}(aC:gX c){w:z1'}(hw:iN c w=true){n m:Int}(hm:jU c w n=some m):ye.sh (m,some c)=A.pure (ls c.2.2.2.2 m):=by
 have:=XF aC (Eb aC.Om hw) hm;exact A.bR ⟨c,rfl,aC.On,show -100000<=m by omega,show m<=20000 by omega⟩ _
theorem amW{c:a6}{n m:Int}(hm:m∈(lu c n).1):cP c=0/\∃ w,iN c w=true/\w∈cQ c/\jU c w n=some m:=by
 unfold lu at hm;split at hm
 ·simp at hm
 ·split at hm
  ·simp at hm
  ·rw[List.mem_filterMap]at hm;obtain⟨w,hw,he⟩:=hm;obtain⟨E,U,ah,_⟩:=amb hw;exact⟨E,w,ah,U,he⟩
theorem amX(x):A.le (Wc AZ.sh ye.sh x) (H8.sh x):=A.bw λh=>by
 obtain⟨c,n⟩:=x;change gF c at h;unfold Wc;rw[show AZ.sh (c,n,λm=>ye.sh (m,some c))=A.pure (uy ((lu c n).1.map λm=>(ye.sh (m,some c)).val 0),(lu c n).2) from A.bR ⟨h,λw hw m hc hm=>⟨_,X4 (oT hc) (vW hw) hm⟩⟩ _];simp only[A.aH];show _=A.pure (H7 c n);unfold H7;have:((lu c n).1.map λm=>(ye.sh (m,some c)).val 0)=(lu c n).1.map λm=>ls c.2.2.2.2 m:=by
  refine List.map_congr_left λm hm=>?_;obtain⟨hc,w,hw,_,he⟩:=amW hm;rw[X4 (oT hc) hw he,A.fD]
 rw[this]
abbrev OP:aP:=⟨.az (.bH sK) (.bH bx),dk,λx=>∃ k:Int,x.2=some k/\True,λx=>b4 (x.2.getD 0) 0 99⟩
theorem amY(x):A.le (Wv vI.sh x) (OP.sh x):=A.bw λ_=>by
 unfold Wv;rw[show vI.sh (x.2.getD 0)=A.pure (b4 (x.2.getD 0) 0 99) from rfl,A.aH]
abbrev OQ:aP:=⟨.az (.bH x4) (.az (.bH (.bH sK)) (.az (.bH bx) (.bH jv))),.az bx .bool,λx=>∃ (t:dQ) (b:d_) (n:Int) (c:a6),x=(some t,some (some b),some n,some c)/\Eh b.1 t.2/\(pH b.1 t.2).length<=1000/\∀ p∈pH b.1 t.2,x' (c.2.2.2.2,p.2),λx=>(((pH ((x.2.1.getD none).getD (uA,[],[])).1 (x.1.getD ([],[])).2).map (uC (x.2.2.2.getD uA) (x.2.2.1.getD 0))).sum,true)⟩
theorem OR{c:a6}{n:Int}:∀ (L:List bA) (a:Int),(∀ p∈L,x' (c.2.2.2.2,p.2))->0<=a->a+100000*(L.length:Int)<=1000000000->
  jM (λ(D:Int×a6×Int×Unit) (y:ba×Int)=>A.bind (if decide (y.1.2.2.2.2.2=D.1)=true then A.ae (vR.sh (D.2.1.2.2.2.2,y.2)).cq (A.pure (dj.normal,IntKind.wrap
 .i64 (Add.add D.2.2.1 (A.val (vR.sh (D.2.1.2.2.2.2,y.2)) 0)),())) else A.pure (dj.normal,D.2.2.1,())) λp=>A.pure (p.1,D.1,D.2.1,p.2.1,())) L (n,c,a,())=A.pure (dj.normal,n,c,a+(L.map (uC c n)).sum,())
 | [],a,_,_,_=>by simp[jM]
 | p::L,a,h,aX,E=>by
  unfold jM;simp only[List.length_cons]at E;by_cases ao:p.1.2.2.2.2.2=n
  ·have aa:=al0 (h p (by simp));have af:vR.sh (c.2.2.2.2,p.2)=A.pure (ls c.2.2.2.2 p.2):=A.bR (h p (by simp)) _;have hw:=bC (n:=a+ls c.2.2.2.2 p.2) (by omega) (by omega);have aJ:=OR (c:=c) (n:=n) L (a+ls c.2.2.2.2 p.2) (λq bq=>h q (by simp[bq])) (by omega) (by omega);simp only[ao,decide_true,if_true,af,A.iS,A.fD,A.br,cm,hw,A.aH];simp only[cm]at aJ;rw[aJ,List.map_cons,List.sum_cons];rw[show uC c n p=ls c.2.2.2.2 p.2 from if_pos ao];rw[Int.add_assoc]
  ·have aJ:=OR (c:=c) (n:=n) L a (λq bq=>h q (by simp[bq])) aX (by omega);simp only[ao,decide_false,Bool.false_eq_true,if_false,A.aH];rw[aJ,List.map_cons,List.sum_cons];rw[show uC c n p=0 from if_neg ao,Int.zero_add]
theorem amZ(x):A.le (Wx vR.sh AU.sh x) (OQ.sh x):=A.sF λh=>by
 obtain⟨t,b,n,c,rfl,E,U,ah⟩:=h;unfold Wx;simp only[Option.getD_some];rw[show AU.sh (some b,some t)=A.pure (sY (some (some t),some (some b))) from rfl,A.aH,A.fX];refine⟨⟨_,t,b,rfl,rfl,E,rfl⟩,λL hK=>?_⟩;obtain⟨c1,be,ay,aN,_,rfl⟩:=hK;cases ay;cases aN;rw[OR _ 0 ah (by omega) (by omega)];show A.cw _ λy=>y=(((pH b.1 t.2).map (uC c n)).sum,true)
 simp only[A.aH,so,Int.zero_add];exact A.d'.2 rfl
theorem X5(cl:z4'):∀ l:List bA,(dA cl l).length<=l.length
 | []=>by simp[dA]
 | [_]=>by simp[dA]
 | a::b::r=>by unfold dA;simp only[List.length_cons];have:=X5 cl r;omega
theorem am0{c:a6}(aC:gX c)(w:z1'):(ni c w).length<=1000:=by
 rw[If];have:=Ou (λu=>dA c.2.2.2.1 (b8 c w u)) 12 (ev 0 9) λu _=>Nat.le_trans (X5 _ _) (D8 aC w u);rw[show (ev 0 9).length=10 from by decide]at this;omega
theorem am1{c:a6}(aC:gX c){w:z1'}(hw:iN c w=true){p:bA}(ao:p∈ni c w):x' (c.2.2.2.2,p.2):=by
 have hex:((ni c w).find? λq=>q.1.1 == p.1.1).isSome=true:=List.find?_isSome.2 ⟨p,ao,by simp⟩;obtain⟨q,bq⟩:=Option.isSome_iff_exists.1 hex;have Ei:q.1.1=p.1.1:=by have:=List.find?_some bq;simpa using this
 have vV:=List.mem_of_find?_eq_some bq;have:q=p:=AV (OK c w) vV ao (OI (AW vV) (AW ao) Ei);have af:jU c w p.1.1=some p.2:=by rw[OG hw,bq,this];rfl
 have:=XF aC (Eb aC.Om hw) af;exact⟨aC.On,show -100000<=p.2 by omega,show p.2<=20000 by omega⟩
theorem am2(x):A.le (Wf vT.sh AT.sh OP.sh OQ.sh x) (H_.sh x):=A.bw λh=>by
 obtain⟨c,g⟩:=x;change gF c at h;unfold Wf;show _=A.pure (H9 c g);unfold H9;rw[Ej (b:=b4 g 0 99) h λhc=>A.bR ⟨g,rfl,trivial⟩ _];rcases AX c (b4 g 0 99) with⟨E,U,ah⟩ | ⟨E,U,ah,aZ⟩
 ·rw[U,ah];simp only[A.aH,List.map_nil,X0];rw[if_pos (by simpa using E)]
 ·rw[E,aZ];simp only[A.aH];rw[if_neg (by simp)];have aC:=oT U;rw[OM (v:=λw=>(H2 c w g,true)) (Ek h U) λw hw=>?_,A.aH,X1]
  ·rfl
  ·have aK:=vW hw;refine (A.bR ⟨(w,ng c w),uB c,g,c,rfl,XU aC aK,am0 aC w,λp ao=>am1 aC aK ao⟩ _).trans (congrArg A.pure ?_);show (((ni c w).map (uC c g)).sum,true)=_;rw[amM aK]
def mB(t:Int):List bA->bA×Bool->bA×Bool
 | [],b=>b
 | e::l,b=>mB t l (if e.2<=t then (e,decide (ek e.1=1)) else b)
def gZ(l:List bA)(t:Int):bA×Bool:=mB t l (bG,false)
theorem X6{t:Int}{e:bA}{l:List bA}{b:bA×Bool}(h:e.2<=t):mB t (e::l) b=mB t l (e,decide (ek e.1=1)):=by rw[mB,if_pos h]
theorem X7{t:Int}{e:bA}{l:List bA}{b:bA×Bool}(h:¬e.2<=t):mB t (e::l) b=mB t l b:=by rw[mB,if_neg h]
theorem X8(t:Int):∀ (l:List bA) (b:bA×Bool),l.foldl (λb e=>if e.2<=t then (e,decide (ek e.1=1)) else b) b=mB t l b
 | [],_=>rfl
 | e::l,b=>X8 t l _
theorem am3(l:List bA)(t:Int)(h:∀ e∈l,ek e.1=1\/ek e.1=2):nd l t=(if (gZ l t).2=true then iK (gZ l t).1.1 else -1,(gZ l t).1.2):=by
 have key:∀ (l:List bA) (b:bA×Bool),(∀ e∈l,ek e.1=1\/ek e.1=2)->l.foldl (λb e=>if e.2<=t then (if ek e.1=2 then (-1,e.2) else (iK e.1,e.2)) else b) (if b.2=true then iK b.1.1 else -1,b.1.2)=(if (mB t l b).2=true then iK (mB t l b).1.1 else -1,(mB t l b).1.2):=by
  intro l;induction l with
  | nil=>intro b _;rfl
  | cons e l aJ=>
   intro b h;rw[List.foldl_cons];by_cases he:e.2<=t
   ·rw[X6 he,<-aJ (e,decide (ek e.1=1)) λx ai=>h x (by grind),if_pos he];grind
   ·rw[X7 he,if_neg he];grind
 exact key l (bG,false) h
theorem X9(l:List bA)(t:Int):gZ l t=(bG,false)\/((gZ l t).1∈l/\(gZ l t).1.2<=t/\(gZ l t).2=decide (ek (gZ l t).1.1=1)):=by
 have key:∀ (l:List bA) (b:bA×Bool),mB t l b=b\/((mB t l b).1∈l/\(mB t l b).1.2<=t/\(mB t l b).2=decide (ek (mB t l b).1.1=1)):=by
  intro l;induction l with
  | nil=>intro b;exact .inl rfl
  | cons e l aJ=>
   intro b;by_cases he:e.2<=t
   ·rw[X6 he];grind
   ·rw[X7 he];grind
 exact key l (bG,false)
abbrev OS(t:dQ):Prop:=t.2.length=10/\∀ l∈t.2,l.length<=12
abbrev yf:aP:=⟨.az (.bH x4) (.az bx bx),.az HM .bool,λx=>∃ t:dQ,x.1=some t/\OS t/\0<=x.2.1/\x.2.1<=9,λx=>gZ ((x.1.getD ([],[])).2.getD x.2.1.toNat []) x.2.2⟩
theorem am4(x):A.le (Wn x) (yf.sh x):=A.bw λh=>by
 obtain⟨o,u,m⟩:=x;obtain⟨t,E,⟨U,ah⟩,aZ,bM⟩:=h;change o=some t at E;change 0<=u at aZ;change u<=9 at bM;subst E;unfold Wn;show _=A.pure (gZ (t.2.getD u.toNat []) m);simp only[Option.isSome_some,A.br,Option.getD_some];rw[A.bz (show (0:Int)<=u/\u<Int.ofNat 10 by grind)];have hm:t.2.getD u.toNat []∈t.2:=xW aZ (by omega);have ak:=ah _ hm;generalize t.2.getD u.toNat []=l at *
 rw[A.dL l (λi (b:bA×Bool)=>(m,b.2,l,(l.length:Int),(i:Int),bG,b.1,())) (λe b=>.next (if e.2<=m then (e,decide (ek e.1=1)) else b)) (λb=>.next (b.2,bG,b.1,())) (bG,false) ?_ ?_ ?_]
 ·rw[ej,A.aH,X8];rfl
 ·rfl
 ·intro i G b;have hw:=bC (n:=(i:Int)+1) (by omega) (by omega);simp only[Prod.dc,Prod.fq,bW,cZ G,if_true,dm G,cL G,A.br,cm,hw,W.ho,decide_eq_true_eq];by_cases he:l[i].2<=m
  ·simp_all
  ·simp only[he,if_false,A.aH,A.b2,hw];rfl
 simp
theorem X_(c:a6)(w:z1'){u:Int}(aX:0<=u)(h:u<=9):(ng c w).getD u.toNat []=b8 c w u:=by
 have hu:u=0\/u=1\/u=2\/u=3\/u=4\/u=5\/u=6\/u=7\/u=8\/u=9:=by omega
 rcases hu with rfl | rfl | rfl | rfl | rfl | rfl | rfl | rfl | rfl | rfl<;>rfl
theorem X'{c:a6}(aC:gX c)(w:z1'):OS (w,ng c w):=by
 refine⟨rfl,λl ak=>?_⟩;simp only[ng,List.mem_cons,List.not_mem_nil,or_false]at ak;rcases ak with rfl | rfl | rfl | rfl | rfl | rfl | rfl | rfl | rfl | rfl<;>exact D8 aC w _
theorem Ya{c:a6}(aC:gX c)(w:z1'){u t:Int}(aX:0<=u)(h:u<=9):yf.sh (iu c w,u,t)=A.pure (gZ (b8 c w u) t):=by
 refine (A.bR ⟨_,rfl,X' aC w,aX,h⟩ _).trans (congrArg A.pure ?_);show gZ ((ng c w).getD u.toNat []) t=_;rw[X_ c w aX h]
theorem am5{c:a6}(aC:gX c){w:z1'}{u:Int}{e:bA}(he:e∈b8 c w u):ek e.1=1\/ek e.1=2/\iK e.1=0:=(AM.1 (aC.AN (D9 he).1)).2.2.2.2.2
theorem OT{c:a6}(aC:gX c){w:z1'}{u:Int}{e:bA}(he:e∈b8 c w u):0<=iK e.1/\iK e.1<=99:=(AM.1 (aC.AN (D9 he).1)).2.2.2.2.1
theorem Ig{c:a6}(aC:gX c){w:z1'}(hw:iN c w=true){u:Int}(hu:0<=u/\u<=9)(t:Int):nd (gY c w u) t=(if (gZ (b8 c w u) t).2=true then iK (gZ (b8 c w u) t).1.1 else -1,(gZ (b8 c w u) t).1.2)/\(decide ((nd (gY c w u) t).1>=0)=(gZ (b8 c w u) t).2):=by
 have e:=am3 (b8 c w u) t λe he=>(am5 aC he).imp id And.left;rw[OF hw hu];refine⟨e,?_⟩;rw[e];cases aa:(gZ (b8 c w u) t).2 with
 | false=>simp
 | true=>
  simp only[if_true,decide_eq_true_eq];rcases X9 (b8 c w u) t with h | ⟨h,_⟩
  ·grind
  ·exact (OT aC h).1
abbrev A0:aP:=⟨.az (.bH sK) (.bH bx),dk,λx=>∃ k:Int,x.2=some k/\True,λx=>b4 (x.2.getD 0) 0 9999⟩
theorem Yb(x):A.le (Ws x7.sh x) (A0.sh x):=A.bw λ_=>by
 unfold Ws;rw[show x7.sh (x.2.getD 0)=A.pure (b4 (x.2.getD 0) 0 9999) from rfl,A.aH]
theorem am6(x):A.le (akI x7.sh x) (A0.sh x):=Yb x
def El(t:dQ)(m p:Int):Int:=(ev 0 9).foldl (λn u=>if (gZ (t.2.getD u.toNat []) m).2=true then n+p else n) 0
abbrev OU:aP:=⟨.az (.bH x4) (.az (.bH bx) (.bH jv)),.az bx .bool,λx=>∃ (t:dQ) (m:Int) (c:a6),x=(some t,some m,some c)/\OS t/\0<=c.2.2.2.2.2.2.2.2.2.2/\c.2.2.2.2.2.2.2.2.2.2<=100000,λx=>(El (x.1.getD ([],[])) (x.2.1.getD 0) (x.2.2.getD uA).2.2.2.2.2.2.2.2.2.2,true)⟩
theorem am7(x):A.le (Wu yf.sh x) (OU.sh x):=A.bw λh=>by
 obtain⟨t,m,c,rfl,E,U,ah⟩:=h;unfold Wu;simp only[Option.getD_some];show _=A.pure (El t m c.2.2.2.2.2.2.2.2.2.2,true);rw[A.f_ (ev 0 9) (λi (n:Int)=>(some t,m,c,n,(i:Int),())) (λu n=>.next (if (gZ (t.2.getD u.toNat []) m).2=true then n+c.2.2.2.2.2.2.2.2.2.2 else n)) (λn=>.next (n,())) (λi n=>0<=n/\n<=100000*(i:Int)) 0 ?_ ?_ ?_ ?_]
 ·rw[ej,A.aH];rfl
 ·rfl
 ·omega
 ·intro i G n aA;have G:i<10:=by simpa [ev]using G
  have hw:=bC (n:=(i:Int)+1) (by omega) (by omega);have gE:=bC (n:=n+c.2.2.2.2.2.2.2.2.2.2) (by omega) (by omega);have aw:decide ((i:Int)<10)=true:=by grind
  refine⟨?_,λbe cW=>?_⟩
  ·simp only[aw,if_true,DI,Int.zero_add];rw[show yf.sh (some t,(i:Int),m)=A.pure (gZ (t.2.getD ((i:Int)).toNat []) m) from A.bR ⟨t,rfl,E,by simp,by grind⟩ _];simp only[A.aH,cm,hw,gE,W.ho];by_cases an:(gZ (t.2.getD ((i:Int)).toNat []) m).2=true
   ·simp only[an,if_true,A.aH,A.b2,hw];rfl
   ·simp only[an,Bool.false_eq_true,if_false,A.aH,A.b2,hw];rfl
  grind
 ·intro n aA;have:(ev 0 9).length=10:=by decide
  simp[this]
theorem am8{c:a6}(aC:gX c){w:z1'}(hw:iN c w=true)(m:Int):El (w,ng c w) m c.2.2.2.2.2.2.2.2.2.2=H0 c w m*c.2.2.2.2.2.2.2.2.2.2:=by
 unfold El H0;have key:∀ (L:z1') (n:Int),(∀ u∈L,0<=u/\u<=9)->L.foldl (λn u=>if (gZ ((ng c w).getD u.toNat []) m).2=true then n+c.2.2.2.2.2.2.2.2.2.2 else n) (n*c.2.2.2.2.2.2.2.2.2.2)=(L.foldl (λn u=>if (nd (gY c w u) m).1>=0 then n+1 else n) n)*c.2.2.2.2.2.2.2.2.2.2:=by
  intro L;induction L with
  | nil=>simp
  | cons u L aJ=>
   intro n h;have hu:=h u (by simp);obtain⟨_,U⟩:=Ig aC hw hu m;simp only[List.foldl_cons];rw[X_ c w hu.1 hu.2];grind
 have:=key (ev 0 9) 0 λu hu=>sG.1 hu;grind
theorem am9(x):A.le (We vT.sh AT.sh A0.sh OU.sh x) (Ib.sh x):=A.bw λh=>by
 obtain⟨c,t⟩:=x;change gF c at h;unfold We;show _=A.pure (Ia c t);unfold Ia;rw[Ej (b:=b4 t 0 9999) h λhc=>A.bR ⟨t,rfl,trivial⟩ _];rcases AX c (b4 t 0 9999) with⟨E,U,ah⟩ | ⟨E,U,ah,aZ⟩
 ·rw[U,ah];simp only[A.aH,List.map_nil,X0];grind
 ·rw[E,aZ];simp only[A.aH];rw[if_neg (by simp)];have aC:=oT U;have ao:=(HZ.1 aC.On).2.2.2.2.2.2;rw[OM (v:=λw=>(H0 c w t*c.2.2.2.2.2.2.2.2.2.2,true)) (Ek h U) λw hw=>?_,A.aH,X1]
  ·rfl
  ·refine (A.bR ⟨(w,ng c w),t,c,rfl,X' aC w,ao.1,ao.2⟩ _).trans (congrArg A.pure ?_);show (El (w,ng c w) t c.2.2.2.2.2.2.2.2.2.2,true)=_;rw[am8 aC (vW hw)]
theorem Yc(p:Int×Int)(m:z4')(k v:Int):fb (p::m) k v=if decide (k=p.1)=true then (p.1,v)::m else p::fb m k v:=rfl
theorem OV(k v:Int):∀ m:z4',((m.map (·.1)).Nodup->((fb m k v).map (·.1)).Nodup)/\∀ x,x∈(fb m k v).map (·.1)<->x∈m.map (·.1)\/x=k
 | []=>by
  rw[show fb [] k v=[(k,v)] from rfl];simp
 | p::m=>by
  obtain⟨E,U⟩:=OV k v m;rw[Yc];grind
theorem Yd(k v:Int){B:Int}:∀ m:z4',(∀ p∈m,0<=p.2/\p.2<=B)->0<=v/\v<=B->∀ p∈fb m k v,0<=p.2/\p.2<=B
 | [],_,af,p,ao=>by
  rw[show fb [] k v=[(k,v)] from rfl,List.mem_singleton]at ao;grind
 | q::m,h,af,p,ao=>by
  rw[Yc]at ao;split at ao
  ·grind
  ·rcases List.mem_cons.1 ao with rfl | ao
   ·grind
   ·exact Yd k v m (λx ai=>h x (by grind)) af p ao
def lv(c:a6)(w:z1')(u t:Int):Int:=if (gZ (b8 c w u) t).2=true then iK (gZ (b8 c w u) t).1.1 else -1
def yg(m:z4')(k:Int):Int:=Option.getD (Option.map (λx=>x.2) (List.find? (λp=>decide (k=p.1)) m)) 0
structure A1(L:z1')(i:Nat)(m:z4'):Prop where
 mu:(m.map (·.1)).Nodup
 mem:∀ x,x∈m.map (·.1)<->x∈L
 val:∀ p∈m,0<=p.2/\p.2<=(i:Int)
theorem A1.add{L:z1'}{i:Nat}{m:z4'}(h:A1 L i m)(k:Int)(G:i<=60):IntKind.wrap .i64 (yg m k+1)=yg m k+1/\A1 (L++[k]) (i+1) (fb m k (yg m k+1)):=by
 have aa:0<=yg m k/\yg m k<=(i:Int):=by
  unfold yg;cases ar:m.find? λp=>decide (k=p.1) with
  | none=>simp
  | some p=>exact h.val p (List.mem_of_find?_eq_some ar)
 refine⟨bC (by omega) (by omega),(OV _ _ _).1 h.mu,λx=>?_,Yd _ _ _ (λp ao=>by have:=h.val p ao;omega) (by omega)⟩;rw[(OV _ _ _).2,h.mem];simp
theorem am_{c:a6}(aC:gX c){w:z1'}(hw:iN c w=true){u:Int}(hu:0<=u/\u<=9):((b8 c w u).filter λe=>ek e.1 == 1).length<=11:=by
 have ak:=D8 aC w u;by_cases ax2:(b8 c w u).length=12
 ·have E:=(OE (H3 hw hu) (by omega:1<(b8 c w u).length)).1;have E:ek (b8 c w u)[1].1=2:=E;have hm:=List.getElem_mem (by omega:1<(b8 c w u).length);have:((b8 c w u).filter λe=>ek e.1 == 1).length<(b8 c w u).length:=by
   refine List.length_filter_lt_length_iff_exists.2 ⟨_,hm,by grind⟩
  omega
 grind
theorem am'(c:a6)(w w':z1')(u:Int):(((b8 c w u).filter λe=>ek e.1 == 1).map (·.1)).Perm (((b8 c w' u).filter λe=>ek e.1 == 1).map (·.1)):=by
 have e:∀ w,((b8 c w u).filter λe=>ek e.1 == 1).map (·.1)=((b8 c w u).map (·.1)).filter λs=>ek s == 1:=λw=>by rw[List.filter_map];rfl
 rw[e,e];exact ((OJ c w u).trans (OJ c w' u).symm).filter _
theorem OW(c:a6)(w:z1')(u t:Int):lv c w u t=-1\/∃ s∈((b8 c w u).filter λe=>ek e.1 == 1).map (·.1),lv c w u t=iK s:=by
 unfold lv;rcases X9 (b8 c w u) t with h | ⟨E,U,ah⟩
 ·left;rw[h];rfl
 ·by_cases aa:(gZ (b8 c w u) t).2=true
  ·right;rw[if_pos aa];rw[ah]at aa;exact⟨_,List.mem_map.2 ⟨_,List.mem_filter.2 ⟨E,by simpa using aa⟩,rfl⟩,rfl⟩
  ·left;rw[if_neg aa]
theorem ana{c:a6}(aC:gX c){u t:Int}(hu:0<=u/\u<=9){K:z1'}(aA:K.Nodup)(iH:∀ x∈K,x∈(cQ c).map λw=>lv c w u t):K.length<=12:=by
 cases aV:cQ c with
 | nil=>
  rw[aV]at iH;cases K with
  | nil=>simp
  | cons x K=>have:=iH x (by simp);grind
 | cons w0 T=>
  have Ah:iN c w0=true:=vW (by grind);have q6:K ⊆ -1::(((b8 c w0 u).filter λe=>ek e.1 == 1).map (·.1)).map iK:=by
   intro x ai;obtain⟨w,hw,rfl⟩:=List.mem_map.1 (iH x ai);rcases OW c w u t with h | ⟨s,aD,h⟩
   ·grind
   ·rw[h];exact List.mem_cons_of_mem _ (List.mem_map_of_mem ((am' c w w0 u).mem_iff.1 aD))
  have:=aA.length_le_of_subset q6;have ax3:=am_ aC Ah hu;grind
abbrev OX:aP:=⟨.az (.bH sK) (.az (.bH bx) (.bH bx)),dk,λx=>∃ a b:Int,x.2=(some a,some b),λx=>vS (x.2.1.getD 0) (x.2.2.getD 0)⟩
theorem anb(x):A.le (Wl ct.sh x7.sh x) (OX.sh x):=A.bw λ_=>by
 unfold Wl;rw[amc,A.aH,show x7.sh (x.2.2.getD 0)=A.pure (b4 (x.2.2.getD 0) 0 9999) from rfl,A.kA,A.aH,vA];rfl
theorem Ye{c:a6}(aC:gX c){w:z1'}(hw:iN c w=true){u:Int}(hu:0<=u/\u<=9)(t:Int):(nd (gY c w u) t).1=lv c w u t:=by rw[(Ig aC hw hu t).1];rfl
theorem anc(x):A.le (Wb vT.sh yf.sh sN.sh HU.sh OX.sh x) (Ic.sh x):=A.sF λh=>by
 obtain⟨c,u,t⟩:=x;change gF c at h;unfold Wb;show A.cw _ λy=>y=rC c u t;unfold rC Ox;rw[Ej (b:=vS u t) h λhc=>A.bR ⟨u,t,rfl⟩ _];rcases AX c (vS u t) with⟨E,U,ah⟩ | ⟨E,U,ah,aZ⟩
 ·rw[U,ah];simp only[A.aH];rw[if_pos (by grind)];refine A.d'.2 ?_;simp
 ·rw[E,aZ];simp only[A.aH];rw[if_neg (by simp)];have aC:=oT U;have cC:(0<=u/\u<=9)/\0<=t/\t<=9999:=by
   unfold vS at ah;rw[Bool.and_eq_true,oP,oP]at ah;exact ah
  have hu:=cC.1;have hlen:=Ek h U;simp only[Option.isSome_some,A.br,Option.getD_some];show A.cw (A.bind (A.loop _ ((cQ c).map (iu c),_,0,u,t,[],())) _) _;rw[A.fX];refine (A.BO (p:=λz=>∃ m,z=.next (m,())/\A1 ((cQ c).map λw=>lv c w u t) 60 m) (λD=>∃ (i:Nat) (m:z4'),i<=(cQ c).length/\D=((cQ c).map (iu c),(((cQ c).map (iu c)).length:Int),(i:Int),u,t,m,())/\A1 (((cQ c).take i).map λw=>lv c w u t) i m) (λD=>((cQ c).length - D.2.2.1).toNat) ?_ _ ⟨0,[],Nat.zero_le _,rfl,⟨.nil,by simp,by simp⟩⟩).mono ?_
  ·rintro D ⟨i,m,ox,rfl,bn⟩;by_cases G:i<(cQ c).length
   ·have dA:i<((cQ c).map (iu c)).length:=by grind
    have hw:=bC (n:=(i:Int)+1) (by omega) (by omega);have hm:=List.getElem_mem G;obtain⟨b9,a2⟩:=bn.add (lv c (cQ c)[i] u t) (by omega);have pE:((cQ c).take (i+1)).map (λw=>lv c w u t)=((cQ c).take i).map (λw=>lv c w u t)++[lv c (cQ c)[i] u t]:=by
     rw[List.take_add_one,List.getElem?_eq_getElem G,Option.toList_some,List.map_append];rfl
    simp only[Prod.dc,bW,cZ dA,if_true,dm dA,cL dA,A.br,List.getElem_map];rw[Ya aC _ hu.1 hu.2,A.aH];have fin:∀ k,k=lv c (cQ c)[i] u t->(∃ (k9:Nat) (dx:z4'),k9<=(cQ c).length/\(((cQ c).map (iu c),(((cQ c).map (iu c)).length:Int),IntKind.wrap .i64 ((i:Int)+1),u,t,fb m k (IntKind.wrap .i64 (yg m k+1)),()):List (Option dQ)×Int×Int×Int×Int×z4'×Unit)=((cQ c).map (iu c),(((cQ c).map (iu c)).length:Int),(k9:Int),u,t,dx,())/\A1 (((cQ c).take k9).map λw=>lv c w u t) k9 dx)/\((cQ c).length - IntKind.wrap .i64 ((i:Int)+1)).toNat<((cQ c).length - (i:Int)).toNat:=by
     grind
    cases aa:(gZ (b8 c (cQ c)[i] u) t).2 with
    | true=>
     simp only[if_true];rw[A.aH,A.b2];exact A.d'.2 (fin _ (by unfold lv;grind))
    | false=>
     simp only[Bool.false_eq_true,if_false];rw[A.aH,A.b2];exact A.d'.2 (fin (-1) (by unfold lv;grind))
   ·have ane:i=(cQ c).length:=by omega
    subst ane;have aw:decide (((cQ c).length:Int)<(((cQ c).map (iu c)).length:Int))=false:=by simp
    simp only[aw,Bool.false_eq_true,if_false,A.aH];refine A.d'.2 ⟨m,rfl,bn.mu,?_,λp ao=>by have:=bn.val p ao;omega⟩;have:=bn.mem;grind
  ·rintro z ⟨m,rfl,bn⟩;rw[A.b2];rw[show HU.sh m=A.pure (jS (some m)) from rfl,A.aH];have anf:m.length<=12:=by
    have:=ana aC hu (t:=t) bn.mu λx ai=>(bn.mem x).1 ai;grind
   rw[show sN.sh (jS (some m))=A.pure (fr hs (m.map (·.1))) from (A.bR (Xj (by omega)) _).trans (congrArg A.pure Xk),A.aH];refine A.d'.2 ?_;have ay:fr hs (m.map (·.1))=(ev (-1) 99).filter λg=>((cQ c).map λw=>(nd (gY c w u) t).1).contains g:=by
    have ang:((cQ c).map λw=>(nd (gY c w u) t).1)=(cQ c).map λw=>lv c w u t:=List.map_congr_left λw hw=>Ye aC (vW hw) hu t;rw[ang];have G:(ev (-1) 99).Pairwise (·<·):=by
     unfold ev;rw[List.pairwise_map];exact (List.pairwise_lt_range).imp λh=>by omega
    refine AA ((G.filter _).imp λh=>Int.le_of_lt h) ((List.perm_ext_iff_of_nodup bn.mu ((G.filter _).imp λh=>by omega)).2 λk=>?_);rw[bn.mem,List.mem_filter,sG];simp only[List.contains_iff_mem];refine⟨λan=>⟨?_,an⟩,λan=>an.2⟩;obtain⟨w,hw,rfl⟩:=List.mem_map.1 an;rcases OW c w u t with h | ⟨s,aD,h⟩
    ·omega
    ·rw[h];obtain⟨e,he,rfl⟩:=List.mem_map.1 aD;have:=OT aC (List.mem_filter.1 he).1;omega
   rw[ay]
def OY(c:a6)(l:List bA)(t:Int):Bool:=(gZ l t).2&&decide (l3 c.2.2.2.1 (gZ l t).1.2 t>=c.2.2.2.2.2.2.2.2.1)
theorem anh{c:a6}(aC:gX c){w:z1'}(hw:iN c w=true){u:Int}(hu:0<=u/\u<=9)(t:Int):OY c (b8 c w u) t=Ec c w u t:=by
 obtain⟨E,U⟩:=Ig aC hw hu t;unfold OY Ec;grind
theorem ani(x):A.le (Wj vT.sh yf.sh vQ.sh A0.sh x) (Ie.sh x):=A.bw λh=>by
 obtain⟨c,t⟩:=x;change gF c at h;unfold Wj;show _=A.pure (sU c t);unfold sU;rw[Ej (b:=b4 t 0 9999) h λhc=>A.bR ⟨t,rfl,trivial⟩ _];rcases AX c (b4 t 0 9999) with⟨E,U,ah⟩ | ⟨E,U,ah,aZ⟩
 ·rw[ah];simp only[A.aH];grind
 ·rw[E,aZ];simp only[A.aH];rw[if_neg (by simp),if_neg (by simp)];have aC:=oT U;have aK:=oP.1 ah;have hlen:=Ek h U;have aV:∀ w∈cQ c,iN c w=true:=λw hw=>vW hw;rw[A.f_ (ev 0 9) (λi (b:z1'×z1')=>(some (uB c),(i:Int),c,t,b.1,b.2,())) (λu b=>.next (if decide (oU c (cQ c) u t=(cQ c).length)=true then b.1++[u] else b.1,if decide (oU c (cQ c) u t > 0)=true then b.2++[u] else b.2)) (λb=>.next (b.1,b.2,())) (λi b=>b.1.length<=i/\b.2.length<=i) ([],[]) ?_ (by simp) ?_ ?_]
  ·rw[ej,A.aH,A.b2];have key:∀ (p q:Int->Bool) (l:z1') (a b:z1'),l.foldl (λ(z:z1'×z1') u=>(if p u=true then z.1++[u] else z.1,if q u=true then z.2++[u] else z.2)) (a,b)=(a++l.filter p,b++l.filter q):=by
    intro p q l;induction l with
    | nil=>simp
    | cons u l aJ=>
     intro a b;simp only[List.foldl_cons];rw[aJ];cases ao:p u<;>cases bq:q u<;>simp[ao,bq]
   rw[key (λu=>decide (oU c (cQ c) u t=(cQ c).length)) (λu=>decide (oU c (cQ c) u t > 0))];simp
  ·rfl
  ·intro i G b iC;have G:i<10:=by simpa [ev]using G
   have hw:=bC (n:=(i:Int)+1) (by omega) (by omega);have aw:decide ((i:Int)<10)=true:=by grind
   refine⟨?_,λbe cW=>?_⟩
   ·simp only[aw,if_true,DI,Int.zero_add,Prod.dc,Option.isSome_some,A.br,Option.getD_some];rw[A.f_ (cQ c) (λk (n:Nat)=>(some (uB c),(i:Int),(n:Int),(i:Int),(cQ c).map (iu c),(((cQ c).map (iu c)).length:Int),(k:Int),c,t,b.1,b.2,())) (λw n=>.next (if Ec c w i t=true then n+1 else n)) (λn=>.next (some (uB c),(i:Int),(n:Int),(i:Int),c,t,b.1,b.2,())) (λk n=>n<=k) 0 ?_ (by simp) ?_ ?_]
    ·rw[ej];have key:∀ (l:List (z1')) (n:Nat),l.foldl (λn w=>if Ec c w i t=true then n+1 else n) n=n+oU c l i t:=by
      intro l;induction l with
      | nil=>intro n;rfl
      | cons w l aJ=>
       intro n;simp only[List.foldl_cons];rw[aJ];unfold oU;grind
     rw[key,Nat.zero_add,A.aH,A.b2];have BK:((cQ c).map (iu c)).length=(cQ c).length:=List.length_map _;simp only[Prod.dc,Prod.fq,Prod.gO,bW,Option.isSome_some,A.br,Option.getD_some,BK];have fc:b6 (Add.add b.1.length (Add.add 0 1)):=gv (by grind);have pY:b6 (Add.add b.2.length (Add.add 0 1)):=gv (by grind);have d1:decide ((oU c (cQ c) i t:Int) > 0)=decide (oU c (cQ c) i t > 0):=by simp
     have d2:decide ((oU c (cQ c) i t:Int)=((cQ c).length:Int))=decide (oU c (cQ c) i t=(cQ c).length):=by grind
     rw[d1];cases E:decide (oU c (cQ c) i t > 0)<;>cases U:decide (oU c (cQ c) i t=(cQ c).length)<;>
      simp only[if_true,Bool.false_eq_true,if_false,A.bz fc,A.bz pY,A.aH,A.b2,Option.isSome_some,A.br,Option.getD_some,BK,d2,U,cm,hw,W.ho]<;>rfl
    ·rfl
    ·intro k an n aA;have vN:k<((cQ c).map (iu c)).length:=by grind
     have hw:=bC (n:=(k:Int)+1) (by omega) (by omega);have gE:=bC (n:=(n:Int)+1) (by omega) (by omega);have kN:=aV _ (List.getElem_mem an);have mC:=Eb U kN;have hu:0<=(i:Int)/\(i:Int)<=9:=by omega
     have tN:=anh aC kN hu t;obtain⟨cn,da⟩:=Ig aC kN hu t;refine⟨?_,λbe cW=>?_⟩
     ·simp only[Prod.dc,Prod.fq,Prod.gO,Prod.ir,Prod.jR,Prod.kU,bW,cZ vN,if_true,dm vN,cL vN,A.br,cm,hw,List.getElem_map];rw[Ya aC _ hu.1 hu.2,A.aH,<-tN];unfold OY;cases aa:(gZ (b8 c (cQ c)[k] (i:Int)) t).2 with
      | true=>
       have Cf:AO (c,(gZ (b8 c (cQ c)[k] (i:Int)) t).1.2,t):=by
        have:=amd aC mC aK.2 (u:=(i:Int)) (t:=t) (by grind);grind
       have anj:vQ.sh (c,(gZ (b8 c (cQ c)[k] (i:Int)) t).1.2,t)=A.pure (l3 c.2.2.2.1 (gZ (b8 c (cQ c)[k] (i:Int)) t).1.2 t):=A.bR Cf _;simp only[anj,A.iS,A.fD,Bool.true_and,and_self,forall_const,A.br,true_and];by_cases hm:l3 c.2.2.2.1 (gZ (b8 c (cQ c)[k] (i:Int)) t).1.2 t>=c.2.2.2.2.2.2.2.2.1
       ·simp_all
       ·simp only[hm,decide_false,Bool.false_eq_true,if_false,A.aH,A.b2,hw,W.ho];rfl
      | false=>
       simp_all
     grind
    simp
   grind
  ·intro b iC;rfl
def Yf(OZ:a6->A Int)(x:a6):A Bool:=
 if (decide (Int.ofNat (List.length x.1) > 20)||decide (Int.ofNat (List.length x.2.1) > 40)||decide (Int.ofNat (List.length x.2.2.1) > 60)||decide (Int.ofNat (List.length x.2.2.2.1) > 40))=true then A.pure true else A.bind (OZ x) λy=>if decide (y≠0)=true then A.pure false else A.bind (A.loop (λ(D:Int×Int×a6×Unit)=>letI b:=List.getD D.2.2.1.1 (Int.toNat D.2.1) (0,0);letI a:=D.2.1<Int.ofNat (List.length D.2.2.1.1);if decide a=true then A.ae (0<=D.2.1/\a) (A.ae (0<=D.2.1/\a) (A.pure (W.next (IntKind.wrap .i64 (D.1*IntKind.wrap .i64 (Add.add (IntKind.wrap .i64 (b.2-b.1)) 1)),IntKind.wrap .i64 (Add.add D.2.1 1),D.2.2.1,())))) else A.bind (A.pure (W.next (D.1,()))) λr=>A.pure (W.done r)) (1,0,x,())) (W.bB (λ(D:Int×Unit)=>A.pure (decide (D.1 > 60))))
def l4(c:a6):Bool:=decide (c.1.length > 20)||decide (c.2.1.length > 40)||decide (c.2.2.1.length > 60)||decide (c.2.2.2.1.length > 40)||(decide (cP c=0)&&decide (kj c.1 > 60))
theorem Yg:∀ (l:z4') (n:Nat),l.foldl (λn s=>n*(s.2 - s.1+1).toNat) n=n*kj l
 | [],n=>by simp[kj]
 | s::l,n=>by simp only[List.foldl_cons,kj];rw[Yg l,Nat.mul_assoc]
abbrev vY:aP:=⟨jv,dk,iR,l4⟩
theorem ank(x):A.le (Yf h2.sh x) (vY.sh x):=A.bw λh=>by
 unfold Yf;show _=A.pure (l4 x);simp only[bW];by_cases aD:(decide ((x.1.length:Int) > 20)||decide ((x.2.1.length:Int) > 40)||decide ((x.2.2.1.length:Int) > 60)||decide ((x.2.2.2.1.length:Int) > 40))=true
 ·rw[if_pos aD];refine congrArg A.pure ?_;unfold l4;grind
 ·rw[if_neg aD,show h2.sh x=A.pure (cP x) from A.bR h _,A.aH];have e:l4 x=(decide (cP x=0)&&decide (kj x.1 > 60)):=by
   unfold l4;grind
  rw[e];by_cases hc:cP x=0
  ·have aC:=oT hc;rw[if_neg (by grind)];have aA:=aC.ee;rw[A.f_ x.1 (λi (n:Nat)=>((n:Int),(i:Int),x,())) (λs n=>.next (n*(s.2 - s.1+1).toNat)) (λn=>.next ((n:Int),())) (λi n=>n<=61 ^ i) 1 ?_ ?_ ?_ ?_]
   ·rw[ej,Yg,Nat.one_mul,A.aH,A.b2];grind
   ·rfl
   ·simp
   ·intro i G n h0;have an:=aC.clk _ (List.getElem_mem G);have aa:n<=61 ^ 3:=Nat.le_trans h0 (Nat.pow_le_pow_right (by omega) (by omega));have hw:=bC (n:=(i:Int)+1) (by omega) (by omega);have cn:=bC (n:=x.1[i].2 - x.1[i].1) (by omega) (by omega);have da:=bC (n:=x.1[i].2 - x.1[i].1+1) (by omega) (by omega);have zv:((n*(x.1[i].2 - x.1[i].1+1).toNat:Nat):Int)=(n:Int)*(x.1[i].2 - x.1[i].1+1):=by
     grind
    have hm:n*(x.1[i].2 - x.1[i].1+1).toNat<=61 ^ (i+1):=by
     rw[Nat.pow_succ];exact Nat.mul_le_mul h0 (by omega)
    have Hf:n*(x.1[i].2 - x.1[i].1+1).toNat<=61 ^ 4:=Nat.le_trans hm (Nat.pow_le_pow_right (by omega) (by omega));have eY:=bC (n:=(n:Int)*(x.1[i].2 - x.1[i].1+1)) (by omega) (by omega);simp_all
   simp
  grind
theorem anl{c:a6}(h:l4 c=false):gF c:=by
 unfold l4 at h;simp only[Bool.or_eq_false_iff,decide_eq_false_iff_not,Bool.and_eq_false_imp,decide_eq_true_eq]at h;obtain⟨⟨⟨⟨E,U⟩,ah⟩,aZ⟩,bM⟩:=h;exact⟨⟨by omega,by omega,by omega,by omega⟩,λhc=>by omega⟩
end Go.Fer.H
namespace Go.Fer
open A (W)
abbrev aM:Type:=List UInt8
abbrev a_:Type:=bI×H.a6
abbrev vZ:Type:=z2'×List (List (Int×z1'×Int×Int))×Int×Int×z2'×z1'×List dy×List dN×List DO×Unit
abbrev A2:Type:=Int×Bool×Option Nat
abbrev kY(l:List (aM×A2))(a:aM)(b:A2):List (aM×A2):=lJ (k:=.str) (v:=.st (.az (.int .i64) (.az .bool .eo))) l a b
def Yh(OZ:H.a6->A Int)(O0:bI->A Int)(x:a_):A Int:=
 A.bind (O0 x.1) λy=>A.bind (ck (!(decide (y≠0))) (OZ x.2) 0) λbZ=>if (decide (y≠0)||decide (bZ≠0))=true then A.pure 120 else A.pure 0
def Yi(O1:a_->A Int)(O2:a_×Unit->A (a_×Unit))(O3:Unit->A (List (aM×Int×Bool×Option Nat)))(O4:List (aM×Int×Bool×Option Nat)×aM×a_×Unit->A (aM×a_×Unit))(x:a_×List aM):A (List aM×a_×Int):=
 letI d:=Int.ofNat (List.length x.2);A.bind (O1 x.1) λy=>if decide (y≠0)=true then A.pure ([],((([],[],0,[]),[],[],[],[],0),[],[],[],[],0,0,0,0,0,0,0),y) else if decide (d > 40)=true then A.pure ([],((([],[],0,[]),[],[],[],[],0),[],[],[],[],0,0,0,0,0,0,0),2) else A.bind (O2 (x.1,())) λy=>A.bind (O3 ()) λbZ=>A.bind (A.loop (λ(D:List (aM×Int×Bool×Option Nat)×List aM×Int×Int×List aM×Int×Int×Int×Int×Int×Int×Int×Int×Int×a_×Unit)=>letI b:=D.2.2.2;letI a:=b.2.2.2.2;letI c:=a.2.2.2.2;if decide (b.1<D.2.2.1)=true then A.ae (0<=b.1/\b.1<Int.ofNat (List.length D.2.1)) (A.bind (O4 (D.1,List.getD D.2.1 (Int.toNat b.1) [],c.2.2.2.1,())) (λy=>A.ae (b6 (Add.add (List.length b.2.1) (Add.add 0 1))) (A.pure (W.next (D.1,D.2.1,D.2.2.1,IntKind.wrap .i64 (Add.add b.1 1),b.2.1++[y.1],b.2.2.1,b.2.2.2.1,a.1,a.2.1,a.2.2.1,a.2.2.2.1,c.1,c.2.1,c.2.2.1,y.2.1,()))))) else A.bind (A.pure (W.next (b.2.1,b.2.2.1,b.2.2.2.1,a.1,a.2.1,a.2.2.1,a.2.2.2.1,c.1,c.2.1,c.2.2.1,c.2.2.2.1,()))) λr=>A.pure (W.done r)) (bZ,x.2,d,0,[],0,0,0,0,0,0,0,0,0,y.1,())) (W.bB (λ(D:List aM×Int×Int×Int×Int×Int×Int×Int×Int×Int×a_×Unit)=>A.ae True (A.pure (D.1,D.2.2.2.2.2.2.2.2.2.2.1,0))))
def Yj(DQ:bI->A Int)(Av:H.a6->A Int)(x:a_):A Int:=
 A.bind (DQ x.1) λy=>A.bind (ck (!(decide (y≠0))) (Av x.2) 0) λbZ=>if (decide (y≠0)||decide (bZ≠0))=true then A.pure 120 else A.pure 0
def Yk(O5:H.a6×z7'×z1'->A (H.a6×Int))(Yl:bI->A bI)(x:a_×Unit):A (a_×Unit):=
 A.bind (O5 (x.1.2,[],[])) λy=>A.ae (Yl x.1.1).cq (A.pure ((A.val (Yl x.1.1) (([],[],0,[]),[],[],[],[],0),y.1),()))
def anm(x:Unit):A (List (aM×Int×Bool×Option Nat)):=
 A.pure (kY (kY (kY (kY (kY (kY (kY (kY (kY (kY (kY (kY (kY (kY (kY (kY (kY (kY (kY (kY [] [108,101,110,100] (5,false,some 119)) [98,97,99,107] (4,false,some 120)) [118,111,105,100] (1,false,some 121)) [108,97,115,116,115] (1,false,some 122)) [102,101,101] (1,false,some 123)) [111,119,101,115] (1,false,some 124)) [104,101,108,100] (1,false,some 125)) [119,104,101,114,101] (2,false,some 126)) [109,105,115,115,105,110,103] (1,false,some 127)) [116,114,105,97,108] (4,false,some 128)) [102,105,116,115] (3,false,some 129)) [115,116,111,99,107] (2,false,some 130)) [99,111,109,101,115] (3,false,some 131)) [112,105,101,99,101] (4,true,some 132)) [119,105,115,104] (5,true,some 133)) [100,114,111,112] (1,false,some 134)) [99,97,110] (1,false,some 135)) [116,97,107,101,115] (0,true,some 136)) [109,111,115,116] (0,false,some 137)) [101,120,116,114,97] (0,false,some 138))
def Ym(ano:aM×aM->A (List aM))(anp:aM->A (Int×Bool))(anq:Nat->z1'×a_×Unit->A (aM×a_×Unit))(x:List (aM×Int×Bool×Option Nat)×aM×a_×Unit):A (aM×a_×Unit):=
 A.bind (ano (x.2.1,[32])) λy=>letI b:=Int.ofNat (List.length y);letI f:=IntKind.wrap .i64 (b-1);letI d:=List.drop (Int.toNat 1) (List.take (Int.toNat b) y);letI a:=Option.map (λx=>x.2) (List.find? (λp=>decide (List.getD y (Int.toNat 0) []=p.1)) x.1);letI c:=Option.getD a (0,false,none);A.ae ((0:Int)<=0/\0<b) (if (!(Option.isSome a)||decide (f<c.1)||decide (f > c.1)&&!c.2.1)=true then A.pure ([63],x.2.2.1,()) else A.bind (A.ae ((0:Int)<=1/\1<=b/\b<=b) (A.loop (λ(D:List aM×Int×Int×(Int×Bool×Option Nat)×z1'×a_×Unit)=>letI e:=D.2.2;if decide (e.1<D.2.1)=true then A.ae (0<=e.1/\e.1<Int.ofNat (List.length D.1)) (A.bind (anp (List.getD D.1 (Int.toNat e.1) [])) (λy=>if (!y.2)=true then A.bind (A.bind (A.pure ([63],e.2.2.2.1,())) (λr=>A.pure (W.done r))) λr=>A.pure (W.done r) else A.ae (b6 (Add.add (List.length e.2.2.1) (Add.add 0 1))) (A.pure (W.next (D.1,D.2.1,IntKind.wrap .i64 (Add.add e.1 1),e.2.1,e.2.2.1++[y.1],e.2.2.2.1,()))))) else A.bind (A.pure (W.next (e.2.1,e.2.2.1,e.2.2.2.1,()))) λr=>A.pure (W.done r)) (d,Int.ofNat (List.length d),0,c,[],x.2.2.1,()))) (W.bB (λ(D:(Int×Bool×Option Nat)×z1'×a_×Unit)=>A.bind (A.ae (∃ (k:Nat),List.Mem k [119,120,121,122,123,124,125,126,127,128,129,130,131,132,133,134,135,136,137,138]/\D.1.2.2=some k) (anq (Option.getD D.1.2.2 0) (D.2.1,D.2.2.1,()))) λy=>A.pure (y.1,y.2.1,()))))
def Yn(Em:z7'×z1'×a_×Unit->A (aM×a_×Unit))(x:z1'×a_×Unit):A (aM×a_×Unit):=
 letI a:=Int.ofNat (List.length x.1);A.ae ((0:Int)<=0/\0<a) (A.ae ((0:Int)<=1/\1<a) (A.ae ((0:Int)<=2/\2<a) (A.ae ((0:Int)<=3/\3<a) (A.ae ((0:Int)<=4/\4<a) (A.bind (Em ([(List.getD x.1 (Int.toNat 0) 0,List.getD x.1 (Int.toNat 1) 0,List.getD x.1 (Int.toNat 2) 0,1,List.getD x.1 (Int.toNat 3) 0,List.getD x.1 (Int.toNat 4) 0)],[],x.2.1,())) (λy=>A.pure (y.1,y.2.1,())))))))
def Yo(O5:H.a6×z7'×z1'->A (H.a6×Int))(x:z7'×z1'×a_×Unit):A (aM×a_×Unit):=
 A.ae True (A.bind (O5 (x.2.2.1.2,x.1,x.2.1)) (λy=>if decide (y.2≠0)=true then A.pure ([110,111],x.2.2.1,()) else A.ae True (A.pure ([111,107],(x.2.2.1.1,y.1),()))))
def Yp(Em:z7'×z1'×a_×Unit->A (aM×a_×Unit))(x:z1'×a_×Unit):A (aM×a_×Unit):=
 letI a:=Int.ofNat (List.length x.1);A.ae ((0:Int)<=0/\0<a) (A.ae ((0:Int)<=1/\1<a) (A.ae ((0:Int)<=2/\2<a) (A.ae ((0:Int)<=3/\3<a) (A.bind (Em ([(List.getD x.1 (Int.toNat 0) 0,List.getD x.1 (Int.toNat 1) 0,List.getD x.1 (Int.toNat 2) 0,2,List.getD x.1 (Int.toNat 3) 0,0)],[],x.2.1,())) (λy=>A.pure (y.1,y.2.1,()))))))
def Yq(Em:z7'×z1'×a_×Unit->A (aM×a_×Unit))(x:z1'×a_×Unit):A (aM×a_×Unit):=
 A.bind (Em ([],x.1,x.2.1,())) λy=>A.pure (y.1,y.2.1,())
def Yr(O6:H.a6×Int->A ((Int×Int)×Int))(rE:(Int×Int)×Int->A aM)(x:z1'×a_×Unit):A (aM×a_×Unit):=
 letI a:=(x.2.1.2,List.getD x.1 (Int.toNat 0) 0);A.ae True (A.ae ((0:Int)<=0/\0<Int.ofNat (List.length x.1)) (A.ae (O6 a).cq (A.ae (rE (A.val (O6 a) ((0,0),0))).cq (A.pure (A.val (rE (A.val (O6 a) ((0,0),0))) [],x.2.1,())))))
def Ys(n7:Int×z1'->A aM)(x:(Int×Int)×Int):A aM:=
 A.bind (n7 (x.2,[x.1.1,x.1.2])) λy=>A.pure y
def Yt(A3:z1'->A aM)(x:Int×z1'):A aM:=
 if decide (x.1=0)=true then A.bind (A3 x.2) λy=>A.pure y else if decide (x.1=3)=true then A.pure [110,111,110,101] else A.pure [110,111]
def Yu(anr:Int->A aM)(ans:List aM×aM->A aM)(x:z1'):A aM:=
 letI b:=Int.ofNat (List.length x);if decide (b=0)=true then A.pure [110,111,110,101] else A.bind (A.loop (λ(D:z1'×Int×Int×List aM×Unit)=>letI a:=D.2.2;if decide (a.1<D.2.1)=true then A.ae (0<=a.1/\a.1<Int.ofNat (List.length D.1)) (A.bind (anr (List.getD D.1 (Int.toNat a.1) 0)) (λy=>A.ae (b6 (Add.add (List.length a.2.1) (Add.add 0 1))) (A.pure (W.next (D.1,D.2.1,IntKind.wrap .i64 (Add.add a.1 1),a.2.1++[y],()))))) else A.bind (A.pure (W.next (a.2.1,()))) λr=>A.pure (W.done r)) (x,b,0,[],())) (W.bB (λ(D:List aM×Unit)=>A.bind (ans (D.1,[32])) λy=>A.pure y))
def Yv(O7:H.a6×Int->A ((Int×Int)×Int))(rE:(Int×Int)×Int->A aM)(x:z1'×a_×Unit):A (aM×a_×Unit):=
 letI a:=(x.2.1.2,List.getD x.1 (Int.toNat 0) 0);A.ae True (A.ae ((0:Int)<=0/\0<Int.ofNat (List.length x.1)) (A.ae (O7 a).cq (A.ae (rE (A.val (O7 a) ((0,0),0))).cq (A.pure (A.val (rE (A.val (O7 a) ((0,0),0))) [],x.2.1,())))))
def Yw(O8:H.a6×Int->A ((Int×Int)×Int))(rE:(Int×Int)×Int->A aM)(x:z1'×a_×Unit):A (aM×a_×Unit):=
 letI a:=(x.2.1.2,List.getD x.1 (Int.toNat 0) 0);A.ae True (A.ae ((0:Int)<=0/\0<Int.ofNat (List.length x.1)) (A.ae (O8 a).cq (A.ae (rE (A.val (O8 a) ((0,0),0))).cq (A.pure (A.val (rE (A.val (O8 a) ((0,0),0))) [],x.2.1,())))))
def Yx(O9:H.a6×Int->A ((Int×Int)×Int))(rE:(Int×Int)×Int->A aM)(x:z1'×a_×Unit):A (aM×a_×Unit):=
 letI a:=(x.2.1.2,List.getD x.1 (Int.toNat 0) 0);A.ae True (A.ae ((0:Int)<=0/\0<Int.ofNat (List.length x.1)) (A.ae (O9 a).cq (A.ae (rE (A.val (O9 a) ((0,0),0))).cq (A.pure (A.val (rE (A.val (O9 a) ((0,0),0))) [],x.2.1,())))))
def Yy(oV:H.a6×Int×Int->A (z1'×Int))(n7:Int×z1'->A aM)(A3:z1'->A aM)(x:z1'×a_×Unit):A (aM×a_×Unit):=
 letI b:=Int.ofNat (List.length x.1);letI a:=(x.2.1.2,List.getD x.1 (Int.toNat 0) 0,List.getD x.1 (Int.toNat 1) 0);A.ae True (A.ae ((0:Int)<=0/\0<b) (A.ae ((0:Int)<=1/\1<b) (A.ae (oV a).cq (A.ae ((!(decide ((A.val (oV a) ([],0)).2≠0)))=true->((!(decide ((A.val (oV a) ([],0)).2≠0)))=true/\True)/\((0:Int)<=0/\0<Int.ofNat (List.length (A.val (oV a) ([],0)).1))/\True) (if (decide ((A.val (oV a) ([],0)).2≠0)||decide (List.getD (A.val (oV a) ([],0)).1 (Int.toNat 0) (0:Int)>=0))=true then A.bind (n7 ((A.val (oV a) ([],0)).2,(A.val (oV a) ([],0)).1)) λy=>A.pure (y,x.2.1,()) else if decide (Int.ofNat (List.length (A.val (oV a) ([],0)).1)=1)=true then A.pure ([115,104,111,112],x.2.1,()) else A.ae ((0:Int)<=1/\1<=Int.ofNat (List.length (A.val (oV a) ([],0)).1)/\Int.ofNat (List.length (A.val (oV a) ([],0)).1)<=Int.ofNat (List.length (A.val (oV a) ([],0)).1)) (A.bind (A3 (List.drop (Int.toNat 1) (List.take (Int.toNat (Int.ofNat (List.length (A.val (oV a) ([],0)).1))) (A.val (oV a) ([],0)).1))) (λy=>A.ae (b6 (Add.add (Add.add (Add.add (Add.add (Add.add (Add.add 0 1) 1) 1) 1) 1) (List.length y))) (A.pure ([115,104,111,112,32]++y,x.2.1,())))))))))
def Yz(En:H.a6×Int->A (z1'×z1'×Int))(n7:Int×z1'->A aM)(A3:z1'->A aM)(x:z1'×a_×Unit):A (aM×a_×Unit):=
 letI a:=(x.2.1.2,List.getD x.1 (Int.toNat 0) 0);A.ae True (A.ae ((0:Int)<=0/\0<Int.ofNat (List.length x.1)) (A.ae (En a).cq (if decide ((A.val (En a) ([],[],0)).2.2≠0)=true then A.bind (n7 ((A.val (En a) ([],[],0)).2.2,[])) λy=>A.pure (y,x.2.1,()) else A.bind (A3 (A.val (En a) ([],[],0)).1) λy=>A.ae (b6 (Add.add (List.length y) (Add.add (Add.add (Add.add 0 1) 1) 1))) (A.bind (A3 (A.val (En a) ([],[],0)).2.1) (λbZ=>A.ae (b6 (Add.add (List.length (y++[32,47,32])) (List.length bZ))) (A.pure (y++[32,47,32]++bZ,x.2.1,())))))))
def YA(Hz:bo×Int->A ((Int×Int)×Int))(uD:bI×Unit->A (vZ))(DM:z2'×List (List (Int×z1'×Int×Int))×Int×z2'->A Int)(x:z1'×a_×Unit):A (aM×a_×Unit):=
 letI c:=List.getD x.1 (Int.toNat 0) 0;letI b:=Int.ofNat (List.length x.1);A.ae True (A.bind (uD (x.2.1.1,())) (λy=>letI d:=y.2.2.2.2;letI a:=(y.1,y.2.1,y.2.2.1,d.1++[(c,List.getD x.1 (Int.toNat 1) 0,List.getD x.1 (Int.toNat 2) 0,List.getD x.1 (Int.toNat 3) 0)]);A.ae True (A.ae ((0:Int)<=0/\0<b) (A.ae ((0:Int)<=1/\1<b) (A.ae ((0:Int)<=2/\2<b) (A.ae ((0:Int)<=3/\3<b) (A.ae (b6 (Add.add (List.length d.1) (Add.add 0 1))) (A.ae True (A.ae True (A.bind (DM a) (λbZ=>if decide (bZ≠0)=true then A.pure ([110,111],x.2.1,()) else A.ae True (A.ae ((0:Int)<=0/\0<b) (A.ae (Hz (a,c)).cq (if decide ((A.val (Hz (a,c)) ((0,0),0)).2≠0)=true then A.pure ([108,105,97,114],x.2.1,()) else A.ae True (A.pure ([111,107],((a,d.2.1,d.2.2.1,d.2.2.2.1,d.2.2.2.2.1,y.2.2.2.1),x.2.1.2),()))))))))))))))))
def YB(vF:bo×Int×Int×Int->A (Int×Int))(n7:Int×z1'->A aM)(x:z1'×a_×Unit):A (aM×a_×Unit):=
 letI b:=Int.ofNat (List.length x.1);letI a:=(x.2.1.1.1,List.getD x.1 (Int.toNat 0) 0,List.getD x.1 (Int.toNat 1) 0,List.getD x.1 (Int.toNat 2) 0);A.ae True (A.ae ((0:Int)<=0/\0<b) (A.ae ((0:Int)<=1/\1<b) (A.ae ((0:Int)<=2/\2<b) (A.ae (vF a).cq (if decide ((A.val (vF a) (0,0)).2≠0)=true then A.bind (n7 ((A.val (vF a) (0,0)).2,[])) λy=>A.pure (y,x.2.1,()) else A.ae (0<=(A.val (vF a) (0,0)).1/\(A.val (vF a) (0,0)).1<Int.ofNat 4) (A.pure (List.getD [[],[115,117,114,101,108,121],[110,101,118,101,114],[112,101,114,104,97,112,115]] (Int.toNat (A.val (vF a) (0,0)).1) [],x.2.1,())))))))
def YC(uD:bI×Unit->A (vZ))(yh:bI×a_×Unit->A (aM×a_×Unit))(x:z1'×a_×Unit):A (aM×a_×Unit):=
 letI c:=Int.ofNat (List.length x.1);letI a:=List.getD x.1 (Int.toNat 0) 0;A.ae True (A.bind (uD (x.2.1.1,())) (λy=>letI d:=y.2.2.2.2.2;letI b:=Int.ofNat (List.length d.1);A.ae ((0:Int)<=0/\0<c) (if decide (a>=b)=true then A.pure ([110,111],x.2.1,()) else A.ae ((0:Int)<=0/\0<c) (A.ae (0<=a/\a<b) (A.ae ((0:Int)<=1/\1<c) (A.ae (0<=a/\a<b) (A.bind (yh (((y.1,y.2.1,y.2.2.1,y.2.2.2.2.1),List.set d.1 (Int.toNat a) (IntKind.wrap .i64 (Add.add (List.getD d.1 (Int.toNat a) 0) (List.getD x.1 (Int.toNat 1) 0))),d.2.1,d.2.2.1,d.2.2.2.1,y.2.2.2.1),x.2.1,())) (λy=>A.pure (y.1,y.2.1,())))))))))
def YD(DQ:bI->A Int)(x:bI×a_×Unit):A (aM×a_×Unit):=
 A.bind (DQ x.1) λy=>if decide (y≠0)=true then A.pure ([110,111],x.2.1,()) else A.ae True (A.pure ([111,107],(x.1,x.2.1.2),()))
def YE(uD:bI×Unit->A (vZ))(yh:bI×a_×Unit->A (aM×a_×Unit))(x:z1'×a_×Unit):A (aM×a_×Unit):=
 letI a:=Int.ofNat (List.length x.1);A.ae True (A.bind (uD (x.2.1.1,())) (λy=>letI b:=y.2.2.2.2.2;A.ae ((0:Int)<=0/\0<a) (A.ae ((0:Int)<=1/\1<a) (A.ae ((0:Int)<=2/\2<a) (A.ae (b6 (Add.add (List.length b.2.2.2.1) (Add.add 0 1))) (A.bind (yh (((y.1,y.2.1,y.2.2.1,y.2.2.2.2.1),b.1,b.2.1,b.2.2.1,b.2.2.2.1++[(List.getD x.1 (Int.toNat 0) 0,List.getD x.1 (Int.toNat 1) 0,List.getD x.1 (Int.toNat 2) 0)],y.2.2.2.1),x.2.1,())) (λy=>A.pure (y.1,y.2.1,()))))))))
def YF(uD:bI×Unit->A (vZ))(yh:bI×a_×Unit->A (aM×a_×Unit))(x:z1'×a_×Unit):A (aM×a_×Unit):=
 letI a:=Int.ofNat (List.length x.1);A.ae True (A.bind (uD (x.2.1.1,())) (λy=>letI b:=y.2.2.2.2.2;A.ae ((0:Int)<=0/\0<a) (A.ae ((0:Int)<=1/\1<a) (A.ae ((0:Int)<=2/\2<a) (A.ae ((0:Int)<=3/\3<a) (A.ae ((0:Int)<=4/\4<=a/\a<=a) (A.ae (b6 (Add.add (List.length b.2.1) (Add.add 0 1))) (A.bind (yh (((y.1,y.2.1,y.2.2.1,y.2.2.2.2.1),b.1,b.2.1++[(List.getD x.1 (Int.toNat 0) 0,List.getD x.1 (Int.toNat 1) 0,List.getD x.1 (Int.toNat 2) 0,List.getD x.1 (Int.toNat 3) 0,List.drop (Int.toNat 4) (List.take (Int.toNat a) x.1))],b.2.2.1,b.2.2.2.1,y.2.2.2.1),x.2.1,())) (λy=>A.pure (y.1,y.2.1,()))))))))))
def YG(uD:bI×Unit->A (vZ))(yh:bI×a_×Unit->A (aM×a_×Unit))(x:z1'×a_×Unit):A (aM×a_×Unit):=
 letI a:=Int.ofNat (List.length x.1);A.ae True (A.bind (uD (x.2.1.1,())) (λy=>letI b:=y.2.2.2.2.2;A.ae ((0:Int)<=0/\0<a) (A.ae ((0:Int)<=1/\1<a) (A.ae ((0:Int)<=2/\2<a) (A.ae ((0:Int)<=3/\3<a) (A.ae ((0:Int)<=4/\4<a) (A.ae ((0:Int)<=5/\5<=a/\a<=a) (A.ae (b6 (Add.add (List.length b.2.2.1) (Add.add 0 1))) (A.bind (yh (((y.1,y.2.1,y.2.2.1,y.2.2.2.2.1),b.1,b.2.1,b.2.2.1++[(List.drop (Int.toNat 5) (List.take (Int.toNat a) x.1),(List.getD x.1 (Int.toNat 0) 0,List.getD x.1 (Int.toNat 1) 0),List.getD x.1 (Int.toNat 2) 0,List.getD x.1 (Int.toNat 3) 0,List.getD x.1 (Int.toNat 4) 0)],b.2.2.2.1,y.2.2.2.1),x.2.1,())) (λy=>A.pure (y.1,y.2.1,())))))))))))
def YH(YI:List dN->A (List dN))(ant:Int×Int×List dN×Unit->A ((Nat×Nat)×List dN×Unit))(x:z1'×a_×Unit):A (aM×a_×Unit):=
 letI c:=x.2.1.1.2.2;letI b:=List.getD x.1 (Int.toNat 0) 0;letI a:=(0:Int)<=0/\0<Int.ofNat (List.length x.1);A.ae a (A.ae True (if decide (b>=Int.ofNat (List.length c.2.1))=true then A.pure ([110,111],x.2.1,()) else A.ae True (A.ae (YI c.2.1).cq (A.ae a (A.ae a (A.bind (ant (b,IntKind.wrap .i64 (Add.add b 1),A.val (YI c.2.1) [],())) (λy=>A.ae True (A.pure ([111,107],((x.2.1.1.1,x.2.1.1.2.1,c.1,List.drop y.1.1 (List.take y.1.2 y.2.1),c.2.2),x.2.1.2),())))))))))
def YJ(O_:bI×Int->A (z1'×Int))(n7:Int×z1'->A aM)(x:z1'×a_×Unit):A (aM×a_×Unit):=
 letI a:=(x.2.1.1,List.getD x.1 (Int.toNat 0) 0);A.ae True (A.ae ((0:Int)<=0/\0<Int.ofNat (List.length x.1)) (A.ae (O_ a).cq (A.bind (n7 ((A.val (O_ a) ([],0)).2,(A.val (O_ a) ([],0)).1)) (λy=>A.pure (y,x.2.1,())))))
def YK(anu:bI×z1'->A (Int×Int))(anv:z1'×Unit->A (z1'×Unit))(n7:Int×z1'->A aM)(x:z1'×a_×Unit):A (aM×a_×Unit):=
 A.bind (anv (x.1,())) λy=>A.bind (A.loop (λ(D:Int×Int×z1'×a_×Unit)=>letI b:=D.2;letI a:=0<=b.1/\b.1<Int.ofNat (List.length b.2.1);if decide (b.1<D.1)=true then A.ae a (A.ae a (A.pure (W.next (D.1,IntKind.wrap .i64 (Add.add b.1 1),List.set b.2.1 (Int.toNat b.1) (IntKind.wrap .i64 (List.getD b.2.1 (Int.toNat b.1) 0-1)),b.2.2.1,())))) else A.bind (A.pure (W.next (b.2.1,b.2.2.1,()))) λr=>A.pure (W.done r)) (Int.ofNat (List.length y.1),0,y.1,x.2.1,())) (W.bB (λ(D:z1'×a_×Unit)=>A.ae True (A.bind (anu (D.2.1.1,D.1)) (λy=>A.bind (n7 (y.2,[y.1])) λy=>A.pure (y,D.2.1,())))))
def YL(anw:bI->A (Int×Int))(n7:Int×z1'->A aM)(x:z1'×a_×Unit):A (aM×a_×Unit):=
 A.ae True (A.bind (anw x.2.1.1) (λy=>A.bind (n7 (y.2,[y.1])) λy=>A.pure (y,x.2.1,())))
def YM(anx:bI->A (Int×Int))(n7:Int×z1'->A aM)(x:z1'×a_×Unit):A (aM×a_×Unit):=
 A.ae True (A.bind (anx x.2.1.1) (λy=>A.bind (n7 (y.2,[y.1])) λy=>A.pure (y,x.2.1,())))
def YN(anz:H.a6×H.a6->A Bool)(anA:bo×bo->A Bool)(v7:z1'×z1'->A Bool)(x:a_×a_):A Bool:=
 letI l:=x.2.1.2.2;letI k:=x.1.1.2.2;A.bind (anz (x.1.2,x.2.2)) λy=>A.bind (ck (!(!y)) (anA (x.1.1.1,x.2.1.1)) false) λbZ=>A.bind (ck (!(!y||!bZ)) (v7 (x.1.1.2.1,x.2.1.2.1)) false) λdv=>if (!y||!bZ||!dv||decide (Int.ofNat (List.length k.1)≠Int.ofNat (List.length l.1))||decide (Int.ofNat (List.length k.2.1)≠Int.ofNat (List.length l.2.1))||decide (Int.ofNat (List.length k.2.2.1)≠Int.ofNat (List.length l.2.2.1))||decide (k.2.2.2≠l.2.2.2))=true then A.pure false else A.bind (A.loop (λ(D:Int×bI×bI×Unit)=>letI m:=D.2.2.1;letI j:=D.1<Int.ofNat (List.length D.2.1.2.2.1);letI e:=List.getD D.2.1.2.2.1 (Int.toNat D.1) (0,0,0,0,[]);letI d:=List.getD m.2.2.1 (Int.toNat D.1) (0,0,0,0,[]);letI a:=decide (e.1≠d.1)||decide (e.2.1≠d.2.1)||decide (e.2.2.1≠d.2.2.1)||decide (e.2.2.2.1≠d.2.2.2.1);if decide j=true then A.ae (0<=D.1/\j) (A.ae (0<=D.1/\D.1<Int.ofNat (List.length m.2.2.1)) (A.bind (ck (!a) (v7 (e.2.2.2.2,d.2.2.2.2)) false) (λy=>if (a||!y)=true then A.bind (A.bind (A.pure false) (λr=>A.pure (W.done r))) λr=>A.pure (W.done r) else A.pure (W.next (IntKind.wrap .i64 (Add.add D.1 1),D.2.1,m,()))))) else A.bind (A.pure (W.next (D.2.1,m,()))) λr=>A.pure (W.done r)) (0,x.1.1,x.2.1,())) (W.bB (λ(D:bI×bI×Unit)=>A.bind (A.loop (λ(D:Int×bI×bI×Unit)=>letI n:=D.2.2.1;letI i:=D.1<Int.ofNat (List.length D.2.1.2.2.2.1);letI c:=List.getD D.2.1.2.2.2.1 (Int.toNat D.1) ([],(0,0),0,0,0);letI b:=List.getD n.2.2.2.1 (Int.toNat D.1) ([],(0,0),0,0,0);if decide i=true then A.ae (0<=D.1/\i) (A.ae (0<=D.1/\D.1<Int.ofNat (List.length n.2.2.2.1)) (A.bind (v7 (c.1,b.1)) (λy=>if (!y||!(decide (c.2.1.1=b.2.1.1)&&decide (c.2.1.2=b.2.1.2))||decide (c.2.2.1≠b.2.2.1)||decide (c.2.2.2.1≠b.2.2.2.1)||decide (c.2.2.2.2≠b.2.2.2.2))=true then A.bind (A.bind (A.pure false) (λr=>A.pure (W.done r))) λr=>A.pure (W.done r) else A.pure (W.next (IntKind.wrap .i64 (Add.add D.1 1),D.2.1,n,()))))) else A.bind (A.pure (W.next (D.2.1,n,()))) λr=>A.pure (W.done r)) (0,D.1,D.2.1,())) (W.bB (λ(D:bI×bI×Unit)=>A.bind (A.loop (λ(D:Int×bI×bI×Unit)=>letI h:=D.1<Int.ofNat (List.length D.2.1.2.2.2.2.1);letI g:=List.getD D.2.1.2.2.2.2.1 (Int.toNat D.1) (0,0,0);letI f:=List.getD D.2.2.1.2.2.2.2.1 (Int.toNat D.1) (0,0,0);if decide h=true then A.ae (0<=D.1/\h) (A.ae (0<=D.1/\D.1<Int.ofNat (List.length D.2.2.1.2.2.2.2.1)) (if (!(decide (g.1=f.1)&&(decide (g.2.1=f.2.1)&&decide (g.2.2=f.2.2))))=true then A.bind (A.bind (A.pure false) (λr=>A.pure (W.done r))) λr=>A.pure (W.done r) else A.pure (W.next (IntKind.wrap .i64 (Add.add D.1 1),D.2.1,D.2.2.1,())))) else A.bind (A.pure (W.next ())) λr=>A.pure (W.done r)) (0,D.1,D.2.1,())) (W.bB (λ(D:Unit)=>A.pure true))))))
def YO(v7:z1'×z1'->A Bool)(x:H.a6×H.a6):A Bool:=
 letI e:=x.2.2.2.2.2.2;letI d:=x.1.2.2.2.2.2;letI c:=decide (Int.ofNat (List.length x.1.1)≠Int.ofNat (List.length x.2.1))||decide (Int.ofNat (List.length x.1.2.1)≠Int.ofNat (List.length x.2.2.1));A.bind (ck (!c) (v7 (x.1.2.2.1,x.2.2.2.1)) false) λy=>if (c||!y||decide (Int.ofNat (List.length x.1.2.2.2.1)≠Int.ofNat (List.length x.2.2.2.2.1))||!(decide (x.1.2.2.2.2.1=x.2.2.2.2.2.1)&&(decide (d.1=e.1)&&(decide (d.2.1=e.2.1)&&(decide (d.2.2.1=e.2.2.1)&&(decide (d.2.2.2.1=e.2.2.2.1)&&(decide (d.2.2.2.2.1=e.2.2.2.2.1)&&decide (d.2.2.2.2.2=e.2.2.2.2.2))))))))=true then A.pure false else A.bind (A.loop (λ(D:Int×H.a6×H.a6×Unit)=>letI m:=D.2.2.1;letI l:=D.1<Int.ofNat (List.length D.2.1.1);letI j:=List.getD D.2.1.1 (Int.toNat D.1) (0,0);letI h:=List.getD m.1 (Int.toNat D.1) (0,0);if decide l=true then A.ae (0<=D.1/\l) (A.ae (0<=D.1/\D.1<Int.ofNat (List.length m.1)) (if (!(decide (j.1=h.1)&&decide (j.2=h.2)))=true then A.bind (A.bind (A.pure false) (λr=>A.pure (W.done r))) λr=>A.pure (W.done r) else A.pure (W.next (IntKind.wrap .i64 (Add.add D.1 1),D.2.1,m,())))) else A.bind (A.pure (W.next (D.2.1,m,()))) λr=>A.pure (W.done r)) (0,x.1,x.2,())) (W.bB (λ(D:H.a6×H.a6×Unit)=>A.bind (A.loop (λ(D:Int×H.a6×H.a6×Unit)=>letI n:=D.2.2.1;letI k:=D.1<Int.ofNat (List.length D.2.1.2.1);letI b:=List.getD D.2.1.2.1 (Int.toNat D.1) (0,0,0,0,0,0);letI a:=List.getD n.2.1 (Int.toNat D.1) (0,0,0,0,0,0);if decide k=true then A.ae (0<=D.1/\k) (A.ae (0<=D.1/\D.1<Int.ofNat (List.length n.2.1)) (if (!(decide (b.1=a.1)&&(decide (b.2.1=a.2.1)&&(decide (b.2.2.1=a.2.2.1)&&(decide (b.2.2.2.1=a.2.2.2.1)&&(decide (b.2.2.2.2.1=a.2.2.2.2.1)&&decide (b.2.2.2.2.2=a.2.2.2.2.2)))))))=true then A.bind (A.bind (A.pure false) (λr=>A.pure (W.done r))) λr=>A.pure (W.done r) else A.pure (W.next (IntKind.wrap .i64 (Add.add D.1 1),D.2.1,n,())))) else A.bind (A.pure (W.next (D.2.1,n,()))) λr=>A.pure (W.done r)) (0,D.1,D.2.1,())) (W.bB (λ(D:H.a6×H.a6×Unit)=>A.bind (A.loop (λ(D:Int×H.a6×H.a6×Unit)=>letI i:=D.1<Int.ofNat (List.length D.2.1.2.2.2.1);letI g:=List.getD D.2.1.2.2.2.1 (Int.toNat D.1) (0,0);letI f:=List.getD D.2.2.1.2.2.2.1 (Int.toNat D.1) (0,0);if decide i=true then A.ae (0<=D.1/\i) (A.ae (0<=D.1/\D.1<Int.ofNat (List.length D.2.2.1.2.2.2.1)) (if (!(decide (g.1=f.1)&&decide (g.2=f.2)))=true then A.bind (A.bind (A.pure false) (λr=>A.pure (W.done r))) λr=>A.pure (W.done r) else A.pure (W.next (IntKind.wrap .i64 (Add.add D.1 1),D.2.1,D.2.2.1,())))) else A.bind (A.pure (W.next ())) λr=>A.pure (W.done r)) (0,D.1,D.2.1,())) (W.bB (λ(D:Unit)=>A.pure true))))))
def YP(x:z1'×z1'):A Bool:=
 if decide (Int.ofNat (List.length x.1)≠Int.ofNat (List.length x.2))=true then A.pure false else A.bind (A.loop (λ(D:z1'×z1'×Int×Unit)=>letI a:=D.2.2.1;letI b:=a<Int.ofNat (List.length D.1);if decide b=true then A.ae (0<=a/\b) (A.ae (0<=a/\a<Int.ofNat (List.length D.2.1)) (if decide (List.getD D.1 (Int.toNat a) 0≠List.getD D.2.1 (Int.toNat a) 0)=true then A.bind (A.bind (A.pure false) (λr=>A.pure (W.done r))) λr=>A.pure (W.done r) else A.pure (W.next (D.1,D.2.1,IntKind.wrap .i64 (Add.add a 1),())))) else A.bind (A.pure (W.next ())) λr=>A.pure (W.done r)) (x.1,x.2,0,())) (W.bB (λ(D:Unit)=>A.pure true))
def YQ(v7:z1'×z1'->A Bool)(x:bo×bo):A Bool:=
 if (decide (Int.ofNat (List.length x.1.1)≠Int.ofNat (List.length x.2.1))||decide (Int.ofNat (List.length x.1.2.1)≠Int.ofNat (List.length x.2.2.1))||decide (x.1.2.2.1≠x.2.2.2.1)||decide (Int.ofNat (List.length x.1.2.2.2)≠Int.ofNat (List.length x.2.2.2.2)))=true then A.pure false else A.bind (A.loop (λ(D:Int×bo×bo×Unit)=>letI y:=D.2.2.1;letI t:=D.1<Int.ofNat (List.length D.2.1.1);letI j:=List.getD D.2.1.1 (Int.toNat D.1) (0,0,0,0);letI i:=List.getD y.1 (Int.toNat D.1) (0,0,0,0);if decide t=true then A.ae (0<=D.1/\t) (A.ae (0<=D.1/\D.1<Int.ofNat (List.length y.1)) (if (!(decide (j.1=i.1)&&(decide (j.2.1=i.2.1)&&(decide (j.2.2.1=i.2.2.1)&&decide (j.2.2.2=i.2.2.2)))))=true then A.bind (A.bind (A.pure false) (λr=>A.pure (W.done r))) λr=>A.pure (W.done r) else A.pure (W.next (IntKind.wrap .i64 (Add.add D.1 1),D.2.1,y,())))) else A.bind (A.pure (W.next (D.2.1,y,()))) λr=>A.pure (W.done r)) (0,x.1,x.2,())) (W.bB (λ(D:bo×bo×Unit)=>A.bind (A.loop (λ(D:Int×bo×bo×Unit)=>letI z:=D.2.2.1;letI q:=D.1<Int.ofNat (List.length D.2.1.2.2.2);letI h:=List.getD D.2.1.2.2.2 (Int.toNat D.1) (0,0,0,0);letI f:=List.getD z.2.2.2 (Int.toNat D.1) (0,0,0,0);if decide q=true then A.ae (0<=D.1/\q) (A.ae (0<=D.1/\D.1<Int.ofNat (List.length z.2.2.2)) (if (!(decide (h.1=f.1)&&(decide (h.2.1=f.2.1)&&(decide (h.2.2.1=f.2.2.1)&&decide (h.2.2.2=f.2.2.2)))))=true then A.bind (A.bind (A.pure false) (λr=>A.pure (W.done r))) λr=>A.pure (W.done r) else A.pure (W.next (IntKind.wrap .i64 (Add.add D.1 1),D.2.1,z,())))) else A.bind (A.pure (W.next (D.2.1,z,()))) λr=>A.pure (W.done r)) (0,D.1,D.2.1,())) (W.bB (λ(D:bo×bo×Unit)=>A.bind (A.loop (λ(D:Int×bo×bo×Unit)=>letI s:=D.1<Int.ofNat (List.length D.2.1.2.1);letI p:=Int.toNat D.1;letI v:=List.getD D.2.1.2.1 p [];letI u:=List.getD D.2.2.1.2.1 p [];if decide s=true then A.bind (A.ae (0<=D.1/\s) (A.ae (0<=D.1/\D.1<Int.ofNat (List.length D.2.2.1.2.1)) (if decide (Int.ofNat (List.length v)≠Int.ofNat (List.length u))=true then A.bind (A.bind (A.bind (A.pure false) (λr=>A.pure (W.done r))) (λr=>A.pure (W.done r))) λr=>A.pure (W.done r) else A.loop (λ(D:Int×List (Int×z1'×Int×Int)×List (Int×z1'×Int×Int)×Int×bo×bo×Unit)=>letI n:=D.2.2.2;letI l:=0<=n.1/\n.1<Int.ofNat (List.length D.2.2.1);letI k:=n.1<Int.ofNat (List.length D.2.1);letI w:=0<=n.1/\k;letI d:=List.getD D.2.1 (Int.toNat n.1) (0,[],0,0);letI c:=List.getD D.2.2.1 (Int.toNat n.1) (0,[],0,0);letI b:=decide (d.1≠c.1);letI g:=(!b)=true;letI o:=g->g/\True/\True;letI a:=b||!(decide (d.2.2.1=c.2.2.1)&&decide (d.2.2.2=c.2.2.2));letI e:=(!a)=true;letI m:=e->e/\True/\True;if decide k=true then A.ae w (A.ae l (A.ae (g->(g/\g)/\w/\True) (A.ae o (A.ae o (A.ae (g->(g/\g)/\l/\True) (A.ae o (A.ae o (A.ae (g->(g/\g)/\True/\True) (A.ae (True/\(b=false->g)) (A.ae (e->(e/\e)/\w/\True) (A.ae m (A.ae m (A.ae (e->(e/\e)/\l/\True) (A.ae m (A.ae m (A.ae (e->(e/\e/\True)/\(v7 (d.2.1,c.2.1)).cq/\True) (A.ae m (A.ae (True/\(a=false->e)) (if (a||!(A.val (v7 (d.2.1,c.2.1)) false))=true then A.bind (A.bind (A.bind (A.bind (A.pure false) (λr=>A.pure (W.done r))) (λr=>A.pure (W.done r))) (λr=>A.pure (W.done r))) λr=>A.pure (W.done r) else A.pure (W.next (D.1,D.2.1,D.2.2.1,IntKind.wrap .i64 (Add.add n.1 1),n.2.1,n.2.2.1,()))))))))))))))))))))) else A.bind (A.pure (W.next (D.1,n.2.1,n.2.2.1,()))) λr=>A.pure (W.done r)) (D.1,v,u,0,D.2.1,D.2.2.1,())))) (W.bB (λ(D:Int×bo×bo×Unit)=>A.pure (W.next (IntKind.wrap .i64 (Add.add D.1 1),D.2.1,D.2.2.1,())))) else A.bind (A.pure (W.next ())) λr=>A.pure (W.done r)) (0,D.1,D.2.1,())) (W.bB (λ(D:Unit)=>A.pure true))))))
def YR(anB:a_×List aM->A Bool)(O':a_->A Int)(x:a_×List aM×Int):A Bool:=
 A.bind (anB (x.1,x.2.1)) λy=>A.bind (ck (!y) (O' x.1) 0) λbZ=>A.pure (!y&&decide (bZ=0)&&decide (Int.ofNat (List.length x.2.1)<=x.2.2))
def YS(O':a_->A Int)(anC:bI->A Bool)(anD:H.a6->A Bool)(anE:aM->A (aM×z1'×Bool))(x:a_×List aM):A Bool:=
 A.bind (anC x.1.1) λy=>A.bind (ck (!y) (anD x.1.2) false) λbZ=>if (y||bZ||decide (Int.ofNat (List.length x.2) > 60))=true then A.pure true else A.bind (A.loop (λ(D:List aM×Int×Int×Int×Int×Int×a_×Unit)=>letI h:=D.2.2.2;letI b:=h.2.2;letI e:=b.1<Int.ofNat (List.length b.2.1.1.2.2.1);if decide e=true then A.ae (0<=b.1/\e) (A.pure (W.next (D.1,D.2.1,D.2.2.1,h.1,IntKind.wrap .i64 (Add.add h.2.1 (Int.ofNat (List.length (List.getD b.2.1.1.2.2.1 (Int.toNat b.1) (0,0,0,0,[])).2.2.2.2))),IntKind.wrap .i64 (Add.add b.1 1),b.2.1,()))) else A.bind (A.pure (W.next (D.1,D.2.1,D.2.2.1,h.1,h.2.1,b.2.1,()))) λr=>A.pure (W.done r)) (x.2,Int.ofNat (List.length x.1.1.2.2.2.1),Int.ofNat (List.length x.1.1.2.2.1),Int.ofNat (List.length x.1.1.2.2.2.2.1),0,0,x.1,())) (W.bB (λ(D:List aM×Int×Int×Int×Int×a_×Unit)=>A.bind (A.loop (λ(D:List aM×Int×Int×Int×Int×Int×a_×Unit)=>letI j:=D.2.1;letI d:=D.2.2;letI a:=d.2.2;letI i:=a.2.1;letI g:=a.2.2.1;letI f:=List.getD D.1 (Int.toNat i) [];letI c:=i<Int.ofNat (List.length D.1);if decide c=true then A.bind (A.ae (0<=i/\c) (if decide (Int.ofNat (List.length f) > 80)=true then A.bind (A.bind (A.bind (A.pure true) (λr=>A.pure (W.done r))) (λr=>A.pure (W.done r))) λr=>A.pure (W.done r) else A.ae (0<=i/\c) (A.bind (anE f) (λy=>if (!y.2.2)=true then A.pure (W.next (D.1,j,d.1,d.2.1,a.1,i,g,())) else if decide (y.1=[119,105,115,104])=true then A.pure (W.next (D.1,IntKind.wrap .i64 (Add.add j 1),d.1,d.2.1,a.1,i,g,())) else if decide (y.1=[112,105,101,99,101])=true then A.pure (W.next (D.1,j,IntKind.wrap .i64 (Add.add d.1 1),d.2.1,IntKind.wrap .i64 (Add.add a.1 (IntKind.wrap .i64 (Int.ofNat (List.length y.2.1)-4))),i,g,())) else if decide (y.1=[99,111,109,101,115])=true then A.pure (W.next (D.1,j,d.1,IntKind.wrap .i64 (Add.add d.2.1 1),a.1,i,g,())) else A.pure (W.next (D.1,j,d.1,d.2.1,a.1,i,g,())))))) (W.bB (λ(D:List aM×Int×Int×Int×Int×Int×a_×Unit)=>letI k:=D.2.2.2;A.pure (W.next (D.1,D.2.1,D.2.2.1,k.1,k.2.1,IntKind.wrap .i64 (Add.add k.2.2.1 1),k.2.2.2.1,())))) else A.bind (A.pure (W.next (j,d.1,d.2.1,a.1,g,()))) λr=>A.pure (W.done r)) (D.1,D.2.1,D.2.2.1,D.2.2.2.1,D.2.2.2.2.1,0,D.2.2.2.2.2.1,())) (W.bB (λ(D:Int×Int×Int×Int×a_×Unit)=>A.bind (O' D.2.2.2.2.1) λy=>A.pure (decide (y=0)&&(decide (D.1 > 3)||decide (D.2.1 > 4)||decide (D.2.2.1 > 3)||decide (D.2.2.2.1 > 4)))))))
def YT(anF:aM->A (List aM))(anG:aM->A Int)(anH:Unit->A (List aM×z1'×z1'))(x:aM):A (aM×z1'×Bool):=
 A.bind (anF x) λy=>A.bind (A.loop (λ(D:List aM×Int×z1'×Unit)=>letI j:=D.2.1<Int.ofNat (List.length D.1);if decide j=true then A.ae (0<=D.2.1/\j) (A.bind (anG (List.getD D.1 (Int.toNat D.2.1) [])) (λy=>if decide (y<0)=true then A.bind (A.bind (A.pure ([],[],false)) (λr=>A.pure (W.done r))) λr=>A.pure (W.done r) else A.ae (b6 (Add.add (List.length D.2.2.1) (Add.add 0 1))) (A.pure (W.next (D.1,IntKind.wrap .i64 (Add.add D.2.1 1),D.2.2.1++[y],()))))) else A.bind (A.pure (W.next (D.1,D.2.2.1,()))) λr=>A.pure (W.done r)) (y,1,[],())) (W.bB (λ(D:List aM×z1'×Unit)=>A.bind (anH ()) λy=>A.bind (A.loop (λ(D:List aM×List aM×z1'×z1'×Int×z1'×Unit)=>letI l:=List.getD D.1 (Int.toNat 0) [];letI h:=(0:Int)<=0/\0<Int.ofNat (List.length D.1);letI c:=D.2.2.2;letI m:=c.2.1;letI k:=Int.ofNat (List.length c.2.2.1);letI i:=m<Int.ofNat (List.length D.2.1);letI g:=Int.toNat m;letI f:=(0<=m/\m<Int.ofNat (List.length c.1))/\True;letI d:=decide (List.getD c.1 g (0:Int)<0);letI a:=decide (k>=List.getD D.2.2.1 g 0);letI e:=a=true;letI b:=(a&&!d)=true;letI n:=b->b/\True/\True;if decide i=true then A.ae (0<=m/\i) (A.ae h (if decide (List.getD D.2.1 g []=l)=true then A.ae h (A.ae (0<=m/\m<Int.ofNat (List.length D.2.2.1)) (A.ae (e->(e/\e)/\f) (A.ae (e->e/\True/\True) (A.ae (e->(e/\True)/\True/\True) (A.ae (e->True/\True/\e) (A.ae n (A.ae (b->(b/\b)/\f) (A.ae n (A.ae (b->(b/\b)/\True/\True) (A.ae (e->(e/\(d=false->b))/\True/\True) (A.ae (True/\(e->e)) (A.bind (A.bind (A.pure (l,c.2.2.1,a&&(d||decide (k<=List.getD c.1 g 0)))) (λr=>A.pure (W.done r))) (λr=>A.pure (W.done r)))))))))))))) else A.pure (W.next (D.1,D.2.1,D.2.2.1,c.1,IntKind.wrap .i64 (Add.add m 1),c.2.2.1,())))) else A.bind (A.pure (W.next ())) λr=>A.pure (W.done r)) (D.1,y.1,y.2.1,y.2.2,0,D.2.1,())) (W.bB (λ(D:Unit)=>A.pure ([],[],false)))))
def YU(x:aM):A (List aM):=
 A.bind (A.loop (λ(D:aM×Int×List aM×Unit)=>letI g:=D.2.1;letI f:=D.2.2.1;letI e:=Int.ofNat (List.length D.1);letI c:=Int.ofNat (List.length f);letI b:=IntKind.wrap .i64 (Add.add g 1);letI d:=List.drop (Int.toNat g) (List.take (Int.toNat b) D.1);letI a:=IntKind.wrap .i64 (c-1);letI h:=List.getD f (Int.toNat a) [];if decide (g<e)=true then A.bind (A.ae (0<=g/\g<e) (if decide (Int.ofNat (List.getD D.1 (Int.toNat g) 0).1.1.1=32)=true then A.ae (b6 (Add.add (List.length f) (Add.add 0 1))) (A.pure (W.next (D.1,g,f++[[]],()))) else A.ae (0<=a/\a<c) (A.ae (0<=g/\g<=b/\b<=e) (A.ae (b6 (Add.add (List.length h) (List.length d))) (A.ae (0<=a/\a<c) (A.pure (W.next (D.1,g,List.set f (Int.toNat a) (h++d),())))))))) (W.bB (λ(D:aM×Int×List aM×Unit)=>A.pure (W.next (D.1,IntKind.wrap .i64 (Add.add D.2.1 1),D.2.2.1,())))) else A.bind (A.pure (W.next (f,()))) λr=>A.pure (W.done r)) (x,0,[[]],())) (W.bB (λ(D:List aM×Unit)=>A.pure D.1))
def YV(x:aM):A Int:=
 letI b:=Int.ofNat (List.length x);letI g:=decide (b > 1);letI d:=decide (b=0)||decide (b > 6);A.ae ((!d&&g)=true->((!d&&g)=true/\True)/\((0:Int)<=0/\0<b)/\True) (if (d||g&&decide (Int.ofNat (List.getD x (Int.toNat 0) 0).1.1.1=48))=true then A.pure (-1) else A.bind (A.loop (λ(D:aM×Int×Int×Unit)=>letI h:=D.2.2.1;letI c:=h<Int.ofNat (List.length D.1);letI f:=0<=h/\c;letI a:=Int.ofNat (List.getD D.1 (Int.toNat h) 0).1.1.1;letI e:=(!(decide (a<48)))=true;if decide c=true then A.ae f (A.ae (e->(e/\e)/\f/\True) (if (decide (a<48)||decide (a > 57))=true then A.bind (A.bind (A.pure (-1)) (λr=>A.pure (W.done r))) λr=>A.pure (W.done r) else A.ae f (A.pure (W.next (D.1,IntKind.wrap .i64 (Add.add (IntKind.wrap .i64 (10*D.2.1)) (IntKind.wrap .i64 (IntKind.wrap .u8 (a-48)))),IntKind.wrap .i64 (Add.add h 1),()))))) else A.bind (A.pure (W.next (D.2.1,()))) λr=>A.pure (W.done r)) (x,0,0,())) (W.bB (λ(D:Int×Unit)=>A.pure D.1)))
def anI(x:Unit):A (List aM×z1'×z1'):=
 A.pure ([[108,101,110,100],[98,97,99,107],[118,111,105,100],[108,97,115,116,115],[102,101,101],[111,119,101,115],[104,101,108,100],[119,104,101,114,101],[109,105,115,115,105,110,103],[116,114,105,97,108],[102,105,116,115],[115,116,111,99,107],[99,111,109,101,115],[112,105,101,99,101],[119,105,115,104],[100,114,111,112],[99,97,110],[116,97,107,101,115],[109,111,115,116],[101,120,116,114,97]],[5,4,1,1,1,1,1,2,1,4,3,2,3,4,5,1,1,0,0,0],[5,4,1,1,1,1,1,2,1,4,3,2,3,-1,-1,1,1,-1,0,0])
def YW(Eo:a_×List aM->A (List aM×a_×Int))(anJ:List aM×List aM->A Bool)(anK:Unit->A a_)(x:Unit):A Bool:=
 A.bind (anK ()) λy=>A.bind (Eo (y,[[108,101,110,100,32,49,32,48,32,49,48,48,32,51,32,55],[98,97,99,107,32,50,32,48,32,49,55,49,32,51],[102,101,101,32,49],[119,104,101,114,101,32,51,32,49,55,49],[116,114,105,97,108,32,49,32,48,32,48,32,48],[115,116,111,99,107,32,48,32,49],[101,120,116,114,97],[100,114,111,112,32,51],[101,120,116,114,97]])) λy=>A.bind (ck (decide (y.2.2=0)) (anJ (y.1,[[111,107],[111,107],[51,48,48,32,51,48,48],[115,104,111,112],[108,105,97,114],[111,107],[49],[111,107],[48]])) false) λbZ=>A.pure (decide (y.2.2=0)&&bZ&&decide (Int.ofNat (List.length y.2.1.2.2.1)=2)&&decide (Int.ofNat (List.length y.2.1.1.2.2.2.1)=3))
def YX(x:List aM×List aM):A Bool:=
 if decide (Int.ofNat (List.length x.1)≠Int.ofNat (List.length x.2))=true then A.pure false else A.bind (A.loop (λ(D:List aM×List aM×Int×Unit)=>letI a:=D.2.2.1;letI b:=a<Int.ofNat (List.length D.1);if decide b=true then A.ae (0<=a/\b) (A.ae (0<=a/\a<Int.ofNat (List.length D.2.1)) (if decide (List.getD D.1 (Int.toNat a) []≠List.getD D.2.1 (Int.toNat a) [])=true then A.bind (A.bind (A.pure false) (λr=>A.pure (W.done r))) λr=>A.pure (W.done r) else A.pure (W.next (D.1,D.2.1,IntKind.wrap .i64 (Add.add a 1),())))) else A.bind (A.pure (W.next ())) λr=>A.pure (W.done r)) (x.1,x.2,0,())) (W.bB (λ(D:Unit)=>A.pure true))
def YY(x:Int):A aM:=
 if decide (x<0)=true then A.pure [115,104,111,112] else A.ae ((10:Int)≠0) (A.bind (A.loop (λ(D:Int×aM×Unit)=>letI a:=IntKind.wrap .i64 (Int.tdiv D.1 10);if decide (D.1>=10)=true then A.ae ((10:Int)≠0) (A.ae ((10:Int)≠0) (A.ae (b6 (Add.add (Add.add 0 1) (List.length D.2.1))) (A.pure (W.next (a,[UInt8.ofNat (Int.toNat (IntKind.wrap .u8 (IntKind.wrap .i64 (Add.add 48 (Int.tmod a 10)))))]++D.2.1,()))))) else A.bind (A.pure (W.next (D.2.1,()))) λr=>A.pure (W.done r)) (x,[UInt8.ofNat (Int.toNat (IntKind.wrap .u8 (IntKind.wrap .i64 (Add.add 48 (Int.tmod x 10)))))],())) (W.bB (λ(D:aM×Unit)=>A.pure D.1)))
def YZ(Pa:Int->A aM)(x:aM×z1'):A aM:=
 A.bind (A.loop (λ(D:aM×z1'×Int×Unit)=>letI b:=D.2.2.1;letI a:=b<Int.ofNat (List.length D.2.1);if decide a=true then A.ae (0<=b/\a) (A.bind (Pa (List.getD D.2.1 (Int.toNat b) 0)) (λy=>A.ae (b6 (Add.add (Add.add 0 1) (List.length y))) (A.ae (b6 (Add.add (List.length D.1) (Add.add (List.length y) 1))) (A.pure (W.next (D.1++([32]++y),D.2.1,IntKind.wrap .i64 (Add.add b 1),())))))) else A.bind (A.pure (W.next (D.1,()))) λr=>A.pure (W.done r)) (x.1,x.2,0,())) (W.bB (λ(D:aM×Unit)=>A.pure D.1))
def Ih{gy:Type}(c0:z2'->A (z2'))(bF:List (List (Int×z1'×Int×Int))->A (List (List (Int×z1'×Int×Int))))(c2:z2'->A (z2'))(c3:List (Int×z1'×Int×Int)×Unit->A (List (Int×z1'×Int×Int)×Unit))(c4:z1'->A (z1'))(c5:List dy->A (List dy))(lK:List dN->A (List dN))(oq:z3'->A (z3'))(x:bI)(fin:bI->A gy):A gy:=
 A.ae True (A.ae (c0 x.1.1).cq (A.ae True (A.ae (bF x.1.2.1).cq (A.ae True (A.ae (c2 x.1.2.2.2).cq (A.ae True (A.ae True (A.ae True (A.bind (A.ae True (A.loop (λ(D:Int×Int×Int×z1'×List dy×List dN×z3'×Int×Int×Int×z2'×List (List (Int×z1'×Int×Int))×z2'×Unit)=>letI g1:=D.2;letI s:=g1.2.2.2;letI h:=Int.toNat g1.1;letI f:=s.2.2.2;letI v:=f.2.2.2.2;if decide (g1.1<D.1)=true then A.bind (A.ae True (A.ae (0<=g1.1/\g1.1<Int.ofNat (List.length v.1)) (A.ae True (A.ae (h=h) (A.bind (c3 (List.getD v.1 h [],())) (λy=>A.ae True (A.ae (h=h) (A.ae True (A.ae (h=h) (A.loop (λ(D:Nat×Int×Int×Int×Int×Int×z1'×List dy×List dN×z3'×Int×Int×Int×z2'×(List (List (Int×z1'×Int×Int))×Nat)×z2'×List (Int×z1'×Int×Int)×Unit)=>letI g:=D.2.2.2.2;letI z:=g.2.2.2;letI a:=z.2.2.2;letI k:=a.2.2.2.2;letI u:=0<=g.1/\g.1<Int.ofNat (List.length k.2.2.1);letI e:=List.getD k.2.2.1 (Int.toNat g.1) (0,[],0,0);if decide (g.1<D.2.2.2.1)=true then A.ae True (A.ae (D.1=k.1.2) (A.ae True (A.ae (D.1=k.1.2) (A.ae u (A.ae (c4 e.2.1).cq (A.ae u (A.pure (W.next (D.1,D.2.1,D.2.2.1,D.2.2.2.1,IntKind.wrap .i64 (Add.add g.1 1),g.2.1,g.2.2.1,z.1,z.2.1,z.2.2.1,a.1,a.2.1,a.2.2.1,a.2.2.2.1,k.1,k.2.1,List.set k.2.2.1 (Int.toNat g.1) (e.1,A.val (c4 e.2.1) [],e.2.2),()))))))))) else A.bind (A.pure (W.next (D.2.1,D.2.2.1,g.2.1,g.2.2.1,z.1,z.2.1,z.2.2.1,a.1,a.2.1,a.2.2.1,a.2.2.2.1,k.1,k.2.1,k.2.2.1,()))) λr=>A.pure (W.done r)) (h,D.1,g1.1,Int.ofNat (List.length y.1),0,g1.2.1,g1.2.2.1,s.1,s.2.1,s.2.2.1,f.1,f.2.1,f.2.2.1,f.2.2.2.1,(v.1,h),v.2.1,y.1,()))))))))))) (W.bB (λ(D:Int×Int×Int×z1'×List dy×List dN×z3'×Int×Int×Int×z2'×(List (List (Int×z1'×Int×Int))×Nat)×z2'×List (Int×z1'×Int×Int)×Unit)=>letI dP:=D.2.2.2.2;letI j:=dP.2.2.2;letI bF:=j.2.2.2.2;A.pure (W.next (D.1,IntKind.wrap .i64 (Add.add D.2.1 1),D.2.2.1,D.2.2.2.1,dP.1,dP.2.1,dP.2.2.1,j.1,j.2.1,j.2.2.1,j.2.2.2.1,List.set bF.1.1 bF.1.2 bF.2.2.1,bF.2.1,())))) else A.bind (A.pure (W.next (g1.2.1,g1.2.2.1,s.1,s.2.1,s.2.2.1,f.1,f.2.1,f.2.2.1,f.2.2.2.1,v.1,v.2.1,()))) λr=>A.pure (W.done r)) (Int.ofNat (List.length (A.val (bF x.1.2.1) [])),0,x.1.2.2.1,x.2.1,x.2.2.1,x.2.2.2.1,x.2.2.2.2.1,x.2.2.2.2.2,0,0,A.val (c0 x.1.1) [],A.val (bF x.1.2.1) [],A.val (c2 x.1.2.2.2) [],()))) (W.bB (λ(D:Int×z1'×List dy×List dN×z3'×Int×Int×Int×z2'×List (List (Int×z1'×Int×Int))×z2'×Unit)=>letI d1:=D.2.2;letI n:=d1.2.2;A.ae (c4 D.2.1).cq (A.ae (c5 d1.1).cq (A.ae (lK d1.2.1).cq (A.ae (oq n.1).cq (A.bind (A.loop (λ(D:Int×Int×Int×Int×Int×Int×z2'×List (List (Int×z1'×Int×Int))×z2'×z1'×List dy×List dN×z3'×Unit)=>letI ay:=D.2;letI t:=ay.2.2.2;letI d:=t.2.2.2;letI w:=d.2.2.2;letI o:=0<=ay.1/\ay.1<Int.ofNat (List.length w.1);letI b:=List.getD w.1 (Int.toNat ay.1) (0,0,0,0,[]);if decide (ay.1<D.1)=true then A.ae o (A.ae (c4 b.2.2.2.2).cq (A.ae o (A.pure (W.next (D.1,IntKind.wrap .i64 (Add.add ay.1 1),ay.2.1,ay.2.2.1,t.1,t.2.1,t.2.2.1,d.1,d.2.1,d.2.2.1,List.set w.1 (Int.toNat ay.1) (b.1,b.2.1,b.2.2.1,b.2.2.2.1,A.val (c4 b.2.2.2.2) []),w.2.1,w.2.2.1,()))))) else A.bind (A.pure (W.next (ay.2.1,ay.2.2.1,t.1,t.2.1,t.2.2.1,d.1,d.2.1,d.2.2.1,w.1,w.2.1,w.2.2.1,()))) λr=>A.pure (W.done r)) (Int.ofNat (List.length (A.val (c5 d1.1) [])),0,D.1,n.2.1,n.2.2.1,n.2.2.2.1,n.2.2.2.2.1,n.2.2.2.2.2.1,n.2.2.2.2.2.2.1,A.val (c4 D.2.1) [],A.val (c5 d1.1) [],A.val (lK d1.2.1) [],A.val (oq n.1) [],())) (W.bB (λ(D:Int×Int×Int×Int×z2'×List (List (Int×z1'×Int×Int))×z2'×z1'×List dy×List dN×z3'×Unit)=>letI E:=D.2.2.2;letI m:=E.2.2.2;A.bind (A.loop (λ(D:Int×Int×Int×Int×Int×Int×z2'×List (List (Int×z1'×Int×Int))×z2'×z1'×List dy×List dN×z3'×Unit)=>letI f1:=D.2;letI l:=f1.2.2.2;letI c:=l.2.2.2.2;letI b9:=c.2.2.2;letI p:=0<=f1.1/\f1.1<Int.ofNat (List.length b9.1);letI i:=List.getD b9.1 (Int.toNat f1.1) ([],(0,0),0,0,0);if decide (f1.1<D.1)=true then A.ae p (A.ae (c4 i.1).cq (A.ae p (A.pure (W.next (D.1,IntKind.wrap .i64 (Add.add f1.1 1),f1.2.1,f1.2.2.1,l.1,l.2.1,l.2.2.1,l.2.2.2.1,c.1,c.2.1,c.2.2.1,List.set b9.1 (Int.toNat f1.1) (A.val (c4 i.1) [],i.2),b9.2.1,()))))) else A.bind (A.pure (W.next (f1.2.1,f1.2.2.1,l.1,l.2.1,l.2.2.1,l.2.2.2.1,c.1,c.2.1,c.2.2.1,b9.1,b9.2.1,()))) λr=>A.pure (W.done r)) (Int.ofNat (List.length m.2.2.2.1),0,D.1,D.2.1,D.2.2.1,E.1,E.2.1,E.2.2.1,m.1,m.2.1,m.2.2.1,m.2.2.2.1,m.2.2.2.2.1,())) (W.bB (λ(D:Int×Int×Int×Int×z2'×List (List (Int×z1'×Int×Int))×z2'×z1'×List dy×List dN×z3'×Unit)=>letI q:=D.2.2.2.2.2;fin ((D.2.2.2.2.1,q.1,D.1,q.2.1),q.2.2.1,q.2.2.2.1,q.2.2.2.2.1,q.2.2.2.2.2.1,D.2.1))))))))))))))))))))
def iL(s:bI):vZ:=(s.1.1,s.1.2.1,s.1.2.2.1,s.2.2.2.2.2,s.1.2.2.2,s.2.1,s.2.2.1,s.2.2.2.1,s.2.2.2.2.1,())
def anL(c0:z2'->A (z2'))(bF:List (List (Int×z1'×Int×Int))->A (List (List (Int×z1'×Int×Int))))(c2:z2'->A (z2'))(c3:List (Int×z1'×Int×Int)×Unit->A (List (Int×z1'×Int×Int)×Unit))(c4:z1'->A (z1'))(c5:List dy->A (List dy))(lK:List dN->A (List dN))(oq:z3'->A (z3'))(x:bI):A bI:=Ih c0 bF c2 c3 c4 c5 lK oq x A.pure
def anM(c0:z2'->A (z2'))(bF:List (List (Int×z1'×Int×Int))->A (List (List (Int×z1'×Int×Int))))(c2:z2'->A (z2'))(c3:List (Int×z1'×Int×Int)×Unit->A (List (Int×z1'×Int×Int)×Unit))(c4:z1'->A (z1'))(c5:List dy->A (List dy))(lK:List dN->A (List dN))(oq:z3'->A (z3'))(x:bI×Unit):A vZ:=Ih c0 bF c2 c3 c4 c5 lK oq x.1 λs=>A.pure (iL s)
def Y0(O0:bI->A Int)(anN:z2'×List (List (Int×z1'×Int×Int))×Int×z2'->A Bool)(x:bI):A Bool:=
 A.bind (anN x.1) λy=>if (y||decide (Int.ofNat (List.length x.2.1) > 40)||decide (Int.ofNat (List.length x.2.2.1) > 40)||decide (Int.ofNat (List.length x.2.2.2.1) > 40)||decide (Int.ofNat (List.length x.2.2.2.2.1) > 40))=true then A.pure true else A.bind (A.loop (λ(D:Int×bI×Unit)=>letI c:=D.1<Int.ofNat (List.length D.2.1.2.2.1);if decide c=true then A.ae (0<=D.1/\c) (if decide (Int.ofNat (List.length (List.getD D.2.1.2.2.1 (Int.toNat D.1) (0,0,0,0,[])).2.2.2.2) > 40)=true then A.bind (A.bind (A.pure true) (λr=>A.pure (W.done r))) λr=>A.pure (W.done r) else A.pure (W.next (IntKind.wrap .i64 (Add.add D.1 1),D.2.1,()))) else A.bind (A.pure (W.next (D.2.1,()))) λr=>A.pure (W.done r)) (0,x,())) (W.bB (λ(D:(bo×z1'×List dy×List dN×z3'×Int)×Unit)=>A.bind (A.loop (λ(D:Int×(bo×z1'×List (Int×Int×Int×Int×z1')×List dN×z3'×Int)×Unit)=>letI b:=D.1<Int.ofNat (List.length D.2.1.2.2.2.1);if decide b=true then A.ae (0<=D.1/\b) (if decide (Int.ofNat (List.length (List.getD D.2.1.2.2.2.1 (Int.toNat D.1) ([],(0,0),0,0,0)).1) > 40)=true then A.bind (A.bind (A.pure true) (λr=>A.pure (W.done r))) λr=>A.pure (W.done r) else A.pure (W.next (IntKind.wrap .i64 (Add.add D.1 1),D.2.1,()))) else A.bind (A.pure (W.next (D.2.1,()))) λr=>A.pure (W.done r)) (0,D.1,())) (W.bB (λ(D:(bo×z1'×List dy×List (z1'×(Int×Int)×Int×Int×Int)×z3'×Int)×Unit)=>A.bind (O0 D.1) λy=>if decide (y≠0)=true then A.pure false else A.bind (A.loop (λ(D:Int×Int×(bo×z1'×List dy×List dN×z3'×Int)×Unit)=>letI d:=D.2.2.1;letI a:=D.2.1<Int.ofNat (List.length d.2.2.1);if decide a=true then A.ae (0<=D.2.1/\a) (A.pure (W.next (IntKind.wrap .i64 (Add.add D.1 (Int.ofNat (List.length (List.getD d.2.2.1 (Int.toNat D.2.1) (0,0,0,0,[])).2.2.2.2))),IntKind.wrap .i64 (Add.add D.2.1 1),d,()))) else A.bind (A.pure (W.next (D.1,d,()))) λr=>A.pure (W.done r)) (0,0,D.1,())) (W.bB (λ(D:Int×(bo×z1'×List dy×List (z1'×(Int×Int)×Int×Int×Int)×z3'×Int)×Unit)=>A.pure (decide (Int.ofNat (List.length D.2.1.2.2.2.1) > 3)||decide (Int.ofNat (List.length D.2.1.2.2.1) > 4)||decide (Int.ofNat (List.length D.2.1.2.2.2.2.1) > 3)||decide (D.1 > 4))))))))
def Y1(anO:Unit->A bo)(x:Unit):A (bI):=
 A.bind (anO ()) λy=>A.pure (y,[1,0,0,0],[(1,60,0,0,[0]),(1,60,7,0,[]),(2,65,0,1,[0]),(2,60,0,0,[0,1])],[([1],(55,65),7,3,500),([1,2],(60,60),0,5,400),([2],(60,70),9,8,700),([2],(65,65),0,5,300)],[(4,2,1),(6,3,1)],2)
abbrev bx:ad:=.int .i64
abbrev dk:ad:=.bool
abbrev fP:ad:=.slice bx
abbrev mA:ad:=.st (.az bx bx)
abbrev kD:ad:=.st (.az bx (.az bx mA))
abbrev qz:ad:=.st (.az bx (.az fP mA))
abbrev kZ:ad:=.st (.slice qz)
abbrev jW:ad:=.st (.az bx (.az bx (.az bx bx)))
abbrev kE:ad:=.st (.az (.slice kD) (.az (.slice kZ) (.az bx (.slice jW))))
attribute [simp] qt Vo vA A.dJ A.Fc A.Rh A.gN A.fD A.n3 A.jb A.kA A.b2 A.pw cm hM Vn W.ho
abbrev ct:aP:=⟨.az bx (.az bx bx),dk,λ_=>True,λx=>decide (x.2.1<=x.1)&&decide (x.1<=x.2.2)⟩
theorem anP(x):A.le (ajs x) (ct.sh x):=A.bw λ_=>rfl
abbrev oQ:aP:=⟨.az fP bx,dk,λx=>x.1.length<2 ^ 63,λx=>x.1.contains x.2⟩
abbrev Ii:Type:=Int×Int×Int×Int
abbrev v8:Type:=Int×z1'×Int×Int
abbrev mD:Type:=Int×Int×Int×Int
def gQ(w:bo):Prop:=w.1.length<2 ^ 63/\w.2.1.length<2 ^ 63/\w.2.2.2.length<2 ^ 63/\∀ m∈w.2.1,m.length<2 ^ 63/\∀ s∈m,s.2.1.length<2 ^ 63
def g_(w:bo)(n:Int):Bool:=decide (0<=n)&&decide (n<(w.1.length:Int))
def n8(w:bo)(n:Int):Bool:=decide (0<=n)&&decide (n<(w.2.1.length:Int))
def jy(w:bo)(m:Int):List v8:=w.2.1.getD m.toNat []
def iO(w:bo)(m k:Int):Bool:=n8 w m&&(decide (0<=k)&&decide (k<((jy w m).length:Int)))
theorem uE{w:bo}{n:Int}:g_ w n=true<->0<=n/\n<(w.1.length:Int):=by simp[g_]
theorem Ij{w:bo}{n:Int}:n8 w n=true<->0<=n/\n<(w.2.1.length:Int):=by simp[n8]
theorem A4{w:bo}{m k:Int}:iO w m k=true<->(0<=m/\m<(w.2.1.length:Int))/\0<=k/\k<((jy w m).length:Int):=by simp[iO,n8]
theorem Ik{w:bo}(hw:gQ w)(m:Int):(jy w m).length<2 ^ 63:=by
 unfold jy;rw[List.getD_eq_getElem?_getD];cases h:w.2.1[m.toNat]? with
 | none=>simp
 | some x=>exact (hw.2.2.2 x (List.mem_of_getElem? h)).1
theorem rF(n m:Int):decide (n<=m - 1)=decide (n<m):=by
 grind
abbrev pI:aP:=⟨.az kE bx,dk,λx=>gQ x.1,λx=>g_ x.1 x.2⟩
theorem Y2(w:bo)(n:Int)(h:gQ w):No ct.sh (w,n)=A.pure (g_ w n):=by
 unfold No;have ak:=h.1;have hw:=bC (n:=(w.1.length:Int) - 1) (by omega) (by omega);simp[aP.sh,ct,hw,g_,rF]
theorem anQ(x):A.le (No ct.sh x) (pI.sh x):=A.bw λh=>Y2 x.1 x.2 h
abbrev A5:aP:=⟨.az kE bx,dk,λx=>gQ x.1,λx=>n8 x.1 x.2⟩
theorem anR(w:bo)(n:Int)(h:gQ w):Nr ct.sh (w,n)=A.pure (n8 w n):=by
 unfold Nr;have ak:=h.2.1;have hw:=bC (n:=(w.2.1.length:Int) - 1) (by omega) (by omega);simp[aP.sh,ct,hw,n8,rF]
theorem anS(x):A.le (Nr ct.sh x) (A5.sh x):=A.bw λh=>anR x.1 x.2 h
abbrev rG:aP:=⟨.az kE (.az bx bx),dk,λx=>gQ x.1,λx=>iO x.1 x.2.1 x.2.2⟩
theorem Y3(w:bo)(m k:Int)(h:gQ w):Hx ct.sh A5.sh (w,m,k)=A.pure (iO w m k):=by
 unfold Hx;have ak:=Ik h m;have hw:=bC (n:=((jy w m).length:Int) - 1) (by omega) (by omega);unfold jy at hw;simp only[aP.sh,ct,A5,A.dJ,A.jb,bW,hw,rF,A.bz h];rw[A.bz,A.bz (by simp)]
 ·simp only[iO,jy];simp
 ·intro hm;exact⟨⟨hm,hm⟩,Ij.1 hm,trivial⟩
theorem anT(x):A.le (Hx ct.sh A5.sh x) (rG.sh x):=A.bw λh=>Y3 x.1 x.2.1 x.2.2 h
def v_(s:Int×Int):Bool:=(decide (0<=s.1)&&decide (s.1<=s.2))&&decide (s.2<=999)
abbrev oW:aP:=⟨mA,dk,λ_=>True,v_⟩
theorem Y4(s:Int×Int):Nu ct.sh s=A.pure (v_ s):=by
 unfold Nu;simp[aP.sh,ct,v_]
theorem anU(x):A.le (Nu ct.sh x) (oW.sh x):=A.bw λ_=>Y4 x
def rB(l:z1'):Bool:=(List.range (l.length - 1)).all λi=>decide (l.getD i 0<l.getD (i+1) 0)
abbrev uF:aP:=⟨fP,dk,λx=>x.length<2 ^ 63,rB⟩
theorem Y5(l:z1')(h:l.length<2 ^ 63):Nq l=A.pure (rB l):=by
 unfold Nq;rw[A.dL (List.range (l.length - 1)) (λi (_:Unit)=>(l,((i+1:Nat):Int),())) (λi b=>if (decide (l.getD i 0<l.getD (i+1) 0))=true then .next b else .done (.done false)) (λ_=>.next ()) () ?_ ?_ ?_]
 ·rw[Hs];unfold rB;cases (List.range (l.length - 1)).all λi=>decide (l.getD i 0<l.getD (i+1) 0)<;>simp
 ·simp
 ·intro i G b;have dM:i+1<l.length:=by grind
  have hw:=bC (n:=(i:Int)+1+1) (by omega) (by omega);have gE:=bC (n:=(i:Int)+1 - 1) (by omega) (by omega);have ay:((i:Int)+1).toNat=i+1:=by omega
  have aN:((i:Int)+1 - 1).toNat=i:=by omega
  have cj:(0:Int)<=(i:Int)+1/\(i:Int)+1<(l.length:Int):=by omega
  have cK:(0:Int)<=(i:Int)+1 - 1/\(i:Int)+1 - 1<(l.length:Int):=by omega
  simp only[bW,Int.natCast_add,Int.cast_ofNat_Int,hw,gE,cj,cK,A.bz,ay,aN,cm,List.getElem_range,decide_eq_true_eq,if_true,A.aH,decide_true,and_self,Int.natCast_one];generalize l.getD i 0=aL;generalize l.getD (i+1) 0=B;by_cases hc:aL<B
  ·simp[hc,Int.not_le.2 hc]
  ·simp[hc,Int.not_lt.1 hc]
 ·intro b;have:¬(((List.range (l.length - 1)).length:Int)+1<(l.length:Int)):=by grind
  simp[this];omega
theorem anV(x):A.le (Nq x) (uF.sh x):=A.bw λh=>Y5 x h
def qA(n:Int):Bool:=decide (0<=n)&&decide (n<=9)
def pJ(s:v8):Bool:=s.2.1.all qA&&(qA s.1&&decide ((s.2.1.length:Int)<=4)&&rB s.2.1&&v_ s.2.2)
def rH(s:Ii):Bool:=qA s.1&&qA s.2.1&&v_ s.2.2
def sZ(w:bo)(t:mD):Bool:=g_ w t.1&&iO w t.2.1 t.2.2.1&&(decide (0<=t.2.2.2)&&decide (t.2.2.2<=1))
def qB(m:List v8):Bool:=!decide ((m.length:Int) > 4)&&m.all pJ
def v'(w:bo):Bool:=!(decide ((w.1.length:Int) > 10)||decide ((w.2.1.length:Int) > 6)||!(decide (0<=w.2.2.1)&&decide (w.2.2.1<=99))||decide ((w.2.2.2.length:Int) > 30))
def k0(w:bo):Bool:=v' w&&w.1.all rH&&w.2.1.all qB&&w.2.2.2.all (sZ w)
abbrev s3:aP:=⟨qz,dk,λx=>x.2.1.length<2 ^ 63,pJ⟩
theorem anW(s:v8)(h:s.2.1.length<2 ^ 63):Nv uF.sh ct.sh oW.sh s=A.pure (pJ s):=by
 unfold Nv;rw[A.dL s.2.1 (λi (_:Unit)=>((i:Int),s,())) (λn b=>if qA n=true then .next b else .done (.done false)) (λ_=>.next (s,())) () ?_ ?_ ?_]
 ·rw[Hs];unfold pJ;cases s.2.1.all qA with
  | false=>simp
  | true=>
   simp only[aP.sh,ct,uF,oW,A.bz h,qA,if_true,A.aH,A.b2,A.dJ,A.jb,A.br,bW,h,implies_true,Bool.true_and];simp
 ·rfl
 ·intro i G b;have hw:=bC (n:=(i:Int)+1) (by omega) (by omega);simp[aP.sh,ct,G,hw,qA];grind
 simp
theorem anX(x):A.le (Nv uF.sh ct.sh oW.sh x) (s3.sh x):=A.bw λh=>anW x h
abbrev s4:aP:=⟨kE,dk,gQ,k0⟩
theorem anY(w:bo)(h:gQ w):Ns pI.sh rG.sh ct.sh oW.sh s3.sh w=A.pure (k0 w):=by
 have aD:=h;obtain⟨E,U,ah,aZ⟩:=h;unfold Ns;simp only[aP.sh,ct,A.jb,A.dJ,implies_true,A.br,bW,qt];split
 ·rename_i hc;have:v' w=false:=by unfold v';grind
  simp[k0,this]
 ·rename_i hc;have c7:v' w=true:=by unfold v';grind
  have ax4:w.2.1.length<=6:=by grind
  rw[A.dL w.1 (λi (_:Unit)=>((i:Int),w,())) (λn b=>if (!qA n.1||!qA n.2.1||!v_ n.2.2)=true then .done (.done false) else .next b) (λ_=>.next (w,())) () ?_ ?_ ?_]
  ·rw[kR (q:=rH) _ _ (λt=>by simp only[rH,Bool.not_and])];cases hH:w.1.all rH with
   | false=>simp[k0,hH]
   | true=>
    simp only[A.aH,if_true,A.b2];rw[A.dL w.2.1 (λi (_:Unit)=>((i:Int),w,())) (λm b=>if qB m=true then .next b else .done (.done false)) (λ_=>.next (w,())) () ?_ ?_ ?_]
    ·rw[Hs];cases aU:w.2.1.all qB with
     | false=>simp[k0,aU]
     | true=>
      simp only[A.aH,if_true,A.b2];rw[A.dL w.2.2.2 (λi (_:Unit)=>((i:Int),w,())) (λt b=>if (!g_ w t.1||!iO w t.2.1 t.2.2.1||!(decide (0<=t.2.2.2)&&decide (t.2.2.2<=1)))=true then .done (.done false) else .next b) (λ_=>.next ()) () ?_ ?_ ?_]
      ·rw[kR (q:=sZ w) _ _ (λt=>by simp only[sZ,Bool.not_and])];cases jn:w.2.2.2.all (sZ w)<;>simp[k0,hH,aU,jn,c7]
      ·rfl
      ·intro i G b;have hw:=bC (n:=(i:Int)+1) (by omega) (by omega);simp only[bW,cZ G,if_true,dm G,cL G,A.br,aP.sh,pI,rG,A.dJ,A.jb,aD,implies_true,qt,A.aH,cm,hw];exact na (mk:=λ_:Unit=>((i:Int)+1,w,()))
      simp
    ·rfl
    ·intro i G b;have hw:=bC (n:=(i:Int)+1) (by omega) (by omega);obtain⟨kg,po⟩:=aZ w.2.1[i] (List.getElem_mem G);simp only[bW,Int.ofNat_lt,G,decide_true,if_true,dm G,Int.natCast_nonneg,and_self,A.br];by_cases hlen:(w.2.1[i].length:Int) > 4
     ·simp[hlen,qB]
     ·simp only[hlen,decide_false,Bool.false_eq_true,if_false];rw[A.dL w.2.1[i] (λk (_:Unit)=>((i:Int),(k:Int),w,())) (λs b=>if (!pJ s)=true then .done (.done (.done (.done false))) else .next b) (λ_=>.next ((i:Int),w,())) () ?_ ?_ ?_]
      ·rw[kR (q:=pJ) _ _ (λ_=>rfl)];cases Ep:w.2.1[i].all pJ<;>simp[qB,Ep,hlen,hw]
      ·rfl
      ·intro k an b;have mC:=bC (n:=(k:Int)+1) (by omega) (by omega);have A6:=po w.2.1[i][k] (List.getElem_mem an);simp only[bW,cZ an,cZ G,if_true,dm G,dm an,cL G,cL an,A.br,s3,A.dJ,A6,A.bz A6,A.aH,cm,mC];exact na (mk:=λ_:Unit=>((i:Int),(k:Int)+1,w,()))
      simp_all
    simp
  ·rfl
  ·intro i G b;have hw:=bC (n:=(i:Int)+1) (by omega) (by omega);simp only[bW,cZ G,if_true,dm G,cL G,A.br,aP.sh,oW,A.dJ,A.jb,implies_true,qt,A.aH,cm,hw,Bool.not_not];exact na (mk:=λ_:Unit=>((i:Int)+1,w,()))
  simp
theorem anZ(x):A.le (Ns pI.sh rG.sh ct.sh oW.sh s3.sh x) (s4.sh x):=A.bw λh=>anY x h
abbrev qC:mD:=(0,0,0,0)
def nj(a b:mD):Bool:=decide (a.1=b.1)&&decide (a.2.1=b.2.1)&&decide (a.2.2.1=b.2.2.1)&&decide (a.2.2.2≠b.2.2.2)
def n2(l:List mD):Bool:=(List.range l.length).all λi=>(List.range i).all λk=>!nj (l.getD k qC) (l.getD i qC)
def cP(w:bo):Int:=if k0 w=true then (if n2 w.2.2.2=true then 0 else 71) else 70
theorem Y6{a b:Nat}(h:a<b):((0:Int)<=(a:Int)/\(a:Int)<(b:Int))=True:=cL h
abbrev h2:aP:=⟨kE,bx,gQ,cP⟩
theorem an0(w:bo)(h:gQ w):Np s4.sh w=A.pure (cP w):=by
 have aD:=h;obtain⟨E,U,ah,aZ⟩:=h;unfold Np;simp only[aP.sh,s4,A.dJ,A.bz aD];unfold cP;cases hw:k0 w with
 | false=>simp
 | true=>
  simp only[Bool.not_true,Bool.false_eq_true,if_false,if_true];rw[A.dL (List.range w.2.2.2.length) (λi (_:Unit)=>((i:Int),w,())) (λi b=>if (List.range i).any (λk=>nj (w.2.2.2.getD k qC) (w.2.2.2.getD i qC))=true then .done (.done (71:Int)) else .next b) (λ_=>.next ()) () ?_ ?_ ?_]
  ·rw[kR (q:=λi=>(List.range i).all λk=>!nj (w.2.2.2.getD k qC) (w.2.2.2.getD i qC)) _ _ (λi=>Vq (λk=>by simp) _)];have e:((List.range w.2.2.2.length).all λi=>(List.range i).all λk=>!nj (w.2.2.2.getD k qC) (w.2.2.2.getD i qC))=n2 w.2.2.2:=rfl;rw[e];cases n2 w.2.2.2<;>simp
  ·rfl
  ·intro i G b;have G:i<w.2.2.2.length:=by grind
   have h4:=bC (n:=(i:Int)+1) (by omega) (by omega);simp only[bW,cZ G,if_true,List.getElem_range];rw[A.dL (List.range i) (λk (_:Unit)=>((i:Int),(k:Int),w,())) (λk b=>if nj (w.2.2.2.getD k qC) (w.2.2.2.getD i qC)=true then .done (.done (.done (.done (71:Int)))) else .next b) (λ_=>.next ((i:Int),w,())) () ?_ ?_ ?_]
   ·rw[rv];cases (List.range i).any (λk=>nj (w.2.2.2.getD k qC) (w.2.2.2.getD i qC))<;>simp[h4]
   ·rfl
   ·intro k an b;have an:k<i:=by grind
    have vN:k<w.2.2.2.length:=by omega
    have mC:=bC (n:=(k:Int)+1) (by omega) (by omega);simp only[cZ an,if_true,List.getElem_range,Y6 vN,Y6 G,A.br,Int.toNat_natCast,A.aH,cm,mC];exact na (mk:=λ_:Unit=>((i:Int),(k:Int)+1,w,()))
   simp
  simp
theorem an1(x):A.le (Np s4.sh x) (h2.sh x):=A.bw λh=>an0 x h
def gG(w:bo)(i:Int):Ii:=w.1.getD i.toNat (0,0,0,0)
def uG(w:bo)(m k:Int):v8:=(jy w m).getD k.toNat (0,[],0,0)
theorem an2{w:bo}{i:Int}(h:g_ w i=true):gG w i∈w.1:=by
 rw[uE]at h;exact xW h.1 h.2
theorem Pb{w:bo}{m k:Int}(h:iO w m k=true):jy w m∈w.2.1:=by
 rw[A4]at h;exact xW h.1.1 h.1.2
theorem Y7{w:bo}{m k:Int}(h:iO w m k=true):uG w m k∈jy w m:=by
 rw[A4]at h;exact xW h.2.1 h.2.2
theorem A7{w:bo}(h:k0 w=true):v' w=true/\(∀ s∈w.1,rH s=true)/\(∀ m∈w.2.1,qB m=true)/\∀ t∈w.2.2.2,sZ w t=true:=by
 simp only[k0,Bool.and_eq_true,List.all_eq_true]at h;grind
theorem Er{w:bo}(h:k0 w=true):w.1.length<=10/\w.2.1.length<=6/\(0<=w.2.2.1/\w.2.2.1<=99)/\w.2.2.2.length<=30:=by
 have:=(A7 h).1;simp[v']at this;omega
theorem an3{w:bo}(h:k0 w=true){m k:Int}(hm:iO w m k=true):(jy w m).length<=4:=by
 have:=(A7 h).2.2.1 _ (Pb hm);simp[qB]at this;omega
theorem an4{w:bo}(h:k0 w=true){m k:Int}(hm:iO w m k=true):pJ (uG w m k)=true:=by
 have:=(A7 h).2.2.1 _ (Pb hm);simp only[qB,Bool.and_eq_true,List.all_eq_true]at this;exact this.2 _ (Y7 hm)
theorem an5{s:v8}(h:pJ s=true):0<=s.2.2.1/\s.2.2.1<=s.2.2.2/\s.2.2.2<=999:=by
 simp only[pJ,v_,Bool.and_eq_true,decide_eq_true_eq]at h;omega
theorem Y8{w:bo}(h:k0 w=true){i:Int}(G:g_ w i=true):0<=(gG w i).2.2.1/\(gG w i).2.2.1<=(gG w i).2.2.2/\(gG w i).2.2.2<=999:=by
 have:=(A7 h).2.1 _ (an2 G);simp only[rH,v_,Bool.and_eq_true,decide_eq_true_eq]at this;omega
theorem an6{w:bo}(h:k0 w=true){t:mD}(aK:t∈w.2.2.2):g_ w t.1=true/\iO w t.2.1 t.2.2.1=true:=by
 have:=(A7 h).2.2.2 _ aK;simp only[sZ,Bool.and_eq_true]at this;grind
def wa(w:bo)(i n m k:Int):Bool:=
 decide ((gG w i).1=(uG w m k).1)&&(uG w m k).2.1.contains (gG w i).2.1&&(decide ((uG w m k).2.2.1<=n)&&decide (n<=(uG w m k).2.2.2+w.2.2.1))
def qD(w:bo):Prop:=gQ w/\k0 w=true
abbrev Es:aP:=⟨.az kE (.az bx (.az bx (.az bx bx))),dk,λx=>qD x.1/\g_ x.1 x.2.1=true/\iO x.1 x.2.2.2.1 x.2.2.2.2=true,λx=>wa x.1 x.2.1 x.2.2.1 x.2.2.2.1 x.2.2.2.2⟩
theorem an7(w:bo)(i n m k:Int)(hw:qD w)(G:g_ w i=true)(hm:iO w m k=true):Vz oQ.sh ct.sh (w,i,n,m,k)=A.pure (wa w i n m k):=by
 unfold Vz;have cj:=uE.1 G;have cK:=A4.1 hm;have fk:=an5 (an4 hw.2 hm);have R7:=(Er hw.2).2.2.1;have A6:(uG w m k).2.1.length<2 ^ 63:=(hw.1.2.2.2 _ (Pb hm)).2 _ (Y7 hm);have h4:=bC (n:=(uG w m k).2.2.2+w.2.2.1) (by omega) (by omega);unfold wa;simp only[uG,jy,gG]at *
 simp only[aP.sh,oQ,ct,A.jb,A.dJ,bW,cj,cK,and_self,A.br,implies_true,cm,h4,vA,A.bz (λ_=>A6),A6];rfl
def uH(w:bo)(i n:Int)(t:mD):Bool:=!(decide (t.1=i)&&!decide (wa w i n t.2.1 t.2.2.1=decide (t.2.2.2=1)))
def Pc(w:bo)(i n:Int):Bool:=w.2.2.2.all (uH w i n)&&(decide ((gG w i).2.2.1<=n)&&decide (n<=(gG w i).2.2.2))
def ha(w:bo)(i:Int):z1':=(ev (gG w i).2.2.1 (gG w i).2.2.2).filter (Pc w i)
theorem Y9{w:bo}{i:Int}(hw:qD w)(G:g_ w i=true):(ha w i).length<=1000:=by
 have:=Y8 hw.2 G;have U:=List.length_filter_le (Pc w i) (ev (gG w i).2.2.1 (gG w i).2.2.2);rw[xX]at U;unfold ha;omega
theorem an8{w:bo}{i:Nat}(h:i<w.1.length):g_ w (i:Int)=true:=by rw[uE];omega
def wb(w:bo):Bool:=(List.range w.1.length).all λi=>!decide (((ha w (i:Int)).length:Int)=0)
def eK(w:bo)(cb:Bool):Int:=if cP w≠0 then cP w else if cb=false then 1 else if wb w=true then 0 else 3
theorem Pd{w:bo}(h:cP w=0):k0 w=true:=by
 unfold cP at h;grind
theorem Et{w:bo}{cb:Bool}(h:eK w cb=0):cP w=0/\cb=true/\wb w=true:=by
 unfold eK at h;grind
theorem Y_{w:bo}{cb:Bool}(aD:gQ w)(h:eK w cb=0):qD w:=⟨aD,Pd (Et h).1⟩
theorem an9{w:bo}(h:wb w=true){i:Int}(G:g_ w i=true):0<(ha w i).length:=by
 rw[uE]at G;have:=List.all_eq_true.1 h i.toNat (by grind);grind
def wc(w:bo)(i:Int):(Int×Int)×Int:=if eK w (g_ w i)≠0 then ((0,0),eK w (g_ w i)) else (((ha w i).getD 0 0,(ha w i).getD ((ha w i).length - 1) 0),0)
abbrev yi:aP:=⟨.az kE bx,.az mA bx,λx=>gQ x.1,λx=>wc x.1 x.2⟩
def Il(some many:Int):Int:=if some=many then 1 else if some=0 then 2 else 3
abbrev Im:aP:=⟨.az bx bx,bx,λ_=>True,λx=>Il x.1 x.2⟩
theorem Y'{al:Type}{p:al->Bool}:∀ (l:List al) (n:Int),l.foldl (λn x=>if p x=true then n+1 else n) n=n+(l.countP p:Int)
 | [],n=>by simp
 | x::l,n=>by
  simp only[List.foldl_cons,List.countP_cons];rw[Y' l];grind
def uI(w:bo)(i m k:Int):Int:=Il ((ha w i).countP λn=>wa w i n m k:Int) ((ha w i).length:Int)
def qE(w:bo)(i m k:Int):Int×Int:=if eK w (g_ w i&&iO w m k)≠0 then (0,eK w (g_ w i&&iO w m k)) else (uI w i m k,0)
abbrev A8:aP:=⟨.az kE (.az bx (.az bx bx)),.az bx bx,λx=>gQ x.1,λx=>qE x.1 x.2.1 x.2.2.1 x.2.2.2⟩
section
variable {al:Type}
def x5(d:al)(x:List al×(al->A Bool)):A Int:=
 A.bind (A.loop (λ(D:List al×(al->A Bool)×Int×Int×Unit)=>if decide (D.2.2.2.1<D.2.2.1)=true then A.ae (0<=D.2.2.2.1/\
 D.2.2.2.1<Int.ofNat (List.length D.1)) (A.bind (D.2.1 (List.getD D.1 (Int.toNat D.2.2.2.1) d)) λy=>if y=true then A.bind (A.bind (A.pure
 D.2.2.2.1) λr=>A.pure (W.done r)) λr=>A.pure (W.done r) else A.pure (W.next (D.1,D.2.1,D.2.2.1,IntKind.wrap .i64 (Add.add
 D.2.2.2.1 1),()))) else A.bind (A.pure (W.next ())) λr=>A.pure (W.done r)) (x.1,x.2,Int.ofNat (List.length x.1),0,())) (W.bB λ(D
 : Unit)=>A.pure (-1))
def D0(c:List al×(al->A Bool)->A Int)(x:List al×(al->A Bool)):A Bool:=A.bind (c x) λy=>A.pure (decide (y>=0))
def Za(c:List al×(al->A Bool)->A Bool)(bF:al×Option (al->A Bool)->A Bool)(x:List al×(al->A Bool)):A Bool:=
 A.bind (c (x.1,λhA=>bF (hA,some x.2))) λy=>A.pure !y
def Zb(x:al×Option (al->A Bool)):A Bool:=A.bind (Option.getD x.2 (λx=>{ cq:=False,bQ:=λx=>False }) x.1) λy=>A.pure !y
def hQ(p:al->Bool):List al->Int->Int
 | [],_=>-1
 | x::l,i=>if p x=true then i else hQ p l (i+1)
theorem Ax(p:al->Bool):∀ (l:List al) (i:Int),0<=i->(decide (hQ p l i>=0))=l.any p
 | [],i,_=>by rfl
 | x::l,i,h=>by
  simp only[hQ,List.any_cons];by_cases ai:p x=true
  ·grind
  ·have:=Ax p l (i+1) (by omega);grind
theorem Ay(p:al->Bool):∀ (l:List al) (i:Int),e0 (λx (i:Int)=>if p x=true then (.done (.done i):W Int (W Unit Int)) else .next (i+1)) (λ_=>.next ()) l i=if l.any p=true then .done (hQ p l i) else .next ()
 | [],i=>by rfl
 | x::l,i=>by
  simp only[e0,List.any_cons,hQ];by_cases ai:p x=true
  ·grind
  ·have:=Ay p l (i+1);grind
theorem D1{p:al->Bool}:∀ (l:List al) (i:Int),¬l.any p=true->hQ p l i=-1
 | [],_,_=>rfl
 | x::l,i,aA=>by
  simp only[List.any_cons,Bool.or_eq_true,not_or]at aA;simp only[hQ,aA.1,Bool.false_eq_true,if_false];exact D1 l _ aA.2
theorem Ob(d:al)(l:List al)(f:al->A Bool)(h:l.length<2 ^ 63)(ar:∀ y∈l,∃ b,f y=A.pure b):x5 d (l,f)=A.pure (hQ (λy=>(f y).val false) l 0):=by
 unfold x5;rw[A.f_ l (λi (b:Int)=>(l,f,(l.length:Int),b,())) (λy (i:Int)=>if (f y).val false=true then (.done (.done i):W Int (W Unit Int)) else .next (i+1)) (λ_=>.next ()) (λi b=>b=(i:Int)) 0 ?_ ?_ ?_ ?_]
 ·rw[Ay (λy=>(f y).val false)];by_cases bb:(l.any λy=>(f y).val false)=true
  ·simp[bb]
  ·have:hQ (λy=>(f y).val false) l 0=-1:=by
    have:∀ (l:List al) (i:Int),¬(l.any λy=>(f y).val false)=true->hQ (λy=>(f y).val false) l i=-1:=by
     intro l;induction l with
     | nil=>intro i _;rfl
     | cons x l aJ=>
      intro i aA;simp only[List.any_cons,Bool.or_eq_true,not_or]at aA;simp only[hQ,aA.1,Bool.false_eq_true,if_false];grind
    grind
   simp[bb,this]
 ·rfl
 ·rfl
 ·intro i G b aa;subst aa;have hw:=bC (n:=(i:Int)+1) (by omega) (by omega);refine⟨?_,λbe cW=>?_⟩
  ·obtain⟨b,aa⟩:=ar _ (List.getElem_mem G);simp only[bW,cZ G,if_true,dm G,cL G,A.br,aa,A.fD,A.aH,cm,hw];split<;>rfl
  grind
 simp
end
abbrev kW(e:ad):aP:=⟨.az (.slice e) (.fn e .bool),bx,λx=>x.1.length<2 ^ 63/\∀ y∈x.1,∃ b,x.2 y=A.pure b,λx=>hQ (λy=>(x.2 y).val false) x.1 0⟩
theorem sL(e:ad)(x):A.le (x5 e.dh x) ((kW e).sh x):=A.bw λh=>Ob e.dh x.1 x.2 h.1 h.2
abbrev jc(e:ad):aP:=⟨.az (.slice e) (.fn e .bool),dk,λx=>x.1.length<2 ^ 63/\∀ y∈x.1,∃ b,x.2 y=A.pure b,λx=>x.1.any λy=>(x.2 y).val false⟩
theorem sM(e:ad)(x):A.le (D0 (kW e).sh x) ((jc e).sh x):=A.bw λh=>by
 unfold D0;simp only[aP.sh,kW,A.dJ];rw[A.bz (by exact h)];exact congrArg A.pure (Ax (λy=>(x.2 y).val false) x.1 0 (by omega))
abbrev we(e:ad):aP:=⟨.az e (.bH (.fn e .bool)),dk,λx=>∃ f,x.2=some f/\∃ b,f x.1=A.pure b,λx=>!((x.2.getD λ_=>A.fail) x.1).val false⟩
theorem Eu(e:ad)(x):A.le (Zb x) ((we e).sh x):=A.bw λh=>by
 obtain⟨y,o⟩:=x;obtain⟨f,ar,b,aa⟩:=h;change o=some f at ar;subst ar;change f y=A.pure b at aa;unfold Zb;simp_all
abbrev jz(e:ad):aP:=⟨.az (.slice e) (.fn e .bool),dk,λx=>x.1.length<2 ^ 63/\∀ y∈x.1,∃ b,x.2 y=A.pure b,λx=>x.1.all λy=>(x.2 y).val false⟩
theorem Ev(e:ad)(x):A.le (Za (jc e).sh (we e).sh x) ((jz e).sh x):=A.bw λh=>by
 obtain⟨l,f⟩:=x;obtain⟨E,U⟩:=h;unfold Za;have hc:∀ y∈l,(we e).sh (y,some f)=A.pure (!(f y).val false):=λy aS=>by
  obtain⟨b,aa⟩:=U y aS;exact A.bR ⟨f,rfl,b,aa⟩ _
 simp only[aP.sh,jc,A.dJ];rw[A.bz ⟨E,λy aS=>⟨_,hc y aS⟩⟩];refine congrArg A.pure ?_;rw[List.not_any_eq_all_not];simp
end Go.Fer
namespace Go.Fer
open A (W)
theorem Io{al:Type}{p q:al->Bool}:∀ {l:List al},(∀ x∈l,p x=q x)->l.all p=l.all q
 | [],_=>rfl
 | x::l,h=>by
  grind
theorem an_(x):A.le (ajL x) (ct.sh x):=A.bw λ_=>rfl
theorem an'(x):A.le (ajM ct.sh x) (oW.sh x):=A.bw λ_=>Y4 x
abbrev yj:aP:=⟨bx,dk,λ_=>True,qA⟩
theorem aoa(x):A.le (VG ct.sh x) (yj.sh x):=A.bw λ_=>by
 unfold VG;simp only[aP.sh,ct,A.dJ,A.br,yj,qA]
theorem aob(x):A.le (ajI ct.sh x) (pI.sh x):=A.bw λh=>Y2 x.1 x.2 h
theorem aoc(x):A.le (VE ct.sh x) (rG.sh x):=A.bw λh=>by
 obtain⟨w,m,k⟩:=x;change gQ w at h;have:=Y3 w m k h;unfold Hx at this;unfold VE;simp only[aP.sh,A5,A.dJ,A.bz h,ct,A.br,bW]at this ⊢;have ak:=h.2.1;have hw:=bC (n:=(w.2.1.length:Int) - 1) (by omega) (by omega);simp only[hw,rF];exact this
theorem aod(x):A.le (ajK x) (uF.sh x):=A.bw λh=>Y5 x h
theorem aoe(l:z1')(n:Int)(h:l.length<2 ^ 63):Nw (l,n)=A.pure (hQ (λy=>decide (n=y)) l 0):=by
 unfold Nw;rw[A.f_ l (λi (b:Int)=>(l,n,(l.length:Int),b,())) (λy (i:Int)=>if decide (n=y)=true then (.done (.done i):W Int (W Unit Int)) else .next (i+1)) (λ_=>.next ()) (λi b=>b=(i:Int)) 0 ?_ ?_ ?_ ?_]
 ·rw[Ay (λy=>decide (n=y))];by_cases bb:(l.any λy=>decide (n=y))=true
  ·simp_all
  ·rw[if_neg bb,D1 l 0 bb];simp
 ·rfl
 ·rfl
 ·intro i G b aa;subst aa;have hw:=bC (n:=(i:Int)+1) (by omega) (by omega);refine⟨?_,λbe cW=>?_⟩
  ·simp only[bW,cZ G,if_true,dm G,cL G,A.br,A.aH,cm,hw];split<;>rfl
  grind
 simp
abbrev Ip:aP:=⟨.az fP bx,bx,λx=>x.1.length<2 ^ 63,λx=>hQ (λy=>decide (x.2=y)) x.1 0⟩
theorem aof(x):A.le (Nw x) (Ip.sh x):=A.bw λh=>aoe x.1 x.2 h
theorem aog(x):A.le (VB Ip.sh x) (oQ.sh x):=A.bw λh=>by
 unfold VB;simp only[aP.sh,Ip,A.dJ];rw[A.bz (by exact h),Ax _ _ _ (by omega)];grind
theorem aoh(x):A.le (VF yj.sh oW.sh x) ((⟨kD,dk,λ_=>True,rH⟩:aP).sh x):=A.bw λ_=>by
 unfold VF;simp only[aP.sh,yj,oW,A.dJ,A.jb,A.br,implies_true,vA,rH]
abbrev Iq:aP:=⟨kD,dk,λ_=>True,rH⟩
theorem aoi(x):A.le (VH uF.sh (jz bx).sh yj.sh oW.sh x) (s3.sh x):=A.bw λh=>by
 unfold VH;simp only[aP.sh,uF,oW,jz,yj,A.dJ,A.jb,A.br,implies_true,A.gN];rw[A.bz (by exact λ_=>⟨h,λy _=>⟨_,A.bR trivial _⟩⟩),A.bz (by omega)];simp only[vA,bW];refine congrArg A.pure ?_;show _=pJ x;unfold pJ;grind
abbrev A9:aP:=⟨.az kZ (.bH (.fn qz .bool)),dk,λx=>∃ f,x.2=some f/\x.1.length<2 ^ 63/\∀ y∈x.1,∃ b,f y=A.pure b,λx=>decide ((x.1.length:Int)<=4)&&x.1.all λy=>((x.2.getD λ_=>A.fail) y).val false⟩
theorem aoj(x):A.le (VI (jz qz).sh x) (A9.sh x):=A.bw λh=>by
 obtain⟨m,o⟩:=x;obtain⟨f,ar,E,U⟩:=h;change o=some f at ar;subst ar;unfold VI;simp only[aP.sh,jz,A.dJ,A.jb,Option.getD_some];simp_all
abbrev A_:aP:=⟨.az jW (.bH kE),dk,λx=>∃ w,x.2=some w/\gQ w,λx=>sZ (x.2.getD ([],[],0,[])) x.1⟩
theorem aok(x):A.le (VJ pI.sh rG.sh ct.sh x) (A_.sh x):=A.bw λh=>by
 obtain⟨t,o⟩:=x;obtain⟨w,ar,E⟩:=h;change o=some w at ar;subst ar;unfold VJ;simp only[aP.sh,pI,rG,ct,A.dJ,A.jb,Option.getD_some,A.bz E,E,implies_true,A.br,vA,A_,sZ]
theorem aol(x):A.le (VD ct.sh (jz kD).sh (jz kZ).sh (jz jW).sh A9.sh A_.sh Iq.sh s3.sh x) (s4.sh x):=A.bw λh=>by
 have aX:gQ x:=h;obtain⟨E,U,ah,aZ⟩:=(h:gQ x)
 unfold VD;have d1:∀ s,Iq.sh s=A.pure (rH s):=λ_=>rfl;have d2:∀ m∈x.2.1,A9.sh (m,some s3.sh)=A.pure (qB m):=λm hm=>by
  refine (A.bR ⟨_,rfl,(aZ m hm).1,λy aS=>⟨_,A.bR ((aZ m hm).2 y aS) _⟩⟩ _).trans (congrArg A.pure ?_);simp only[A9,Option.getD_some,qB,aP.sh,A.gN];grind
 have d3:∀ t,A_.sh (t,some x)=A.pure (sZ x t):=λt=>A.bR ⟨_,rfl,aX⟩ _;have b9:(x.1.all λy=>(Iq.sh y).val false)=x.1.all rH:=Io λs _=>A.gN;have a2:(x.2.1.all λy=>(A9.sh (y,some s3.sh)).val false)=x.2.1.all qB:=Io λm hm=>(congrArg (λz:A Bool=>z.val false) (d2 m hm)).trans A.fD;have a3:(x.2.2.2.all λy=>(A_.sh (y,some x)).val false)=x.2.2.2.all (sZ x):=Io λt _=>A.gN;have ay:∀ y,(jz kD).sh y=A.dI ((jz kD).pre y) ((jz kD).g y):=λ_=>rfl;have aN:∀ y,(jz kZ).sh y=A.dI ((jz kZ).pre y) ((jz kZ).g y):=λ_=>rfl;have cA:∀ y,(jz jW).sh y=A.dI ((jz jW).pre y) ((jz jW).g y):=λ_=>rfl;have ea:∀ y,ct.sh y=A.pure (ct.g y):=λ_=>rfl;simp only[ay,aN,cA,ea,A.dJ,A.jb,A.kA,A.aH];rw[A.bz (by grind),A.bz (by grind),A.bz (by exact λ_=>⟨ah,λy _=>⟨_,d3 y⟩⟩)];simp only[vA,bW];refine congrArg A.pure ?_;show _=k0 x;rw[b9,a2,a3];unfold k0 v';grind
end Go.Fer
