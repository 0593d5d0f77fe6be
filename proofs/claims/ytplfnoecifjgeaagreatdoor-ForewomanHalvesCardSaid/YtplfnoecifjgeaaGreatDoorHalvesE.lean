/- Part 5 of the proof of Halves: shallow programs of Go functions, and what they compute. No condition. -/
import Derived.Test.YtplfnoecifjgeaaGreatDoorHalvesD
noncomputable section
set_option linter.unusedVariables false
set_option linter.unusedSimpArgs false
namespace Go.Fer.H
open M (V)
abbrev tI:ad:=.int .i64
abbrev cP:ad:=.bool
abbrev fE:ad:=.slice tI
abbrev l9:ad:=.st (.aw tI tI)
abbrev Ny:ad:=.st (.aw tI (.aw tI (.aw tI (.aw tI (.aw tI (.aw tI tI))))))
abbrev jd:ad:=.st (.aw (.slice l9) (.aw (.slice gS) (.aw fE (.aw (.slice l9) Ny))))
abbrev G_:ad:=.st (.aw gS tI)
abbrev xH:ad:=.st (.aw fE (.array 10 (.slice G_)))
abbrev sc:ad:=.st (.aw jd (.aw (.slice gS) (.slice (.bp xH))))
attribute [simp] p_ UE u9 M.dj M.EC M.Qy M.gm M.fg M.nI M.iN M.ki M.bL M.o_ b8 j1 UD V.gQ
section
variable {ai:Type}
def xI(d:ai)(x:List ai×(ai->M Bool)):M Int:=
 M.bind (M.loop (λ(A:List ai×(ai->M Bool)×Int×Int×Unit)=>if decide (A.2.2.2.1<A.2.2.1)=true then M.ae (0<=A.2.2.2.1/\
 A.2.2.2.1<Int.ofNat (List.length A.1)) (M.bind (A.2.1 (List.getD A.1 (Int.toNat A.2.2.2.1) d)) λy=>if y=true then M.bind (M.bind (M.pure
 A.2.2.2.1) λr=>M.pure (V.done r)) λr=>M.pure (V.done r) else M.pure (V.next (A.1,A.2.1,A.2.2.1,IntKind.wrap .i64 (Add.add
 A.2.2.2.1 1),()))) else M.bind (M.pure (V.next ())) λr=>M.pure (V.done r)) (x.1,x.2,Int.ofNat (List.length x.1),0,())) (V.bm λ(A
 : Unit)=>M.pure (-1))
def Dv(c:List ai×(ai->M Bool)->M Int)(x:List ai×(ai->M Bool)):M Bool:=M.bind (c x) λy=>M.pure (decide (y>=0))
def hq(p:ai->Bool):List ai->Int->Int
 | [],_=>-1
 | x::l,i=>if p x=true then i else hq p l (i+1)
theorem z6(p:ai->Bool):∀ (l:List ai) (i:Int),0<=i->(decide (hq p l i>=0))=l.any p
 | [],i,_=>by rfl
 | x::l,i,h=>by
  simp only[hq,List.any_cons];by_cases hx:p x=true
  ·grind
  ·have:=z6 p l (i+1) (by omega);grind
theorem z7(p:ai->Bool):∀ (l:List ai) (i:Int),eB (λx (i:Int)=>if p x=true then (.done (.done i):V Int (V Unit Int)) else .next (i+1)) (λ_=>.next ()) l i=if l.any p=true then .done (hq p l i) else .next ()
 | [],i=>by rfl
 | x::l,i=>by
  simp only[eB,List.any_cons,hq];by_cases hx:p x=true
  ·grind
  ·have:=z7 p l (i+1);grind
theorem Dw{p:ai->Bool}:∀ (l:List ai) (i:Int),¬l.any p=true->hq p l i=-1
 | [],_,_=>rfl
 | x::l,i,ax=>by
  simp only[List.any_cons,Bool.or_eq_true,not_or]at ax;simp only[hq,ax.1,Bool.false_eq_true,if_false];exact Dw l _ ax.2
theorem Nz(d:ai)(l:List ai)(f:ai->M Bool)(h:l.length<2 ^ 63)(aq:∀ y∈l,∃ b,f y=M.pure b):xI d (l,f)=M.pure (hq (λy=>(f y).val false) l 0):=by
 unfold xI;rw[M.gn l (λi (b:Int)=>(l,f,(l.length:Int),b,())) (λy (i:Int)=>if (f y).val false=true then (.done (.done i):V Int (V Unit Int)) else .next (i+1)) (λ_=>.next ()) (λi b=>b=(i:Int)) 0 ?_ ?_ ?_ ?_]
 ·rw[z7 (λy=>(f y).val false)];by_cases aU:(l.any λy=>(f y).val false)=true
  ·simp[aU]
  ·have:hq (λy=>(f y).val false) l 0=-1:=by
    have:∀ (l:List ai) (i:Int),¬(l.any λy=>(f y).val false)=true->hq (λy=>(f y).val false) l i=-1:=by
     intro l;induction l with
     | nil=>intro i _;rfl
     | cons x l aG=>
      intro i ax;simp only[List.any_cons,Bool.or_eq_true,not_or]at ax;simp only[hq,ax.1,Bool.false_eq_true,if_false];grind
    grind
   simp[aU,this]
 ·rfl
 ·rfl
 ·intro i E b aa;subst aa;have hw:=bo (n:=(i:Int)+1) (by omega) (by omega);refine⟨?_,λaZ cY=>?_⟩
  ·obtain⟨b,aa⟩:=aq _ (List.getElem_mem E);simp only[bH,cH E,if_true,cZ E,cv E,M.bf,aa,M.fg,M.aE,b8,hw];split<;>rfl
  grind
 simp
end
abbrev kD(e:ad):aJ:=⟨.aw (.slice e) (.fn e .bool),tI,λx=>x.1.length<2 ^ 63/\∀ y∈x.1,∃ b,x.2 y=M.pure b,λx=>hq (λy=>(x.2 y).val false) x.1 0⟩
theorem sd(e:ad)(x):M.le (xI e.cM x) ((kD e).sh x):=M.bj λh=>Nz e.cM x.1 x.2 h.1 h.2
abbrev iO(e:ad):aJ:=⟨.aw (.slice e) (.fn e .bool),cP,λx=>x.1.length<2 ^ 63/\∀ y∈x.1,∃ b,x.2 y=M.pure b,λx=>x.1.any λy=>(x.2 y).val false⟩
theorem se(e:ad)(x):M.le (Dv (kD e).sh x) ((iO e).sh x):=M.bj λh=>by
 unfold Dv;simp only[aJ.sh,kD,M.dj];rw[M.bn (by exact h)];exact congrArg M.pure (z6 (λy=>(x.2 y).val false) x.1 0 (by omega))
abbrev k1(s:aT):Int:=s.1
abbrev pd(s:aT):Int:=s.2.1
abbrev xJ(s:aT):Int:=s.2.2.1
abbrev dL(s:aT):Int:=s.2.2.2.1
abbrev tK(s:aT):Int:=s.2.2.2.2.1
abbrev iy(s:aT):Int:=s.2.2.2.2.2
def h'(c:aP):Prop:=c.1.length<2 ^ 63/\c.2.1.length<2 ^ 63/\c.2.2.1.length<2 ^ 63/\c.2.2.2.1.length<2 ^ 63
def bK(n lo E:Int):Bool:=decide (lo<=n)&&decide (n<=E)
theorem ou{n lo E:Int}:bK n lo E=true<->lo<=n/\n<=E:=by simp[bK]
def pf(t:pb):Bool:=bK t.1 0 9999&&bK t.2.1 1 9999&&bK t.2.2.2.2.1 1 9999&&bK t.2.2.1 0 100000&&bK t.2.2.2.1 0 100000&&bK t.2.2.2.2.2.1 0 100000&&bK t.2.2.2.2.2.2 0 100000
def k2(n:Nat)(s:aT):Bool:=bK (k1 s) 0 99&&bK (pd s) 0 ((n:Int) - 1)&&bK (xJ s) 0 9999&&bK (tK s) 0 9&&bK (iy s) 0 99&&(decide (dL s=1)||decide (dL s=2)&&decide (iy s=0))
abbrev b5:aJ:=⟨.aw tI (.aw tI tI),cP,λ_=>True,λx=>bK x.1 x.2.1 x.2.2⟩
theorem aj2(x):M.le (VT b5.sh x) (b5.sh x):=M.bj λ_=>by
 unfold VT;simp[aJ.sh,b5]
theorem aj3(x):M.le (ajv x) (b5.sh x):=M.bj λ_=>rfl
abbrev xK:aJ:=⟨tI,cP,λ_=>True,λx=>bK x 0 9999⟩
theorem aj4(x):M.le (VD b5.sh x) (xK.sh x):=M.bj λ_=>by
 unfold VD;simp[aJ.sh,b5]
abbrev vd:aJ:=⟨tI,cP,λ_=>True,λx=>bK x 0 99⟩
theorem aj5(x):M.le (VN b5.sh x) (vd.sh x):=M.bj λ_=>by
 unfold VN;simp[aJ.sh,b5]
abbrev vf:aJ:=⟨Ny,cP,λ_=>True,λx=>pf x⟩
theorem aj6(x):M.le (V3 b5.sh x) (vf.sh x):=M.bj λ_=>by
 unfold V3;show _=M.pure (pf x);unfold pf;simp only[aJ.sh,b5,M.ni,M.aE,M.ki];simp
theorem aj7(x):M.le (VZ b5.sh x) (vf.sh x):=M.bj λ_=>by
 unfold VZ;rw[M.dm [x.2.2.1,x.2.2.2.1,x.2.2.2.2.2.1,x.2.2.2.2.2.2] (λi (_:Unit)=>(4,(i:Int),x,[x.2.2.1,x.2.2.2.1,x.2.2.2.2.2.1,x.2.2.2.2.2.2],())) (λy b=>if (!bK y 0 100000)=true then .done (.done false) else .next b) (λ_=>.next (x,())) () ?_ ?_ ?_]
 ·rw[ky (q:=λy=>bK y 0 100000) _ _ (λ_=>rfl)];show _=M.pure (pf x);unfold pf;simp only[List.all_cons,List.all_nil,Bool.and_true,aJ.sh,b5,M.ni,M.aE,M.ki];cases h1:bK x.1 0 9999<;>cases h2:bK x.2.1 1 9999<;>cases h3:bK x.2.2.2.2.1 1 9999<;>cases bK x.2.2.1 0 100000<;>cases bK x.2.2.2.1 0 100000<;>cases bK x.2.2.2.2.2.1 0 100000<;>cases bK x.2.2.2.2.2.2 0 100000<;>simp[h1,h2,h3]
 ·rfl
 ·intro i E b;have dn:i<4:=by omega
  have hw:=bo (n:=(i:Int)+1) (by omega) (by omega);have h1:decide ((i:Int)<4)=true:=by grind
  simp only[h1,if_true,bH,cZ E,cv E,M.bf,aJ.sh,b5,M.ni,M.aE,b8,hw];exact mH (mk:=λ(_:Unit)=>((4:Int),((i+1:Nat):Int),x,[x.2.2.1,x.2.2.2.1,x.2.2.2.2.2.1,x.2.2.2.2.2.2],()))
 simp
abbrev fcSlip:aJ:=⟨.aw jd gS,cP,λx=>x.1.1.length<2 ^ 63,λx=>k2 x.1.1.length x.2⟩
theorem aj8(x):M.le (V4 b5.sh x) (fcSlip.sh x):=M.bj λh=>by
 have hw:=bo (n:=(x.1.1.length:Int) - 1) (by omega) (by omega);unfold V4;show _=M.pure (k2 x.1.1.length x.2);unfold k2;simp only[aJ.sh,b5,M.ni,M.aE,M.ki,bH,hw];grind
theorem aj9(x):M.le (V1 b5.sh vd.sh x) (fcSlip.sh x):=M.bj λh=>by
 have hw:=bo (n:=(x.1.1.length:Int) - 1) (by omega) (by omega);unfold V1;show _=M.pure (k2 x.1.1.length x.2);unfold k2;simp only[aJ.sh,b5,vd,M.ni,M.aE,M.ki,bH,hw];grind
abbrev Dx:aJ:=⟨.aw gS (.bp jd),cP,λx=>∃ c:aP,x.2=some c/\c.1.length<2 ^ 63,λx=>!k2 (x.2.getD ([],[],[],[],0,0,0,0,0,0,0)).1.length x.1⟩
theorem aj_(x):M.le (V0 fcSlip.sh x) (Dx.sh x):=M.bj λh=>by
 obtain⟨s,o⟩:=x;obtain⟨c,hc,h⟩:=h;change o=some c at hc;subst hc;unfold V0;simp only[Option.getD_some,aJ.sh,fcSlip,M.dj];simp_all
abbrev z8:aJ:=⟨tI,cP,λ_=>True,λx=>!bK x 0 99⟩
theorem aj'(x):M.le (V2 vd.sh x) (z8.sh x):=M.bj λ_=>by
 unfold V2;simp[aJ.sh,vd]
theorem Wl(a b:aT):(decide (a.1=b.1)&&(decide (a.2.1=b.2.1)&&(decide (a.2.2.1=b.2.2.1)&&(decide (a.2.2.2.1=b.2.2.2.1)&&(decide (a.2.2.2.2.1=b.2.2.2.2.1)&&decide (a.2.2.2.2.2=b.2.2.2.2.2))))))=decide (a=b):=by
 grind
def tL(a b:aT):Bool:=decide (k1 a=k1 b)&&!decide (a=b)
abbrev G':aJ:=⟨.aw gS gS,cP,λ_=>True,λx=>tL x.1 x.2⟩
theorem aka(x):M.le (VS x) (G'.sh x):=M.bj λ_=>by
 have h:=Wl x.1 x.2;unfold VS;show _=M.pure (tL x.1 x.2);unfold tL;grind
abbrev ov:aJ:=⟨.aw fE tI,cP,λx=>x.1.length<2 ^ 63,λx=>x.1.contains x.2⟩
theorem akb(x):M.le (ajR x) ((kD gS).sh x):=sd gS x
theorem akc(x):M.le (ajL (kD gS).sh x) ((iO gS).sh x):=se gS x
abbrev fcClone:aJ:=⟨fE,fE,λx=>x.length<=3000000,λx=>x⟩
theorem hr{n:Nat}(h:n<65536):bX n:=by unfold bX;omega
theorem akd(x):M.le (V6 x) (fcClone.sh x):=M.r_ λh=>by
 unfold V6;rw[M.fF];refine⟨⟨false,by simp⟩,λb aa=>?_⟩;change b=true->x=[]at aa;cases b with
 | true=>rw[aa rfl];exact M.dC.2 rfl
 | false=>
  simp only[Bool.false_eq_true,if_false];exact M.ko.2 ⟨by change List.length x<=3000000 at h;simp only[j1,bX];omega,M.dC.2 (by simp)⟩
abbrev ake(c:aP):Prop:=c.1.length<=20/\c.2.1.length<=40/\c.2.2.1.length<=60/\c.2.2.2.1.length<=40
abbrev Ha:aJ:=⟨tI,cP,λ_=>True,λ_=>false⟩
theorem akf(x):M.le (V_ x) (Ha.sh x):=M.bj λ_=>by simp[V_]
abbrev fcCmp:aJ:=⟨.aw tI tI,tI,λ_=>True,λx=>if x.1<x.2 then -1 else if x.1 > x.2 then 1 else 0⟩
theorem akg(x):M.le (V8 Ha.sh x) (fcCmp.sh x):=M.bj λ_=>by
 unfold V8;simp only[aJ.sh,Ha,M.ni,M.aE,Bool.false_eq_true,if_false,decide_eq_true_eq];grind
abbrev lG:aJ:=⟨.aw G_ G_,tI,λ_=>True,λx=>if x.1.2<x.2.2 then -1 else if x.1.2 > x.2.2 then 1 else 0⟩
theorem akh(x):M.le (V7 fcCmp.sh x) (lG.sh x):=M.bj λ_=>by
 unfold V7;simp only[aJ.sh,fcCmp,M.ni,M.aE]
abbrev NA:aJ:=⟨.int .u64,tI,λx=>0<=x/\x<=12,λx=>(Dt x).val 0⟩
theorem aki(x):M.le (Dt x) (NA.sh x):=M.bj λh=>by
 have key:∃ v,Dt x=M.pure v:=by
  change Int at x;change (0:Int)<=x/\x<=12 at h;unfold Dt;have e1:¬(x>=4294967296):=by omega
  have e2:¬(x>=65536):=by omega
  have e3:¬(x>=256):=by omega
  have e4:IntKind.wrap .u8 x=x:=by
   show (if (false&&decide (x % 2 ^ 8>=(2 ^ (8 - 1):Int)))=true then x % 2 ^ 8 - 2 ^ 8 else x % 2 ^ 8)=x;grind
  have kK:0<=x/\x<Int.ofNat 256:=⟨h.1,by grind⟩
  simp only[decide_eq_true_eq,e1,e2,e3,if_false,M.aE,M.bL,e4,M.bn kK];grind
 obtain⟨v,hv⟩:=key;simp_all
abbrev NB:aJ:=⟨.int .u64,tI,λx=>0<=x/\x<=12,λx=>(Dt x).val 0⟩
theorem akj(f)(x):M.le (V5 f NA.sh x) (NB.sh x):=M.bj λh=>by
 unfold V5;simp only[aJ.sh,M.dj];simp_all
end Go.Fer.H
namespace Go.Fer.H
open M (V)
section
variable {ai:Type} (d:ai) (lt:ai->ai->Bool)
def vg(l:List ai):Nat->List ai
 | 0=>l
 | k+1=>if lt (l.getD (k+1) d) (l.getD k d)=true then vg ((l.set (k+1) (l.getD k d)).set k (l.getD (k+1) d)) k else l
def pg(e:ai):List ai->List ai
 | []=>[e]
 | a::r=>if lt e a=true then a::pg e r else e::a::r
def tM(l:List ai):List ai:=l.foldl (λr e=>pg lt e r) []
def e7(l:List ai):List ai:=(tM lt l).reverse
theorem Wm:∀ (r:List ai) (e:ai) (R:List ai),vg d lt (r.reverse++e::R) r.length=(pg lt e r).reverse++R
 | [],e,R=>rfl
 | a::r,e,R=>by
  have e1:((a::r).reverse++e::R).getD (r.length+1) d=e:=by
   simp
  have e2:((a::r).reverse++e::R).getD r.length d=a:=by
   simp
  show vg d lt ((a::r).reverse++e::R) (r.length+1)=_;unfold vg;rw[e1,e2];unfold pg;split
  ·have e3:(((a::r).reverse++e::R).set (r.length+1) a).set r.length e=r.reverse++e::(a::R):=by
    simp
   rw[e3,Wm r e (a::R)];simp
  ·simp
theorem NC(e:ai):∀ r:List ai,(pg lt e r).Perm (e::r)
 | []=>.refl _
 | a::r=>by
  unfold pg;split
  ·exact ((NC e r).cons a).trans (List.Perm.swap e a r)
  rfl
theorem Wn:∀ (l r:List ai),(l.foldl (λr e=>pg lt e r) r).Perm (l++r)
 | [],r=>.refl _
 | x::l,r=>by
  simp only[List.foldl_cons];refine (Wn l _).trans ?_;refine ((NC lt x r).append_left l).trans ?_;simp
theorem Wo(l:List ai):(tM lt l).Perm l:=by
 have:=Wn lt l [];rwa [List.append_nil]at this
theorem Dy(l:List ai):(e7 lt l).Perm l:=(List.reverse_perm _).trans (Wo lt l)
theorem Wp(l:List ai):(tM lt l).length=l.length:=(Wo lt l).length_eq
theorem Hb(l:List ai):(e7 lt l).length=l.length:=(Dy lt l).length_eq
theorem Wq{l:List ai}{x:ai}:x∈e7 lt l<->x∈l:=(Dy lt l).mem_iff
theorem akk(l:List ai)(e:ai):tM lt (l++[e])=pg lt e (tM lt l):=by simp[tM]
def qd(l:List ai)(n:Nat):List ai:=(tM lt (l.take n)).reverse++l.drop n
theorem akl(l:List ai):qd lt l 1=l:=by
 cases l with
 | nil=>rfl
 | cons x l=>rfl
theorem akm(l:List ai):qd lt l l.length=e7 lt l:=by simp[qd,e7]
theorem akn(l:List ai)(n:Nat)(h:n<=l.length):(qd lt l n).length=l.length:=by
 simp[qd,Wp,Nat.min_eq_left h];omega
theorem ako{l:List ai}{n:Nat}(h:n<l.length):vg d lt (qd lt l n) n=qd lt l (n+1):=by
 have e1:(tM lt (l.take n)).length=n:=by rw[Wp];grind
 have:=Wm d lt (tM lt (l.take n)) l[n] (l.drop (n+1));rw[e1]at this;unfold qd;rw[List.drop_eq_getElem_cons h,this,List.take_add_one,List.getElem?_eq_getElem h,Option.toList_some,akk]
theorem ND(b1:∀ a b,lt a b=false->lt b a=true\/lt b a=false)(tr:∀ a b c:ai,lt a b=false->lt b c=false->lt a c=false)(Wr:∀ a b,lt a b=true->lt b a=false)(e:ai):∀ r:List ai,r.Pairwise (λa b=>lt a b=false)->(pg lt e r).Pairwise (λa b=>lt a b=false)
 | [],_=>by simp[pg]
 | a::r,h=>by
  rw[List.pairwise_cons]at h;unfold pg;split
  ·rename_i he;refine List.pairwise_cons.2 ⟨λx hx=>?_,ND b1 tr Wr e r h.2⟩;rcases List.mem_cons.1 ((NC lt e r).mem_iff.1 hx) with rfl | hx
   ·exact Wr _ _ he
   ·exact h.1 x hx
  ·rename_i he;have he:lt e a=false:=by grind
   refine List.pairwise_cons.2 ⟨λx hx=>?_,List.pairwise_cons.2 h⟩;grind
end
def gU(a b:Int):Bool:=decide (a<b)
def hG(a b:bg):Bool:=decide (a.2<b.2)
theorem Ws:∀ (l r:z1'),r.Pairwise (λa b=>gU a b=false)->(l.foldl (λr e=>pg gU e r) r).Pairwise (λa b=>gU a b=false)
 | [],r,h=>h
 | x::l,r,h=>Ws l _ (ND gU (λa b _=>by simp) (λa b c h1 h2=>by simp[gU]at *;omega) (λa b h=>by simp[gU]at *;omega) x r h)
theorem NF(l:z1'):(e7 gU l).Pairwise (·<=·):=by
 have:=Ws l [] .nil;unfold e7;rw[List.pairwise_reverse];exact this.imp λh=>by simp[gU]at h;exact h
theorem Wt:∀ (l r:List bg),r.Pairwise (λa b=>hG a b=false)->(l.foldl (λr e=>pg hG e r) r).Pairwise (λa b=>hG a b=false)
 | [],r,h=>h
 | x::l,r,h=>Wt l _ (ND hG (λa b _=>by simp) (λa b c h1 h2=>by simp[hG]at *;omega) (λa b h=>by simp[hG]at *;omega) x r h)
theorem akp(l:List bg):(e7 hG l).Pairwise λa b=>a.2<=b.2:=by
 have:=Wt l [] .nil;unfold e7;rw[List.pairwise_reverse];exact this.imp λh=>by simp[hG]at h;exact h
theorem z_{l m:z1'}(h:m.Pairwise (·<=·))(hp:l.Perm m):e7 gU l=m:=
 List.Perm.eq_of_pairwise (λa b _ _ h1 h2=>by omega) (NF l) h ((Dy gU l).trans hp)
theorem Wu{l m:z1'}(hp:l.Perm m):e7 gU l=e7 gU m:=z_ (NF m) (hp.trans (Dy gU m).symm)
theorem akq{ai:Type}{d:ai}{lt:ai->ai->Bool}{A aD:Type}{body:A->M (V A aD)}{s0:A}(mk:Nat->List ai->A)(fin:List ai->aD)(gP:Nat)(eS:List ai)(mF:s0=mk gP eS)(my:gP<eS.length)
  (hs:∀ k l,l.length=eS.length->k<eS.length->body (mk k l)=M.pure (if 0<k/\lt (l.getD k d) (l.getD (k - 1) d)=true then .next (mk (k - 1) ((l.set k (l.getD (k - 1) d)).set (k - 1) (l.getD k d))) else .done (fin l))) :
  M.loop body s0=M.pure (fin (vg d lt eS gP)):=by
 subst mF;have key:∀ k l,l.length=eS.length->k<eS.length->M.loop body (mk k l)=M.pure (fin (vg d lt l k)):=by
  intro k;induction k with
  | zero=>
   intro l ah an;exact M.sO (by rw[hs 0 l ah an,if_neg (by simp)];rfl)
  | succ k aG=>
   intro l ah an;unfold vg;by_cases h:lt (l.getD (k+1) d) (l.getD k d)=true
   ·rw[if_pos h,M.Bg (s':=mk k ((l.set (k+1) (l.getD k d)).set k (l.getD (k+1) d)))]
    ·exact aG _ (by simpa using ah) (by omega)
    ·rw[hs (k+1) l ah an,if_pos ⟨by omega,h⟩];rfl
   ·rw[if_neg h];exact M.sO (by grind)
 grind
theorem NG{ai:Type}{l:List ai}{d:ai}{k:Nat}:l.getD ((k:Int) - 1).toNat d=l.getD (k - 1) d:=by
 simp
theorem Wv{ai:Type}{l:List ai}{d:ai}{k:Nat}:l.getD ((k:Int)).toNat d=l.getD k d:=by rfl
theorem akr{A aD:Type}{c:Bool}{p:Prop}[Decidable p](h:c=decide p){x y:M (V A aD)}{a b:V A aD}(h1:p->x=M.pure a)(h2:¬p->y=M.pure b):(if c=true then x else y)=M.pure (if p then a else b):=by
 grind
def Hc(x:Int×Int×(bg×aT×Int->M Int)×List bg×Unit):M (List bg×Unit):=M.dt (x.1=0/\x.2.1=(x.2.2.2.1.length:Int)/\x.2.2.2.1.length<=12/\x.2.2.1=lG.sh) (e7 hG x.2.2.2.1,())
theorem aks(x):M.le (Wc x) (Hc x):=M.bj λh=>by
 obtain⟨a,b,f,l,u⟩:=x;obtain⟨h1,h2,h3,aQ⟩:=h;change a=0 at h1;change b=(l.length:Int) at h2;change l.length<=12 at h3;change f=lG.sh at aQ;subst h1;subst h2;subst aQ;unfold Wc;rw[M.dm (List.range (l.length - 1)) (λi (_:Unit)=>(0,(l.length:Int),lG.sh,((i+1:Nat):Int),qd hG l (i+1),())) (λ_ _=>.next ()) (λ_=>(e7 hG l,())) () ?_ ?_ ?_]
 ·rw[dV]
 ·show (0,(l.length:Int),lG.sh,IntKind.wrap .i64 (Add.add 0 1),l,())=(0,(l.length:Int),lG.sh,((0+1:Nat):Int),qd hG l (0+1),())
  rw[akl];rfl
 ·intro i E _;have E:i+1<l.length:=by grind
  have ah:=akn hG l (i+1) (by omega);have hw:=bo (n:=((i+1:Nat):Int)+1) (by omega) (by omega);have ar:decide (((i+1:Nat):Int)<(l.length:Int))=true:=by grind
  simp only[ar,if_true];rw[akq (d:=((0,0,0,0,0,0),0)) (lt:=hG) (λk m=>(0,(l.length:Int),lG.sh,((i+1:Nat):Int),(k:Int),m,())) (λm=>.next (0,(l.length:Int),lG.sh,((i+1:Nat):Int),m,())) (i+1) (qd hG l (i+1)) rfl (by omega) ?_]
  ·simp only[M.aE,M.bL,b8,hw,ako ((0,0,0,0,0,0),0) hG E];rfl
  ·intro k m aj an;have gA:0<k->IntKind.wrap .i64 ((k:Int) - 1)=(k:Int) - 1:=λ_=>bo (by omega) (by omega);by_cases my:0<k
   ·have hp:decide ((k:Int) > 0)=true:=by grind
    have bY:(0:Int)<=(k:Int)/\(k:Int)<Int.ofNat m.length:=⟨by omega,by grind⟩
    have cm:(0:Int)<=(k:Int) - 1/\(k:Int) - 1<Int.ofNat m.length:=⟨by omega,by omega⟩
    have dQ:(0:Int)<=(k:Int) - 1/\(k:Int) - 1<Int.ofNat (m.set k (m.getD (k - 1) ((0,0,0,0,0,0),0))).length:=⟨by omega,by grind⟩
    have Hd:((k:Int) - 1)=((k - 1:Nat):Int):=by omega
    simp only[hp,gA my,bY,cm,forall_const,and_self,true_and,M.bf,aJ.sh,lG,M.ni,M.ki,M.aE,if_true,Bool.true_and,NG,Wv,Int.toNat_natCast,dQ];rw[show ((k:Int) - 1).toNat=k - 1 from by omega];refine akr (p:=0<k/\hG (m.getD k ((0,0,0,0,0,0),0)) (m.getD (k - 1) ((0,0,0,0,0,0),0))=true) ?_ (λ_=>?_) (λ_=>rfl)
    ·rw[Bool.eq_iff_iff];simp only[hG,my,true_and,decide_eq_true_eq];grind
    rw[Hd]
   ·have Ww:k=0:=by omega
    subst Ww;simp[bS]
 ·intro _;have e:qd hG l (l.length - 1+1)=e7 hG l:=by
   cases l with
   | nil=>rfl
   | cons x r=>exact akm hG (x::r)
  have ar:decide (((l.length - 1+1:Nat):Int)<(l.length:Int))=false:=by grind
  simp only[List.length_range,ar,Bool.false_eq_true,if_false,e,M.aE]
def He(x:Int×Int×Int×(bg×aT×Int->M Int)×List bg×Unit):M (List bg×Unit):=M.dt (x.1=0/\x.2.1=(x.2.2.2.2.1.length:Int)/\x.2.2.2.2.1.length<=12/\x.2.2.2.1=lG.sh) (e7 hG x.2.2.2.2.1,())
theorem akt(x):M.le (Wi Hc x) (He x):=M.bj λh=>by
 obtain⟨a,b,c,f,l,u⟩:=x;obtain⟨h1,h2,h3,aQ⟩:=h;change a=0 at h1;change b=(l.length:Int) at h2;change l.length<=12 at h3;change f=lG.sh at aQ;subst h1;subst h2;subst aQ;unfold Wi;refine M.sO ?_;have hw:=bo (n:=(l.length:Int) - 0) (by omega) (by omega);have ar:decide ((l.length:Int) - 0<=12)=true:=by grind
 simp only[hw,ar,if_true];unfold Hc;simp_all
theorem aku{n:Int}(h:0<=n)(h2:n<=12):IntKind.wrap .u64 n=n:=by
 show (if (false&&decide (n % 2 ^ 64>=(2 ^ (64 - 1):Int)))=true then n % 2 ^ 64 - 2 ^ 64 else n % 2 ^ 64)=n;grind
def xL(x:z1'×Unit):M (z1'×Unit):=M.dt (x.1.length<4611686018427387904) (e7 gU x.1,())
def z'(x:(bg×aT×Int->M Int)×List bg×Unit):M (List bg×Unit):=M.dt (x.2.1.length<=12/\x.1=lG.sh) (e7 hG x.2.1,())
theorem akv(x):M.le (Wk NB.sh He x) (z' x):=M.bj λh=>by
 obtain⟨f,l,u⟩:=x;obtain⟨h,aQ⟩:=h;change l.length<=12 at h;change f=lG.sh at aQ;subst aQ;unfold Wk;have hw:=aku (n:=(l.length:Int)) (by omega) (by omega);show M.bind (M.dt (0<=IntKind.wrap .u64 (l.length:Int)/\IntKind.wrap .u64 (l.length:Int)<=12) _) _=_;rw[M.dj,M.bn (by omega)];unfold He;simp_all
def Aa(x:(z1'->Prop)×Unit):M (z1'×Unit):=⟨(∃ L,x.1 L)/\∀ L,x.1 L->L.length<60000,λy=>x.1 y.1⟩
theorem Wx:∀ (L acc:z1'),L.length+acc.length<60000->jx (λ(A:z1'×Unit) (y:Int)=>M.bind (M.ae (bX (Add.add (List.length A.1) (Add.add 0 1))) (M.pure (cO.normal,A.1++[y],()))) λp=>M.pure (p.1,p.2.1,())) L (acc,())=M.pure (.normal,acc++L,())
 | [],acc,_=>by simp[jx]
 | x::L,acc,h=>by
  simp only[List.length_cons]at h;unfold jx;rw[M.bn (hr (by grind))];simp only[M.aE];rw[Wx L (acc++[x]) (by grind)];simp
theorem akw(x):M.le (V' x) (Aa x):=λh=>by
 obtain⟨S,u⟩:=x;obtain⟨h1,h2⟩:=h;show M.b9 _ _;unfold V';rw[M.fF];refine⟨h1,λL hU=>?_⟩;have hU:S L:=hU;show M.b9 (M.bind (jx _ L ([],())) _) _;rw[Wx L [] (by grind)];simp only[M.aE,rV,List.nil_append];exact M.dC.2 hU
theorem akx(x):M.le (Wa Aa x) (Aa x):=λh=>by
 obtain⟨S,u⟩:=x;show M.b9 _ _;unfold Wa;rw[M.fF];exact⟨h,λy aK=>M.dC.2 aK⟩
open Classical in
def Ab(S:z1'->Prop):z1':=if h:∃ L,S L then e7 gU h.choose else []
abbrev sf:aJ:=⟨.b6 tI,fE,λS=>(∃ L,S L)/\(∀ L L',S L->S L'->L.Perm L')/\∀ L,S L->L.length<60000,λS=>Ab S⟩
theorem aky(x):M.le (VF xL Aa x) (sf.sh x):=M.r_ λh=>by
 obtain⟨h1,h2,h3⟩:=h;unfold VF;rw[M.fF];refine⟨⟨h1,λL hU=>by grind⟩,λy aK=>?_⟩;have aK:x y.1:=aK;unfold xL;show M.b9 (M.bind (M.dt _ _) _) _;rw[M.dj,M.ko];refine⟨Nat.lt_trans (h3 _ aK) (by decide),M.dC.2 ?_⟩;show e7 gU y.1=Ab x;unfold Ab;rw[dif_pos h1];exact Wu (h2 _ _ aK h1.choose_spec)
theorem akz{S:z1'->Prop}{L:z1'}(h:S L)(h2:∀ L L',S L->S L'->L.Perm L'):Ab S=e7 gU L:=by
 have h1:∃ L,S L:=⟨L,h⟩
 unfold Ab;rw[dif_pos h1];exact Wu (h2 _ _ h1.choose_spec h)
def jD{ai:Type}(x:Option (List (Int×ai)))(L:z1'):Prop:=∃ m,x=some m/\(m.map (·.1)).Perm L
abbrev Hf:aJ:=⟨.map tI tI,.b6 tI,λ_=>True,λx=>jD (some x)⟩
theorem akA(x):M.le (ajx jD x) (Hf.sh x):=M.bj λ_=>rfl
abbrev xM:aJ:=⟨.map tI gS,.b6 tI,λ_=>True,λx=>jD (some x)⟩
theorem akB(x):M.le (ajO jD x) (xM.sh x):=M.bj λ_=>rfl
theorem tN{ai:Type}{m:List (Int×ai)}{L:z1'}:jD (some m) L<->(m.map (·.1)).Perm L:=⟨λ⟨c7,h,k⟩=>by grind,λh=>⟨m,rfl,h⟩⟩
theorem Wy{ai:Type}{m:List (Int×ai)}(h:m.length<60000):sf.pre (jD (some m)):=
 ⟨⟨_,tN.2 (.refl _)⟩,λL L' h1 h2=>(tN.1 h1).symm.trans (tN.1 h2),λL hU=>by rw[<-(tN.1 hU).length_eq];grind⟩
theorem Wz{ai:Type}{m:List (Int×ai)}:Ab (jD (some m))=e7 gU (m.map (·.1)):=
 akz (tN.2 (.refl _)) λL L' h1 h2=>(tN.1 h1).symm.trans (tN.1 h2)
end Go.Fer.H
namespace Go.Fer.H
open M (V)
def sg(s:Int×Int):Bool:=bK s.1 (-30) s.2&&!decide (s.2 > 30)
def iz(l:z4')(i:Nat):Bool:=bK (l.getD i (0,0)).1 0 (l.getD i (0,0)).2&&!decide ((l.getD i (0,0)).2 > 9999)&&!(decide (0<i)&&decide ((l.getD i (0,0)).1<=(l.getD (i - 1) (0,0)).2))
def Ac(l:z4'):Bool:=(List.range l.length).all (iz l)
def si(c:aP):Bool:=!(decide ((c.1.length:Int) > 3)||decide ((c.2.1.length:Int) > 12)||decide ((c.2.2.1.length:Int) > 12)||decide ((c.2.2.2.1.length:Int) > 4))&&pf c.2.2.2.2
def jE(c:aP):Bool:=si c&&c.1.all sg&&c.2.1.all (k2 c.1.length)&&c.2.2.1.all (λn=>bK n 0 99)&&Ac c.2.2.2.1
abbrev vh:aJ:=⟨jd,cP,h',λc=>jE c⟩
theorem Hg{A aD β:Type}{mk:β->A}{b:β}{q:Bool}{r:aD}{m:M (V A aD)}(h1:q=true->m=M.pure (.next (mk b)))(h2:q=false->m=M.pure (.done r)):m=M.pure (V.gQ mk (if (!q)=true then .done r else .next b)):=by
 cases q
 ·exact h2 rfl
 ·exact h1 rfl
theorem WA{ai:Type}{a t:Bool}{m n:ai}:(if (a||!(if (!a)=true then t else false))=true then m else n)=if (!a&&t)=true then n else m:=by grind
theorem akC(x):M.le (VQ b5.sh vf.sh fcSlip.sh x) (vh.sh x):=M.bj λh=>by
 obtain⟨aM,aO,bz,f'⟩:=h;unfold VQ;show _=M.pure (jE x);simp only[aJ.sh,vf,M.ni,M.ki,M.aE,bH,WA];unfold jE;rw[show (!(decide ((x.1.length:Int) > 3)||decide ((x.2.1.length:Int) > 12)||decide ((x.2.2.1.length:Int) > 12)||decide ((x.2.2.2.1.length:Int) > 4))&&pf x.2.2.2.2)=si x from rfl];cases aa:si x with
 | false=>rfl
 | true=>
  rw[if_pos rfl];rw[M.dm x.1 (λi (_:Unit)=>((i:Int),x,())) (λy b=>if (!sg y)=true then .done (.done false) else .next b) (λ_=>.next (x,())) () ?_ ?_ ?_]
  ·rw[ky (q:=sg) _ _ (λ_=>rfl)];cases hc:x.1.all sg with
   | false=>simp
   | true=>
    simp only[if_true,M.aE,M.bL];rw[M.dm x.2.1 (λi (_:Unit)=>((i:Int),x,())) (λy b=>if (!k2 x.1.length y)=true then .done (.done false) else .next b) (λ_=>.next (x,())) () ?_ ?_ ?_]
    ·rw[ky (q:=k2 x.1.length) _ _ (λ_=>rfl)];cases ar:x.2.1.all (k2 x.1.length) with
     | false=>simp
     | true=>
      simp only[if_true,M.aE,M.bL];rw[M.dm x.2.2.1 (λi (_:Unit)=>((i:Int),x,())) (λy b=>if (!bK y 0 99)=true then .done (.done false) else .next b) (λ_=>.next (x,())) () ?_ ?_ ?_]
      ·rw[ky (q:=λn=>bK n 0 99) _ _ (λ_=>rfl)];cases he:x.2.2.1.all (λn=>bK n 0 99) with
       | false=>simp
       | true=>
        simp only[if_true,M.aE,M.bL];rw[M.dm (List.range x.2.2.2.1.length) (λi (_:Unit)=>((i:Int),x,())) (λy b=>if (!iz x.2.2.2.1 y)=true then .done (.done false) else .next b) (λ_=>.next ()) () ?_ ?_ ?_]
        ·rw[ky (q:=iz x.2.2.2.1) _ _ (λ_=>rfl)];unfold Ac;cases (List.range x.2.2.2.1.length).all (iz x.2.2.2.1)<;>simp
        ·rfl
        ·intro i E b;have E:i<x.2.2.2.1.length:=by grind
         have hw:=bo (n:=(i:Int)+1) (by omega) (by omega);have gA:=bo (n:=(i:Int) - 1) (by omega) (by omega);have je:x.2.2.2.1.getD i (0,0)=x.2.2.2.1[i]:=by grind
         have ep:(decide ((i:Int) > 0))=decide (0<i):=by simp
         have G:decide (0<i)=true->((0:Int)<=(i:Int) - 1/\(i:Int) - 1<(x.2.2.2.1.length:Int)):=λh=>by grind
         refine Hg (mk:=λ(_:Unit)=>(((i+1:Nat):Int),x,())) (b:=b) ?_ ?_<;>intro bd<;>
         ·simp only[List.getElem_range,iz,je]at bd;simp only[bH,cH E,if_true,cZ E,cv E,M.bf,aJ.sh,b5,M.ni,M.iC,M.fg,b8,hw,gA,ep,NG,List.getElem_range];revert bd;generalize bK x.2.2.2.1[i].1 0 x.2.2.2.1[i].2=dr;generalize decide (x.2.2.2.1[i].2 > 9999)=eC;generalize decide (x.2.2.2.1[i].1<=(x.2.2.2.1.getD (i - 1) (0,0)).2)=mi;revert G;generalize decide (0<i)=rs;intro G;cases rs
          ·cases dr<;>cases eC<;>cases mi<;>simp
          ·have G:=G rfl;cases dr<;>cases eC<;>cases mi<;>simp[G,(by omega:(1:Int)<=(i:Int))]
        simp
      ·rfl
      ·intro i E b;have hw:=bo (n:=(i:Int)+1) (by omega) (by omega);simp only[bH,cH E,if_true,cZ E,cv E,M.bf,aJ.sh,b5,M.ni,M.aE,b8,hw];exact mH (mk:=λ(_:Unit)=>(((i+1:Nat):Int),x,()))
      simp
    ·rfl
    ·intro i E b;have hw:=bo (n:=(i:Int)+1) (by omega) (by omega);simp only[bH,cH E,if_true,cZ E,cv E,M.bf,aJ.sh,fcSlip,M.nI,M.gm,M.aE,b8,hw];rw[M.bn aM];exact mH (mk:=λ(_:Unit)=>(((i+1:Nat):Int),x,()))
    simp
  ·rfl
  ·intro i E b;have hw:=bo (n:=(i:Int)+1) (by omega) (by omega);refine Hg (mk:=λ(_:Unit)=>(((i+1:Nat):Int),x,())) (b:=b) ?_ ?_<;>intro bd<;>
   ·simp only[sg]at bd;simp only[bH,cH E,if_true,cZ E,cv E,M.bf,aJ.sh,b5,M.ni,M.iC,M.fg,b8,hw];revert bd;generalize bK x.1[i].1 (-30) x.1[i].2=dr;generalize decide (x.1[i].2 > 30)=eC;simp_all
  simp
theorem WB{ai:Type}{p:ai->Bool}(l:List ai):(l.any λy=>!p y)=!l.all p:=by grind
theorem akD(x):M.le (VP b5.sh (iO gS).sh vf.sh (iO tI).sh Dx.sh z8.sh x) (vh.sh x):=M.bj λh=>by
 obtain⟨aM,aO,bz,f'⟩:=h;unfold VP;show _=M.pure (jE x);simp only[show vf.sh x.2.2.2.2=M.pure (pf x.2.2.2.2) from rfl,M.ki,M.aE,bH,WA];unfold jE;rw[show (!(decide ((x.1.length:Int) > 3)||decide ((x.2.1.length:Int) > 12)||decide ((x.2.2.1.length:Int) > 12)||decide ((x.2.2.2.1.length:Int) > 4))&&pf x.2.2.2.2)=si x from rfl];cases aa:si x with
 | false=>rfl
 | true=>
  rw[if_pos rfl];rw[M.dm x.1 (λi (_:Unit)=>(x.1,(x.1.length:Int),(i:Int),x,())) (λy b=>if (!sg y)=true then .done (.done false) else .next b) (λ_=>.next (x,())) () ?_ ?_ ?_]
  ·rw[ky (q:=sg) _ _ (λ_=>rfl)];cases hc:x.1.all sg with
   | false=>simp
   | true=>
    simp only[if_true,M.aE,M.bL];rw[M.dm (List.range x.2.2.2.1.length) (λi (_:Unit)=>(x.2.2.2.1,(x.2.2.2.1.length:Int),(i:Int),x,())) (λy b=>if (!iz x.2.2.2.1 y)=true then .done (.done false) else .next b) (λ_=>.next (x,())) () ?_ ?_ ?_]
    ·rw[ky (q:=iz x.2.2.2.1) _ _ (λ_=>rfl)];unfold Ac;cases ar:(List.range x.2.2.2.1.length).all (iz x.2.2.2.1) with
     | false=>simp
     | true=>
      simp only[if_true,M.aE,M.bL];have e1:(iO gS).sh (x.2.1,λy=>Dx.sh (y,some x))=M.pure (!x.2.1.all (k2 x.1.length)):=by
       have aq:∀ y,Dx.sh (y,some x)=M.pure (!k2 x.1.length y):=λy=>M.bE ⟨x,rfl,aM⟩ _;refine (M.bE ⟨aO,λy _=>⟨_,aq y⟩⟩ _).trans ?_;refine congrArg M.pure ?_;rw[<-WB];simp_all
      have e2:(iO tI).sh (x.2.2.1,z8.sh)=M.pure (!x.2.2.1.all (λn=>bK n 0 99)):=by
       refine (M.bE ⟨bz,λy _=>⟨_,rfl⟩⟩ _).trans ?_;refine congrArg M.pure ?_;rw[<-WB];show (x.2.2.1.any λy=>(z8.sh y).val false)=_;simp only[show ∀ y,z8.sh y=M.pure (!bK y 0 99) from λ_=>rfl,M.fg]
      rw[e1,e2];simp only[M.aE,M.ki];grind
    ·rfl
    ·intro i E b;have E:i<x.2.2.2.1.length:=by grind
     have hw:=bo (n:=(i:Int)+1) (by omega) (by omega);have gA:=bo (n:=(i:Int) - 1) (by omega) (by omega);have je:x.2.2.2.1.getD i (0,0)=x.2.2.2.1[i]:=by grind
     have ep:(decide ((i:Int) > 0))=decide (0<i):=by simp
     have G:decide (0<i)=true->((0:Int)<=(i:Int) - 1/\(i:Int) - 1<(x.2.2.2.1.length:Int)):=λh=>by grind
     refine Hg (mk:=λ(_:Unit)=>(x.2.2.2.1,(x.2.2.2.1.length:Int),((i+1:Nat):Int),x,())) (b:=b) ?_ ?_<;>intro bd<;>
     ·simp only[List.getElem_range,iz,je]at bd;simp only[bH,cH E,if_true,cZ E,cv E,M.bf,aJ.sh,b5,M.ni,M.iC,M.fg,b8,hw,gA,ep,NG,List.getElem_range];revert bd;generalize bK x.2.2.2.1[i].1 0 x.2.2.2.1[i].2=dr;generalize decide (x.2.2.2.1[i].2 > 9999)=eC;generalize decide (x.2.2.2.1[i].1<=(x.2.2.2.1.getD (i - 1) (0,0)).2)=mi;revert G;generalize decide (0<i)=rs;intro G;cases rs
      ·cases dr<;>cases eC<;>cases mi<;>simp
      ·have G:=G rfl;cases dr<;>cases eC<;>cases mi<;>simp[G,(by omega:(1:Int)<=(i:Int))]
    simp
  ·rfl
  ·intro i E b;have hw:=bo (n:=(i:Int)+1) (by omega) (by omega);refine Hg (mk:=λ(_:Unit)=>(x.1,(x.1.length:Int),((i+1:Nat):Int),x,())) (b:=b) ?_ ?_<;>intro bd<;>
   ·simp only[sg]at bd;simp only[bH,cH E,if_true,cZ E,cv E,M.bf,aJ.sh,b5,M.ni,M.aE,b8,hw];grind
  simp
abbrev jf:aT:=(0,0,0,0,0,0)
def kE(l:List aT):Bool:=(List.range l.length).any λi=>(List.range i).any λk=>tL (l.getD k jf) (l.getD i jf)
def cr(c:aP):Int:=if jE c=true then (if kE c.2.1=true then 91 else 0) else 90
abbrev hH:aJ:=⟨jd,tI,h',λc=>cr c⟩
theorem sj{ai:Type}{l:List ai}{i:Nat}{d:ai}(h:i<l.length):l.getD i d=l[i]:=by grind
theorem akE(x):M.le (Vy vh.sh G'.sh x) (hH.sh x):=M.bj λh=>by
 obtain⟨aM,aO,bz,f'⟩:=id h;unfold Vy;show _=M.pure (cr x);rw[show vh.sh x=M.pure (jE x) from M.bE h _];unfold cr;cases jE x with
 | false=>simp
 | true=>
  simp only[M.aE,Bool.not_true,Bool.false_eq_true,if_false,if_true];rw[M.dm (List.range x.2.1.length) (λi (_:Unit)=>((i:Int),x,())) (λi b=>if ((List.range i).any λk=>tL (x.2.1.getD k jf) (x.2.1.getD i jf))=true then .done (.done 91) else .next b) (λ_=>.next ()) () ?_ ?_ ?_]
  ·rw[q6];unfold kE;cases (List.range x.2.1.length).any λi=>(List.range i).any λk=>tL (x.2.1.getD k jf) (x.2.1.getD i jf)<;>simp
  ·rfl
  ·intro i E b;have E:i<x.2.1.length:=by grind
   have hw:=bo (n:=(i:Int)+1) (by omega) (by omega);have ar:decide ((i:Int)<Int.ofNat x.2.1.length)=true:=cH E;simp only[ar,if_true,List.getElem_range];rw[M.dm (List.range i) (λk (_:Unit)=>((i:Int),(k:Int),x,())) (λk b=>if tL (x.2.1.getD k jf) (x.2.1.getD i jf)=true then .done (.done (.done (.done 91))) else .next b) (λ_=>(.next ((i:Int),x,()):V (Int×aP×Unit) (V (Int×aP×Unit) (V Unit Int)))) () ?_ ?_ ?_]
   ·rw[q6];cases (List.range i).any λk=>tL (x.2.1.getD k jf) (x.2.1.getD i jf)<;>simp[hw]
   ·rfl
   ·intro k an b;have an:k<i:=by grind
    have vj:k<x.2.1.length:=by omega
    have hw:=bo (n:=(k:Int)+1) (by omega) (by omega);have ar:decide ((k:Int)<(i:Int))=true:=by grind
    simp only[ar,if_true,bH,cv vj,cv E,M.bf,aJ.sh,G',M.ni,M.iC,M.fg,M.aE,b8,hw,List.getElem_range,Wv];exact mH (mk:=λ(_:Unit)=>((i:Int),((k+1:Nat):Int),x,()))
   simp
  simp
def eO(l:List aT):List aT:=(dR 0 99).filterMap λid=>l.find? λs=>s.1 == id
def e8(c:aP):List aT:=(eO c.2.1).filter λs=>!c.2.2.1.contains s.1
theorem akF(l:List aT):(eO l).length<=100:=by
 refine Nat.le_trans (List.length_filterMap_le _ _) ?_;rw[show (dR 0 99).length=100 from by decide];omega
def jg(m:List (Int×aT))(k:Int):Option aT:=(m.find? λp=>decide (k=p.1)).map (·.2)
def iP(m:List (Int×aT)):z1':=m.map (·.1)
theorem NH(p:Int×aT)(m:List (Int×aT))(k:Int)(v:aT):kA (p::m) k v=if decide (k=p.1)=true then (p.1,v)::m else p::kA m k v:=rfl
theorem NI(k:Int)(v:aT):kA [] k v=[(k,v)]:=rfl
theorem WC(k:Int)(v:aT):∀ m:List (Int×aT),(kA m k v).length<=m.length+1
 | []=>by rw[NI];simp
 | p::m=>by
  rw[NH];split
  ·simp
  ·simp;exact WC k v m
theorem NJ(k:Int)(v:aT)(x:Int):∀ m:List (Int×aT),jg (kA m k v) x=if x=k then some v else jg m x
 | []=>by
  rw[NI];by_cases h:x=k<;>simp[jg,h]
 | p::m=>by
  rw[NH];have aG:=NJ k v x m;unfold jg at aG ⊢;grind
theorem Dz(k:Int)(v:aT):∀ m:List (Int×aT),((iP m).Nodup->(iP (kA m k v)).Nodup)/\∀ x,x∈iP (kA m k v)<->x∈iP m\/x=k
 | []=>by rw[NI];simp[iP]
 | p::m=>by
  obtain⟨h1,h2⟩:=Dz k v m;rw[NH];by_cases h:k=p.1
  ·subst h;simp only[decide_true,if_true];refine⟨λh=>h,λx=>?_⟩;show x∈p.1::iP m<->x∈p.1::iP m\/x=p.1;grind
  ·simp only[h,decide_false,Bool.false_eq_true,if_false];refine⟨λax=>?_,λx=>?_⟩
   ·show (p.1::iP (kA m k v)).Nodup;have B4:(p.1::iP m).Nodup:=ax;grind
   ·show x∈p.1::iP (kA m k v)<->x∈p.1::iP m\/x=k;grind
theorem WD{m:List (Int×aT)}{k:Int}:k∈iP m<->(jg m k).isSome=true:=by
 unfold jg iP;simp
def Ad(l:List aT):Prop:=∀ a∈l,∀ b∈l,a.1=b.1->a=b
def qe(l:List aT)(k:Int):Option aT:=l.find? λs=>s.1 == k
def q9:List aT->List (Int×aT)->Option (List (Int×aT))
 | [],m=>some m
 | s::l,m=>if ((jg m s.1).isSome&&!decide ((jg m s.1).getD jf=s))=true then none else q9 l (kA m s.1 s)
structure tO(P:List aT)(m:List (Int×aT)):Prop where
 om:∀ k,jg m k=qe P k
 l3:(iP m).Nodup
 Ae:Ad P
 DA:m.length<=P.length
theorem WE{l:List aT}{k:Int}{s:aT}(h:qe l k=some s):s∈l/\s.1=k:=by
 unfold qe at h;grind
theorem akG{l:List aT}{k:Int}(h:qe l k=none):∀ s∈l,s.1≠k:=by
 unfold qe at h;grind
theorem tO.nil:tO [] []:=⟨λ_=>rfl,.nil,λa h=>by simp,Nat.le_refl _⟩
theorem Af:∀ (l P:List aT) (m:List (Int×aT)),tO P m->(Ad (P++l)->∃ c7,q9 l m=some c7/\tO (P++l) c7)/\(¬Ad (P++l)->q9 l m=none)
 | [],P,m,h=>by simp only[List.append_nil];exact⟨λ_=>⟨m,rfl,h⟩,λax=>absurd h.Ae ax⟩
 | s::l,P,m,h=>by
  unfold q9;rw[h.om];cases aq:qe P s.1 with
  | some o=>
   obtain⟨af,E⟩:=WE aq;by_cases he:o=s
   ·subst he;simp only[Option.isSome_some,Option.getD_some,decide_true,Bool.not_true,Bool.and_false,Bool.false_eq_true,if_false];have:=Af l (P++[o]) (kA m o.1 o) ⟨λk=>?_,(Dz _ _ _).1 h.l3,?_,?_⟩
    ·grind
    ·rw[NJ,h.om];unfold qe at aq ⊢;grind
    ·intro a aU b aa vk;simp only[List.mem_append,List.mem_singleton]at aU aa;exact h.Ae a (aU.elim id λe=>e ▸ af) b (aa.elim id λe=>e ▸ af) vk
    ·have aj:o.1∈iP m:=WD.2 (by rw[h.om,aq];rfl);have ah:(iP (kA m o.1 o)).length<=(iP m).length:=by
      have h1:=(Dz o.1 o m).1 h.l3;have h2:iP (kA m o.1 o) ⊆ iP m:=λx hx=>by
       rcases ((Dz o.1 o m).2 x).1 hx with hx | hx
       ·exact hx
       ·exact hx ▸ aj
      exact h1.length_le_of_subset h2
     have:=h.DA;simp only[iP,List.length_map]at ah;grind
   ·simp only[Option.isSome_some,Option.getD_some,he,decide_false,Bool.not_false,Bool.and_self,if_true];refine⟨λax=>absurd (ax o (by grind) s (by simp) E) he,λ_=>trivial⟩
  | none=>
   simp only[Option.isSome_none,Bool.false_and,Bool.false_eq_true,if_false];have:=Af l (P++[s]) (kA m s.1 s) ⟨λk=>?_,(Dz _ _ _).1 h.l3,?_,?_⟩
   ·grind
   ·rw[NJ,h.om];have qV:=aq;unfold qe at aq ⊢;grind
   ·have aq:=akG aq;intro a aU b aa vk;simp only[List.mem_append,List.mem_singleton]at aU aa;rcases aU with aU | rfl<;>rcases aa with aa | rfl
    ·exact h.Ae a aU b aa vk
    ·exact absurd vk (aq a aU)
    ·exact absurd vk.symm (aq b aa)
    ·rfl
   ·have:=WC s.1 s m;have:=h.DA;grind
theorem Ag(l:List aT):kE l=false<->Ad l:=by
 unfold kE tL;rw[<-Bool.not_eq_true,List.any_eq_true];constructor
 ·intro h a aU b aa vk;obtain⟨i,E,rfl⟩:=List.mem_iff_getElem.1 aU;obtain⟨k,an,rfl⟩:=List.mem_iff_getElem.1 aa;by_cases he:l[i]=l[k]
  ·exact he
  ·exfalso;have dX:i≠k:=λe=>he (by grind);rcases Nat.lt_or_gt_of_ne dX with b1 | b1
   ·refine h ⟨k,by grind,List.any_eq_true.2 ⟨i,by grind,?_⟩⟩;grind
   ·refine h ⟨i,by grind,List.any_eq_true.2 ⟨k,by grind,?_⟩⟩;grind
 ·rintro h ⟨i,E,an⟩;obtain⟨k,an,hc⟩:=List.any_eq_true.1 an;simp only[List.mem_range]at E an;rw[sj E,sj (by omega:k<l.length)]at hc;simp only[Bool.and_eq_true,decide_eq_true_eq,Bool.not_eq_true',decide_eq_false_iff_not]at hc;exact hc.2 (h _ (List.getElem_mem _) _ (List.getElem_mem _) hc.1)
theorem akH{l:List aT}:kE l=true<->¬Ad l:=by rw[<-Ag];simp
theorem WG{l:List aT}{m:List (Int×aT)}(h:tO l m)(hid:∀ s∈l,bK s.1 0 99=true):(e7 gU (iP m)).map (λk=>(jg m k).getD jf)=eO l:=by
 have e1:e7 gU (iP m)=(dR 0 99).filter λk=>(qe l k).isSome:=by
  refine z_ ?_ ?_
  ·refine List.Pairwise.filter _ ?_;unfold dR;rw[List.pairwise_map];exact (List.pairwise_lt_range).imp λh=>by omega
  ·refine (List.perm_ext_iff_of_nodup h.l3 ?_).2 λk=>?_
   ·refine List.Pairwise.filter _ ?_;unfold dR;rw[List.pairwise_map];exact (List.pairwise_lt_range).imp λh=>by omega
   ·rw[WD,h.om,List.mem_filter,qa];refine⟨λhs=>⟨?_,hs⟩,λhs=>hs.2⟩;obtain⟨s,hs⟩:=Option.isSome_iff_exists.1 hs;obtain⟨h1,h2⟩:=WE hs;exact h2 ▸ ou.1 (hid s h1)
 rw[e1];unfold eO;have:∀ L:z1',(L.filter λk=>(qe l k).isSome).map (λk=>(jg m k).getD jf)=L.filterMap λid=>l.find? λs=>s.1 == id:=by
  intro L;induction L with
  | nil=>rfl
  | cons k L aG=>
   rw[List.filter_cons,List.filterMap_cons];have e:(l.find? λs=>s.1 == k)=qe l k:=rfl;rw[e];cases aq:qe l k with
   | none=>grind
   | some s=>
    have hW:(jg m k).getD jf=s:=by rw[h.om,aq];rfl
    grind
 grind
theorem akI{l:List aT}{m:List (Int×aT)}(h:tO l m)(hid:∀ s∈l,bK s.1 0 99=true):(eO l).length<=l.length:=by
 rw[<-WG h hid,List.length_map,Hb,iP,List.length_map];exact h.DA
theorem WH{aD:Type}{r:aD}{fin:List (Int×aT)->aD}:∀ (l:List aT) (m:List (Int×aT)),eB (λs m=>if ((jg m s.1).isSome&&!decide ((jg m s.1).getD jf=s))=true then .done r else .next (kA m s.1 s)) fin l m=match q9 l m with | none=>r | some c7=>fin c7
 | [],m=>rfl
 | s::l,m=>by
  simp only[eB,q9];by_cases h:((jg m s.1).isSome&&!decide ((jg m s.1).getD jf=s))=true
  ·grind
  ·simp only[h,Bool.false_eq_true,if_false];exact WH l _
def vl(l:List aT):Prop:=l.length<=24/\∀ s∈l,bK s.1 0 99=true
abbrev Ah:aJ:=⟨.slice gS,.aw (.slice gS) .bool,vl,λl=>if kE l=true then ([],false) else (eO l,true)⟩
theorem akJ{m:List (Int×aT)}{xN:z1'}{aD:Type}(h:xN.length<=24) :
 M.loop (λ(A:z1'×Int×Int×List aT×List (Int×aT)×Unit)=>if decide (A.2.2.1<A.2.1)=true then M.ae (0<=A.2.2.1/\A.2.2.1<Int.ofNat (List.length A.1)) (M.ae (bX
 (Add.add (List.length A.2.2.2.1) (Add.add 0 1))) (M.pure (V.next (A.1,A.2.1,IntKind.wrap .i64 (Add.add A.2.2.1 1),A.2.2.2.1++[Option.getD
 (Option.map (λx=>x.2) (List.find? (λp=>decide (List.getD A.1 (Int.toNat A.2.2.1) 0=p.1)) A.2.2.2.2.1)) (0,0,0,0,0,0)],A.2.2.2.2.1,())))) else M.bind (M.pure (V.next (A.2.2.2.1,()))) λr=>M.pure (V.done r)) (xN,Int.ofNat (List.length xN),0,[],m,())=M.pure (V.next (xN.map (λk=>(jg m k).getD jf),()):V (List aT×Unit) aD):=by
 rw[M.gn xN (λi (b:List aT)=>(xN,(xN.length:Int),(i:Int),b,m,())) (λk b=>.next (b++[(jg m k).getD jf])) (λb=>.next (b,())) (λi b=>b.length=i) [] ?_ ?_ ?_ ?_]
 ·rw[dV,xz];rfl
 ·rfl
 ·rfl
 ·intro i E b aa;have hw:=bo (n:=(i:Int)+1) (by omega) (by omega);refine⟨?_,λaZ cY=>?_⟩
  ·simp only[bH,cH E,if_true,cZ E,cv E,M.bf,b8,hw];rw[M.bn (hr (by grind))];rfl
  grind
 simp
def sk{fX:Type}(R:M fX):List aT×Int×Int×List (Int×aT)×Unit->M (V (List aT×Int×Int×List (Int×aT)×Unit) (V (List (Int×aT)×Unit) fX)):=λ(A:List aT×Int×Int×List (Int×aT)×Unit)=>if decide (A.2.2.1<A.2.1)=true then M.ae (0<=A.2.2.1/\A.2.2.1 <
 Int.ofNat (List.length A.1)) (if (Option.isSome (Option.map (λx=>x.2) (List.find? (λp=>decide ((List.getD A.1 (Int.toNat A.2.2.1) (0,0,0,0,0,0)).1=p.1)) A.2.2.2.1))&&!(decide ((Option.getD (Option.map (λx=>x.2) (List.find? (λp=>decide ((List.getD A.1 (Int.toNat A.2.2.1)
 (0,0,0,0,0,0)).1=p.1)) A.2.2.2.1)) (0,0,0,0,0,0)).1=(List.getD A.1 (Int.toNat A.2.2.1) (0,0,0,0,0,0)).1)&&(decide ((Option.getD
 (Option.map (λx=>x.2) (List.find? (λp=>decide ((List.getD A.1 (Int.toNat A.2.2.1) (0,0,0,0,0,0)).1=p.1)) A.2.2.2.1)) (0,0,0,0,0,0)).2.1=(List.getD A.1 (Int.toNat A.2.2.1) (0,0,0,0,0,0)).2.1)&&(decide ((Option.getD (Option.map (λx=>x.2) (List.find? (λp=>
 decide ((List.getD A.1 (Int.toNat A.2.2.1) (0,0,0,0,0,0)).1=p.1)) A.2.2.2.1)) (0,0,0,0,0,0)).2.2.1=(List.getD A.1 (Int.toNat A.2.2.1)
 (0,0,0,0,0,0)).2.2.1)&&(decide ((Option.getD (Option.map (λx=>x.2) (List.find? (λp=>decide ((List.getD A.1 (Int.toNat A.2.2.1) (0,0,0,0,0,0)).1=p.1)) A.2.2.2.1)) (0,0,0,0,0,0)).2.2.2.1=(List.getD A.1 (Int.toNat A.2.2.1) (0,0,0,0,0,0)).2.2.2.1)&&(decide
 ((Option.getD (Option.map (λx=>x.2) (List.find? (λp=>decide ((List.getD A.1 (Int.toNat A.2.2.1) (0,0,0,0,0,0)).1=p.1)) A.2.2.2.1))
 (0,0,0,0,0,0)).2.2.2.2.1=(List.getD A.1 (Int.toNat A.2.2.1) (0,0,0,0,0,0)).2.2.2.2.1)&&decide ((Option.getD (Option.map (λx=>x.2)
 (List.find? (λp=>decide ((List.getD A.1 (Int.toNat A.2.2.1) (0,0,0,0,0,0)).1=p.1)) A.2.2.2.1)) (0,0,0,0,0,0)).2.2.2.2.2=(List.getD
 A.1 (Int.toNat A.2.2.1) (0,0,0,0,0,0)).2.2.2.2.2)))))))=true then M.bind (M.bind R λr=>M.pure (V.done r)) λr=>
 M.pure (V.done r) else M.pure (V.next (A.1,A.2.1,IntKind.wrap .i64 (Add.add A.2.2.1 1),kA A.2.2.2.1 (List.getD A.1 (Int.toNat A.2.2.1)
 (0,0,0,0,0,0)).1 (List.getD A.1 (Int.toNat A.2.2.1) (0,0,0,0,0,0)),()))) else M.bind (M.pure (V.next (A.2.2.2.1,()))) λr=>M.pure
 (V.done r)
theorem WI{fX:Type}{R:M fX}{l:List aT}(ah:l.length<=24){i:Nat}(E:i<l.length)(m:List (Int×aT)):sk R (l,(l.length:Int),(i:Int),m,())=if ((jg m l[i].1).isSome&&!decide ((jg m l[i].1).getD jf=l[i]))=true then M.bind (M.bind R λr=>M.pure (V.done r)) λr=>M.pure (V.done r) else M.pure (.next (l,(l.length:Int),((i+1:Nat):Int),kA m l[i].1 l[i],())):=by
 have hw:=bo (n:=(i:Int)+1) (by omega) (by omega);have es:=Wl ((jg m l[i].1).getD jf) l[i];unfold sk;simp only[bH,cH E,if_true,cZ E,cv E,M.bf,b8,hw];rw[show (Option.map (λx=>x.2) (List.find? (λp=>decide (l[i].1=p.1)) m))=jg m l[i].1 from rfl];grind
theorem WJ{fX:Type}{R:M fX}{l:List aT}(m:List (Int×aT)):sk R (l,(l.length:Int),(l.length:Int),m,())=M.pure (.done (.next (m,()))):=by
 unfold sk;simp
def Ai{fX:Type}(k:List aT->M fX):List (Int×aT)×Unit->M fX:=λ(A:List (Int×aT)×Unit)=>M.bind (M.bind
 (xM.sh A.1) λy=>M.bind (sf.sh y) λy=>M.loop (λ(A:z1'×Int×Int×List aT×
 List (Int×aT)×Unit)=>if decide (A.2.2.1<A.2.1)=true then M.ae (0<=A.2.2.1/\A.2.2.1<Int.ofNat (List.length A.1)) (M.ae (bX
 (Add.add (List.length A.2.2.2.1) (Add.add 0 1))) (M.pure (V.next (A.1,A.2.1,IntKind.wrap .i64 (Add.add A.2.2.1 1),A.2.2.2.1++[Option.getD
 (Option.map (λx=>x.2) (List.find? (λp=>decide (List.getD A.1 (Int.toNat A.2.2.1) 0=p.1)) A.2.2.2.2.1)) (0,0,0,0,0,0)],A.2.2.2.2.1,())))) else M.bind (M.pure (V.next (A.2.2.2.1,()))) λr=>M.pure (V.done r)) (y,Int.ofNat (List.length y),0,[],A.1,())) (V.bm λ(A
 : List aT×Unit)=>k A.1)
theorem akK{l:List aT}{m:List (Int×aT)}(eb:tO l m)(hid:vl l){fX:Type}(k:List aT->M fX):Ai k (m,())=k (eO l):=by
 obtain⟨ah,hid⟩:=hid;have hp:sf.pre (jD (some m)):=Wy (by have:=eb.DA;omega);have e:sf.sh (jD (some m))=M.pure (e7 gU (iP m)):=by
  refine (M.bE hp _).trans (congrArg M.pure ?_);exact Wz
 unfold Ai;show M.bind (M.bind (xM.sh m) _) _=_;rw[show xM.sh m=M.pure (jD (some m)) from rfl,M.aE,e,M.aE,akJ (by rw[Hb,iP,List.length_map];have:=eb.DA;omega),M.aE,M.bL,WG eb hid]
theorem WK(l:List aT)(h:vl l)(hc:kE l=false){fX:Type}(k:List aT->M fX)(R:M fX) :
  M.bind (M.loop (sk R) (l,Int.ofNat (List.length l),0,[],())) (V.bm (Ai k))=k (eO l):=by
 have ax:=(Ag l).1 hc;obtain⟨h1,_⟩:=Af l [] [] .nil;rw[List.nil_append]at h1;obtain⟨m,aj,eb⟩:=h1 ax;have key:M.loop (sk R) (l,Int.ofNat (List.length l),0,[],())=M.pure (.next (m,())):=by
  have gen:∀ (k:Nat) (i:Nat) (c7:List (Int×aT)),l.length - i=k->i<=l.length->q9 (l.drop i) c7=some m->tO (l.take i) c7->M.loop (sk R) (l,(l.length:Int),(i:Int),c7,())=M.pure (.next (m,())):=by
   intro k;induction k with
   | zero=>
    intro i c7 an E af _;have:i=l.length:=by omega
    subst this;rw[List.drop_length]at af;simp only[q9,Option.some.injEq]at af;subst af;exact M.sO (WJ _)
   | succ k aG=>
    intro i c7 an E af Mq;have E:i<l.length:=by omega
    rw[List.drop_eq_getElem_cons E]at af;unfold q9 at af;split at af
    ·cases af
    ·rename_i Fe;refine (M.Bg ((WI h.1 E c7).trans (if_neg Fe))).trans ?_;refine aG (i+1) _ (by omega) E af ?_;obtain⟨g1,_⟩:=Af [l[i]] (l.take i) c7 Mq;have ph:l.take i++[l[i]]=l.take (i+1):=by simp
     rw[ph]at g1;obtain⟨aw0,e1,e2⟩:=g1 λa aU b aa=>ax a (List.mem_of_mem_take aU) b (List.mem_of_mem_take aa);unfold q9 at e1;rw[if_neg Fe]at e1;simp only[q9,Option.some.injEq]at e1;grind
  exact gen l.length 0 [] rfl (Nat.zero_le _) aj .nil
 rw[key,M.aE,M.bL,akK eb h]
theorem akL(l:List aT)(h:vl l)(hc:kE l=true){fX:Type}(k:List aT->M fX)(r:fX) :
  M.bind (M.loop (sk (M.pure r)) (l,Int.ofNat (List.length l),0,[],())) (V.bm (Ai k))=M.pure r:=by
 rw[M.dm l (λi (m:List (Int×aT))=>(l,(l.length:Int),(i:Int),m,())) (λs m=>if ((jg m s.1).isSome&&!decide ((jg m s.1).getD jf=s))=true then (.done (.done r):V (List (Int×aT)) (V (List (Int×aT)×Unit) _)) else .next (kA m s.1 s)) (λm=>.next (m,())) [] ?_ ?_ ?_]
 ·rw[WH];obtain⟨_,h2⟩:=Af l [] [] .nil;rw[h2 (akH.1 hc)];simp
 ·rfl
 ·intro i E m;rw[WI h.1 E m,M.aE,M.aE];exact UH (mk:=λ(m:List (Int×aT))=>(l,(l.length:Int),((i+1:Nat):Int),m,()))
 ·intro m;exact WJ m
theorem akM(x):M.le (ajH sf.sh xM.sh x) (Ah.sh x):=M.bj λh=>by
 show M.bind (M.loop (sk (M.pure ([],false))) (x,Int.ofNat (List.length x),0,[],())) (V.bm (Ai λa=>M.pure (a,true)))=M.pure (if kE x=true then ([],false) else (eO x,true));cases hc:kE x with
 | true=>exact akL x h hc _ _
 | false=>exact WK x h hc _ _
def Hh(x:List aT×Unit):M (Bool×List aT×Unit):=M.dt (vl x.1/\kE x.1=false) (true,eO x.1,())
theorem akN(x):M.le (ajU sf.sh xM.sh x) (Hh x):=M.bj λh=>by
 show M.bind (M.loop (sk (M.pure (false,[],()))) (x.1,Int.ofNat (List.length x.1),0,[],())) (V.bm (Ai λa=>M.pure (true,a,())))=_;exact WK x.1 h.1 h.2 _ _
theorem Hi{c:aP}(h:jE c=true):vl c.2.1:=by
 unfold jE si at h;simp only[Bool.and_eq_true,List.all_eq_true,Bool.not_eq_true',Bool.or_eq_false_iff,decide_eq_false_iff_not]at h;obtain⟨⟨⟨⟨⟨a8,_⟩,_⟩,h2⟩,_⟩,_⟩:=h;refine⟨by omega,λs hs=>?_⟩;have:=h2 s hs;unfold k2 at this;grind
theorem akO(x):M.le (Vx vh.sh Ah.sh x) (hH.sh x):=M.bj λh=>by
 unfold Vx;show _=M.pure (cr x);rw[show vh.sh x=M.pure (jE x) from M.bE h _];unfold cr;cases hc:jE x with
 | false=>simp
 | true=>
  simp only[M.aE,Bool.not_true,Bool.false_eq_true,if_false,if_true];rw[show Ah.sh x.2.1=M.pure (if kE x.2.1=true then ([],false) else (eO x.2.1,true)) from M.bE (Hi hc) _];cases kE x.2.1<;>simp
def Hj(x:(aT->M Bool)×List aT×Unit):M ((Nat×Nat)×List aT×Unit):=M.dt (x.2.1.length<2 ^ 63/\∀ y∈x.2.1,∃ b,x.1 y=M.pure b)
 ((0,(x.2.1.filter λs=>!(x.1 s).val false).length),(x.2.1.filter λs=>!(x.1 s).val false)++List.replicate (x.2.1.length - (x.2.1.filter λs=>!(x.1 s).val false).length) jf,())
theorem WL{ai:Type}(p:ai->Bool):∀ (l:List ai) (i:Int),(l.any p=true->∃ k:Nat,∃ h:k<l.length,hq p l i=i+k/\p l[k]=true/\(∀ y∈l.take k,p y=false))
 | [],i,h=>by grind
 | x::l,i,h=>by
  unfold hq;by_cases hx:p x=true
  ·grind
  ·have np:p x=false:=by grind
   simp only[List.any_cons,np,Bool.false_or]at h;obtain⟨k,an,h1,h2,h3⟩:=WL p l (i+1) h;refine⟨k+1,by grind,by grind,by grind,?_⟩;grind
theorem akP(x):M.le (Wb (kD gS).sh x) (Hj x):=M.bj λh=>by
 obtain⟨f,l,u⟩:=x;obtain⟨h1,h2⟩:=h;change l.length<2 ^ 63 at h1;change ∀ y∈l,∃ b,f y=M.pure b at h2;unfold Wb;rw[show (kD gS).sh (l,f)=M.pure (hq (λy=>(f y).val false) l 0) from M.bE ⟨h1,h2⟩ _];rw[M.aE];by_cases aU:(l.any λy=>(f y).val false)=true
 ·obtain⟨k,an,e1,e2,e3⟩:=WL (λy=>(f y).val false) l 0 aU;have hw:=bo (n:=(k:Int)+1) (by omega) (by omega);have dX:¬(decide ((0:Int)+k=-1)=true):=by simp
  rw[e1,if_neg dX];generalize bd:(λs=>!(f s).val false)=q at *
  have akQ:∀ s,(!(f s).val false)=q s:=λs=>by grind
  have ph:l.take k=(l.take k).filter q:=by
   rw[List.filter_eq_self.2];grind
  have Hd:(l.take (k+1)).filter q=l.take k:=by
   rw[List.take_add_one,List.getElem?_eq_getElem an,Option.toList_some,List.filter_append,<-ph];grind
  rw[M.dm (l.drop (k+1)) (λi (_:Unit)=>(f,(((l.take (k+1+i)).filter q).length:Int),((k+1+i:Nat):Int),(l.take (k+1+i)).filter q++l.drop ((l.take (k+1+i)).filter q).length,())) (λ_ u=>.next u) (λ_=>.next (((l.filter q).length:Int),l.filter q++l.drop (l.filter q).length,())) () ?_ ?_ ?_]
  ·rw[dV];have hlen:(l.filter q).length<=l.length:=List.length_filter_le _ _;have fS:(l.filter q++l.drop (l.filter q).length).length=l.length:=by grind
   simp only[M.aE,M.bL,bH,fS];rw[M.bn (by omega)];simp only[M.bf,Int.toNat_natCast];have er:List.take (l.filter q).length (l.filter q++l.drop (l.filter q).length)=l.filter q:=List.take_left;rw[er];refine (M.bn ⟨by omega,by omega,by grind⟩ _).trans ?_;refine congrArg M.pure (Prod.ext rfl (Prod.ext ?_ rfl));show (_++_++_:List aT)=_;exact (congrArg (λz=>_++z) (List.drop_eq_nil_iff.2 (by simp))).trans (List.append_nil _)
  ·show (f,(0:Int)+k,IntKind.wrap .i64 (Add.add ((0:Int)+k) 1),l,())=_;rw[Int.zero_add,b8,hw];refine Prod.ext rfl (Prod.ext ?_ (Prod.ext ?_ (Prod.ext ?_ rfl)))
   ·grind
   ·rfl
   ·show l=(l.take (k+1+0)).filter q++l.drop ((l.take (k+1+0)).filter q).length;rw[Nat.add_zero,Hd,List.length_take,Nat.min_eq_left (by omega),List.take_append_drop]
  ·intro i E _;have E:k+1+i<l.length:=by grind
   have hle:((l.take (k+1+i)).filter q).length<=k+i:=by
    have h1:=List.length_filter_le q (l.drop (k+1) |>.take i);rw[List.take_add,List.filter_append,List.length_append,Hd];grind
   have b1:((l.take (k+1+i)).filter q).length<l.length:=by omega
   have lr:((l.take (k+1+i)).filter q++l.drop ((l.take (k+1+i)).filter q).length).length=l.length:=by grind
   have hw:=bo (n:=((k+1+i:Nat):Int)+1) (by omega) (by omega);have gA:=bo (n:=(((l.take (k+1+i)).filter q).length:Int)+1) (by omega) (by omega);have db:k+1+i<((l.take (k+1+i)).filter q++l.drop ((l.take (k+1+i)).filter q).length).length:=by omega
   have BN:((l.take (k+1+i)).filter q).length<((l.take (k+1+i)).filter q++l.drop ((l.take (k+1+i)).filter q).length).length:=by omega
   have je:((l.take (k+1+i)).filter q++l.drop ((l.take (k+1+i)).filter q).length)[k+1+i]=l[k+1+i]:=by
    rw[List.getElem_append_right (by omega),List.getElem_drop];congr 1;omega
   obtain⟨b,aa⟩:=h2 _ (List.getElem_mem E);have hv:q l[k+1+i]=!b:=by rw[<-akQ,aa,M.fg]
   have ph:(l.take (k+1+(i+1))).filter q=(l.take (k+1+i)).filter q++(if (!b)=true then [l[k+1+i]] else []):=by
    rw[show k+1+(i+1)=k+1+i+1 from rfl,List.take_add_one,List.getElem?_eq_getElem E,Option.toList_some,List.filter_append,List.filter_cons,hv,List.filter_nil]
   simp only[bH,cH db,if_true,cZ db,cv db,cv BN,M.bf,je,aa,M.aE,b8,gA];simp only[Int.toNat_natCast];cases b with
   | true=>
    simp only[Bool.not_true,Bool.false_eq_true,if_false,M.aE,M.bL,hw,V.gQ,List.append_nil]at ph ⊢;grind
   | false=>
    simp only[Bool.not_false,if_true,M.aE,M.bL,hw,V.gQ]at ph ⊢;have es:(List.filter q (List.take (k+1+i) l)++List.drop (List.filter q (List.take (k+1+i) l)).length l).set (List.filter q (List.take (k+1+i) l)).length l[k+1+i]=(l.take (k+1+(i+1))).filter q++l.drop ((l.take (k+1+(i+1))).filter q).length:=by
     rw[ph,List.set_append_right _ _ (Nat.le_refl _),Nat.sub_self,List.drop_eq_getElem_cons b1,List.set_cons_zero];simp
    rw[es];have en:(((l.take (k+1+i)).filter q).length:Int)+1=(((l.take (k+1+(i+1))).filter q).length:Int):=by grind
    grind
  ·intro _;have ah:(l.drop (k+1)).length=l.length - (k+1):=by simp
   have e0:k+1+(l.drop (k+1)).length=l.length:=by omega
   have hle:(l.filter q).length<=l.length:=List.length_filter_le _ _;simp only[e0,List.take_length];rw[if_neg (by grind),M.aE]
 ·rw[Dw _ _ aU];have:(l.filter λs=>!(f s).val false)=l:=by
   simp_all
  simp only[decide_true,if_true,this,Nat.sub_self,List.replicate_zero,List.append_nil]
abbrev e0:bg:=((0,0,0,0,0,0),0)
def ox(c:aP)(w:z1')(u:Int):List bg:=((e8 c).filter λs=>decide (tK s=u)).map λs=>(s,xJ s+w.getD (pd s).toNat 0)
def bN(c:aP)(w:z1')(u:Int):List bg:=e7 hG (ox c w u)
def qf(l:List bg)(i:Nat):Bool:=!(decide (0<i)&&decide ((l.getD i e0).2=(l.getD (i - 1) e0).2))&&decide (dL (l.getD i e0).1=1+((i % 2:Nat):Int))
def dZ(l:List bg):Bool:=(List.range l.length).all (qf l)
structure gB(c:aP):Prop where
 ck:cr c=0
 dF:c.1.length<=3
 dI:c.2.1.length<=12
 js:c.2.2.1.length<=12
 n4:c.2.2.2.1.length<=4
 iI:jE c=true
 Ae:Ad c.2.1
 NK:pf c.2.2.2.2=true
 clk:∀ s∈c.1,-30<=s.1/\s.1<=s.2/\s.2<=30
 iQ:∀ s∈c.2.1,k2 c.1.length s=true
 ib:Ac c.2.2.2.1=true
theorem oy{c:aP}(h:cr c=0):gB c:=by
 have h0:=h;unfold cr at h;split at h
 ·rename_i hc;split at h
  ·omega
  ·rename_i ax;have lv:=hc;unfold jE si at hc;simp only[Bool.and_eq_true,List.all_eq_true,Bool.not_eq_true',Bool.or_eq_false_iff,decide_eq_false_iff_not]at hc;obtain⟨⟨⟨⟨⟨⟨⟨⟨bT,a2⟩,a3⟩,a4⟩,a5⟩,fV⟩,fW⟩,hI⟩,a9⟩:=hc;refine⟨h0,by omega,by omega,by omega,by omega,lv,(Ag _).1 (by grind),a5,λs hs=>?_,fW,a9⟩;have:=fV s hs;unfold sg at this;simp only[Bool.and_eq_true,Bool.not_eq_true',decide_eq_false_iff_not,ou]at this;omega
 omega
theorem Aj{n:Nat}{s:aT}:k2 n s=true<->(0<=k1 s/\k1 s<=99)/\(0<=pd s/\pd s<=(n:Int) - 1)/\(0<=xJ s/\xJ s<=9999)/\(0<=tK s/\tK s<=9)/\(0<=iy s/\iy s<=99)/\(dL s=1\/dL s=2/\iy s=0):=by
 unfold k2;simp only[Bool.and_eq_true,ou,Bool.or_eq_true,decide_eq_true_eq,and_assoc]
theorem gB.akR{c:aP}(h:gB c):∃ m,tO c.2.1 m:=by
 obtain⟨h1,_⟩:=Af c.2.1 [] [] .nil;rw[List.nil_append]at h1;obtain⟨m,_,eb⟩:=h1 h.Ae;grind
theorem gB.NL{c:aP}(h:gB c):(e8 c).length<=12:=by
 obtain⟨m,eb⟩:=h.akR;have h1:=akI eb (Hi h.iI).2;have h2:=List.length_filter_le (λs:aT=>!c.2.2.1.contains s.1) (eO c.2.1);have:=h.dI;unfold e8;omega
theorem Ak{l:List aT}{s:aT}(h:s∈eO l):s∈l:=by
 unfold eO at h;grind
theorem akS{c:aP}{s:aT}(h:s∈e8 c):s∈c.2.1:=Ak (List.mem_filter.1 h).1
theorem gB.Al{c:aP}(h:gB c){s:aT}(hs:s∈e8 c):k2 c.1.length s=true:=h.iQ s (akS hs)
def pj(c:aP)(w:z1'):Prop:=w.length=c.1.length/\∀ n∈w,-30<=n/\n<=30
theorem pj.at{c:aP}{w:z1'}(h:pj c w)(az:gB c){s:aT}(hs:s∈e8 c):0<=pd s/\pd s<(w.length:Int)/\-30<=w.getD (pd s).toNat 0/\w.getD (pd s).toNat 0<=30:=by
 have h1:=(Aj.1 (az.Al hs)).2.1;have ah:pd s<(w.length:Int):=by rw[h.1];omega
 exact⟨h1.1,ah,h.2 _ (xA h1.1 ah)⟩
theorem DB{c:aP}(h:gB c)(w:z1')(u:Int):(bN c w u).length<=12:=by
 unfold bN ox;rw[Hb,List.length_map];exact Nat.le_trans (List.length_filter_le _ _) h.NL
theorem DC{c:aP}{w:z1'}{u:Int}{e:bg}(h:e∈bN c w u):e.1∈e8 c/\tK e.1=u/\e.2=xJ e.1+w.getD (pd e.1).toNat 0:=by
 unfold bN at h;rw[Wq]at h;unfold ox at h;grind
theorem WM(i:Nat):Int.tmod (i:Int) 2=((i % 2:Nat):Int):=by
 rfl
theorem akT(l:List bg)(i:Nat):(decide ((i:Int) > 0)&&decide ((l.getD i e0).2=(l.getD (i - 1) e0).2)||decide (dL (l.getD i e0).1≠1+((i % 2:Nat):Int)))=!qf l i:=by
 unfold qf;simp
def j3(a b:Int)(s:Int×Int):Int:=max 0 (min (b - 1) s.2 - max a s.1+1)
def lH(cl:z4')(a b:Int):Int:=cl.foldl (λn s=>n - j3 a b s) (b - a)
def WN(cl:z4'):Prop:=cl.length<=4/\∀ s∈cl,0<=s.1/\s.1<=s.2/\s.2<=9999
theorem gB.NM{c:aP}(h:gB c):WN c.2.2.2.1:=by
 refine⟨h.n4,λs hs=>?_⟩;have:=h.ib;unfold Ac at this;rw[List.all_eq_true]at this;obtain⟨i,E,rfl⟩:=List.mem_iff_getElem.1 hs;have:=this i (by grind);unfold iz at this;rw[sj E]at this;simp only[Bool.and_eq_true,ou,Bool.not_eq_true',decide_eq_false_iff_not]at this;omega
abbrev Am(x:aP×Int×Int):Prop:=WN x.1.2.2.2.1/\-100<=x.2.1/\x.2.1<=x.2.2/\x.2.2<=11000
theorem akU{a b:Int}{s:Int×Int}(aU:-100<=a)(aa:b<=11000)(hs:0<=s.1/\s.1<=s.2/\s.2<=9999):0<=j3 a b s/\j3 a b s<=20000:=by
 unfold j3;omega
theorem WO{n:Int}:(if n > 0 then n else 0)=max 0 n:=by omega
theorem WQ{a b:Int}:(if a<b then a else b)=min b a:=by omega
theorem akV{a b:Int}:(if a<b then a else b)=min a b:=by omega
theorem akW{a b:Int}:(if a > b then a else b)=max b a:=by omega
theorem akX{a b:Int}:(if a > b then a else b)=max a b:=by omega
abbrev vm:aJ:=⟨.aw jd (.aw tI tI),tI,Am,λx=>lH x.1.2.2.2.1 x.2.1 x.2.2⟩
theorem akY(x):M.le (VU x) (vm.sh x):=M.bj λh=>by
 obtain⟨c,a,b⟩:=x;obtain⟨⟨h1,h2⟩,h3,aQ,bu⟩:=h;change -100<=a at h3;change a<=b at aQ;change b<=11000 at bu;change c.2.2.2.1.length<=4 at h1;change ∀ s∈c.2.2.2.1,_ at h2;unfold VU;have zM:=bo (n:=b - a) (by omega) (by omega);rw[M.gn c.2.2.2.1 (λi (n:Int)=>(a,b,n,c.2.2.2.1,(c.2.2.2.1.length:Int),(i:Int),())) (λs n=>.next (n - j3 a b s)) (λn=>.next (n,())) (λi n=>-(20000*(i:Int))<=n/\n<=20000) (b - a) ?_ ?_ ?_ ?_]
 ·rw[dV,M.aE];rfl
 ·grind
 ·omega
 ·intro i E n ax;have hs:=h2 _ (List.getElem_mem E);have hc:=akU (a:=a) (b:=b) h3 bu hs;have hw:=bo (n:=(i:Int)+1) (by omega) (by omega);refine⟨?_,λaZ cY=>?_⟩
  ·simp only[Prod.cI,bH,cH E,if_true,cZ E,cv E,M.bf,b8,hw];have b2:=bo (n:=b - 1) (by omega) (by omega);have cF:=bo (n:=min (b - 1) c.2.2.2.1[i].2 - max a c.2.2.2.1[i].1) (by omega) (by omega);have eA:=bo (n:=min (b - 1) c.2.2.2.1[i].2 - max a c.2.2.2.1[i].1+1) (by omega) (by omega);have An:=bo (n:=n - j3 a b c.2.2.2.1[i]) (by omega) (by omega);simp only[b2,akV,akX,cF,eA,WO];rw[show max (min (b - 1) c.2.2.2.1[i].2 - max a c.2.2.2.1[i].1+1) 0=j3 a b c.2.2.2.1[i] from Int.max_comm _ _,An];rfl
  grind
 simp
def k3(t:pb)(m:Int):Int:=if m>=t.2.2.2.2.1 then t.2.2.2.2.2.1 else min t.2.2.2.1 ((max 0 (m - t.1)+t.2.1 - 1) / t.2.1*t.2.2.1)
abbrev xO(x:pb×Int):Prop:=pf x.1=true/\-100000<=x.2/\x.2<=20000
abbrev vn:aJ:=⟨.aw Ny tI,tI,xO,λx=>k3 x.1 x.2⟩
theorem Hk{t:pb}:pf t=true<->(0<=t.1/\t.1<=9999)/\(1<=t.2.1/\t.2.1<=9999)/\(1<=t.2.2.2.2.1/\t.2.2.2.2.1<=9999)/\(0<=t.2.2.1/\t.2.2.1<=100000)/\(0<=t.2.2.2.1/\t.2.2.2.1<=100000)/\(0<=t.2.2.2.2.2.1/\t.2.2.2.2.2.1<=100000)/\(0<=t.2.2.2.2.2.2/\t.2.2.2.2.2.2<=100000):=by
 unfold pf;simp only[Bool.and_eq_true,ou,and_assoc]
theorem WR{t:pb}{m:Int}(h:xO (t,m)):0<=(max 0 (m - t.1)+t.2.1 - 1) / t.2.1/\(max 0 (m - t.1)+t.2.1 - 1) / t.2.1<=30000/\0<=(max 0 (m - t.1)+t.2.1 - 1) / t.2.1*t.2.2.1/\(max 0 (m - t.1)+t.2.1 - 1) / t.2.1*t.2.2.1<=3000000000:=by
 obtain⟨h1,h2,h3⟩:=h;change -100000<=m at h2;change m<=20000 at h3;obtain⟨bT,a2,a3,a4,a5,fV,fW⟩:=(Hk (t:=t)).1 h1;have dr:0<=(max 0 (m - t.1)+t.2.1 - 1) / t.2.1:=Int.ediv_nonneg (by omega) (by omega);have eC:(max 0 (m - t.1)+t.2.1 - 1) / t.2.1<=max 0 (m - t.1)+t.2.1 - 1:=Int.ediv_le_self _ (by omega);have mi:(max 0 (m - t.1)+t.2.1 - 1) / t.2.1<=30000:=by omega
 refine⟨dr,mi,Int.mul_nonneg dr a4.1,?_⟩;calc (max 0 (m - t.1)+t.2.1 - 1) / t.2.1*t.2.2.1<=30000*100000:=Int.mul_le_mul mi a4.2 a4.1 (by omega)
  _=3000000000:=by decide
theorem akZ{t:pb}{m:Int}(h:xO (t,m)):0<=k3 t m/\k3 t m<=100000:=by
 have:=WR h;obtain⟨h1,h2,h3⟩:=h;obtain⟨bT,a2,a3,a4,a5,fV,fW⟩:=(Hk (t:=t)).1 h1;unfold k3;omega
theorem ak0(x):M.le (VI x) (vn.sh x):=M.bj λh=>by
 obtain⟨t,m⟩:=x;have hu:=WR h;obtain⟨h1,h2,h3⟩:=h;change -100000<=m at h2;change m<=20000 at h3;obtain⟨bT,a2,a3,a4,a5,fV,fW⟩:=(Hk (t:=t)).1 h1;have b2:=bo (n:=m - t.1) (by omega) (by omega);have cF:=bo (n:=max 0 (m - t.1)+t.2.1) (by omega) (by omega);have eA:=bo (n:=max 0 (m - t.1)+t.2.1 - 1) (by omega) (by omega);have An:=bo (n:=(max 0 (m - t.1)+t.2.1 - 1) / t.2.1) (by omega) (by omega);have ak1:=bo (n:=(max 0 (m - t.1)+t.2.1 - 1) / t.2.1*t.2.2.1) (by omega) (by omega);have WS:Int.tdiv (max 0 (m - t.1)+t.2.1 - 1) t.2.1=(max 0 (m - t.1)+t.2.1 - 1) / t.2.1:=Int.tdiv_eq_ediv_of_nonneg (by omega);unfold VI;show _=M.pure (k3 t m);unfold k3;simp only[Prod.cI,b2,WO,b8,cF,eA,WS,An,Int.mul_comm t.2.2.1,ak1,WQ,decide_eq_true_eq];rw[M.bn (show t.2.1≠0 from by omega)];grind
def gC(c:aP)(w:z1')(u:Int):List bg:=if dZ (bN c w u)=true then bN c w u else []
def mK(l:List bg)(minute:Int):Int×Int:=l.foldl (λb e=>if e.2<=minute then (if dL e.1=2 then (-1,e.2) else (iy e.1,e.2)) else b) (-1,0)
def Hl(c:aP)(w:z1')(minute:Int):Int:=((dR 0 9).foldl (λn u=>if (mK (gC c w u) minute).1>=0 then n+1 else n) (0:Int))
def tQ(l:List bg):List (bg×bg):=l.zip (l.drop 1)
def DD(cl:z4')(iQ:Int)(l:List bg):Option Int:=((tQ l).find? λp=>k1 p.1.1 == iQ&&dL p.1.1 == 1).map λp=>lH cl p.1.2 p.2.2
def jF(c:aP)(w:z1')(iQ:Int):Option Int:=(dR 0 9).findSome? λu=>DD c.2.2.2.1 iQ (gC c w u)
theorem ak2{l:List bg}{i:Nat}(h:i+1<(e7 hG l).length):(e7 hG l)[i].2<=(e7 hG l)[i+1].2:=by
 have:=List.pairwise_iff_getElem.1 (akp l) i (i+1) (by omega) h (by omega);omega
theorem DE{c:aP}(az:gB c){w:z1'}(h2:pj c w){u:Int}{e:bg}(he:e∈bN c w u):-30<=e.2/\e.2<=10029:=by
 obtain⟨h1,_,h3⟩:=DC he;have aM:=(h2.at az h1).2.2;have aO:=(Aj.1 (az.Al h1)).2.2.1;omega
theorem Ao{c:aP}{w:z1'}{u:Int}{e:bg}(he:e∈gC c w u):e∈bN c w u:=by
 unfold gC at he;grind
theorem ak3{c:aP}{w:z1'}{u:Int}{i:Nat}(h:i+1<(gC c w u).length):(gC c w u)[i].2<=(gC c w u)[i+1].2:=by
 have key:∀ l,gC c w u=l->∀ (h:i+1<l.length),l[i].2<=l[i+1].2:=by
  intro l ah h;unfold gC at ah;split at ah
  ·subst ah;exact ak2 h
  grind
 grind
theorem WT{c:aP}(az:gB c){w:z1'}(h2:pj c w){u:Int}{i:Nat}(h:i+1<(gC c w u).length):Am (c,(gC c w u)[i].2,(gC c w u)[i+1].2):=by
 have h3:=DE az h2 (Ao (List.getElem_mem (by omega:i<(gC c w u).length)));have aQ:=DE az h2 (Ao (List.getElem_mem h));exact⟨az.NM,show -100<=(gC c w u)[i].2 by omega,ak3 h,show (gC c w u)[i+1].2<=11000 by omega⟩
theorem ak4{l:List bg}{i:Nat}(h:i<(tQ l).length):∃ h2:i+1<l.length,(tQ l)[i]=(l[i],l[i+1]):=by
 unfold tQ at h ⊢;grind
theorem ak5{a b:Int}{s:Int×Int}(h:b<=s.1):j3 a b s=0:=by unfold j3;omega
def q_:z4'->Prop
 | []=>True
 | s::r=>s.1<=s.2/\(∀ t∈r,s.2<t.1)/\q_ r
theorem NN:∀ (cl:z4') (a b n:Int),cl.foldl (λn s=>n - j3 a b s) n=n - (cl.map (j3 a b)).sum
 | [],a,b,n=>by simp
 | s::r,a,b,n=>by simp only[List.foldl_cons,List.map_cons,List.sum_cons];rw[NN r];omega
theorem WU:∀ (cl:z4') (a b:Int),q_ cl->a<=b->(cl.map (j3 a b)).sum<=b - a
 | [],a,b,_,h=>by grind
 | s::r,a,b,⟨h1,h2,h3⟩,h=>by
  simp only[List.map_cons,List.sum_cons];by_cases aa:s.2+1<=b
  ·have aG:=WU r (max a (s.2+1)) b h3 (by omega);have e:r.map (j3 a b)=r.map (j3 (max a (s.2+1)) b):=by
    refine List.map_congr_left λt aF=>?_;have:=h2 t aF;unfold j3;omega
   rw[e];have:j3 a b s<=max a (s.2+1) - a:=by unfold j3;omega
   omega
  ·have e:∀ l:z4',(∀ t∈l,b<=t.1)->(l.map (j3 a b)).sum=0:=by
    intro l;induction l with
    | nil=>simp
    | cons t l aG=>
     intro ah;simp only[List.map_cons,List.sum_cons];rw[ak5 (ah t (by simp)),aG λx hx=>ah x (by grind)];rfl
   rw[e r λt aF=>by grind];unfold j3;omega
theorem WV:∀ (cl:z4'),(∀ i,(h:i+1<cl.length)->cl[i].2<cl[i+1].1)->(∀ s∈cl,s.1<=s.2)->q_ cl
 | [],_,_=>trivial
 | s::r,h,h2=>by
  have G:q_ r:=WV r (λi E=>by have:=h (i+1) (by grind);grind) λt aF=>h2 t (by grind);refine⟨h2 s (by simp),?_,G⟩;cases r with
  | nil=>simp
  | cons t r=>
   have h0:=h 0 (by simp);simp at h0;intro u hu;rcases List.mem_cons.1 hu with rfl | hu
   ·exact h0
   ·have:=G.2.1 u hu;grind
theorem gB.ak6{c:aP}(h:gB c):q_ c.2.2.2.1:=by
 have hc:=h.ib;unfold Ac at hc;rw[List.all_eq_true]at hc;refine WV _ (λi E=>?_) λs hs=>(h.NM.2 s hs).2.1;have:=hc (i+1) (by grind);unfold iz at this;grind
theorem ak7{cl:z4'}{a b:Int}(h:q_ cl)(vk:a<=b):0<=lH cl a b:=by
 unfold lH;rw[NN];have:=WU cl a b h vk;omega
theorem WW:∀ (cl:z4') (a b:Int),0<=(cl.map (j3 a b)).sum
 | [],_,_=>by simp
 | s::r,a,b=>by
  simp only[List.map_cons,List.sum_cons];have:=WW r a b;have:0<=j3 a b s:=by unfold j3;omega
  omega
theorem ak8{cl:z4'}{a b:Int}:lH cl a b<=b - a:=by
 unfold lH;rw[NN];have:=WW cl a b;omega
theorem ak9{cl:z4'}{iQ:Int}{l:List bg}{m:Int}(h:DD cl iQ l=some m):∃ i,∃ E:i+1<l.length,l[i].1.1=iQ/\dL l[i].1=1/\m=lH cl l[i].2 l[i+1].2:=by
 unfold DD at h;rw[Option.map_eq_some_iff]at h;obtain⟨p,hp,rfl⟩:=h;have h2:=List.find?_some hp;obtain⟨i,E,rfl⟩:=List.mem_iff_getElem.1 (List.mem_of_find?_eq_some hp);obtain⟨db,e⟩:=ak4 E;grind
theorem WX{c:aP}(az:gB c){w:z1'}(h2:pj c w){iQ m:Int}(h:jF c w iQ=some m):0<=m/\m<=11000:=by
 unfold jF at h;obtain⟨u,_,hu⟩:=List.exists_of_findSome?_eq_some h;obtain⟨i,E,_,_,rfl⟩:=ak9 hu;have hp:=WT az h2 E;have aj:=ak7 az.ak6 hp.2.2.1;have h3:=DE az h2 (Ao (List.getElem_mem (by omega:i<(gC c w u).length)));have aQ:=DE az h2 (Ao (List.getElem_mem E));have bu:=@ak8 c.2.2.2.1 (gC c w u)[i].2 (gC c w u)[i+1].2;grind
def Hm(c:aP)(w:z1')(ak_:Int):Int:=(e8 c).foldl (λn s=>if (dL s=1/\iy s=ak_)/\(jF c w (k1 s)).isSome=true then n+k3 c.2.2.2.2 ((jF c w (k1 s)).getD 0) else n) 0
def Ap(c:aP)(iQ:Int):Bool:=(e8 c).any λs=>k1 s == iQ&&dL s == 1
def sn(c:aP)(w:z1'):Bool:=(List.range w.length).all λi=>bK (w.getD i 0) (c.1.getD i (0,0)).1 (c.1.getD i (0,0)).2
def iA(c:aP)(w:z1'):Bool:=decide (w.length=c.1.length)&&sn c w&&(dR 0 9).all λu=>dZ (bN c w u)
theorem WY{c:aP}(az:gB c){w:z1'}(ah:w.length=c.1.length)(h:sn c w=true):pj c w:=by
 refine⟨ah,λn ax=>?_⟩;obtain⟨i,E,rfl⟩:=List.mem_iff_getElem.1 ax;unfold sn at h;rw[List.all_eq_true]at h;have h1:=h i (by grind);rw[sj E,sj (by omega:i<c.1.length),ou]at h1;have:=az.clk _ (List.getElem_mem (by omega:i<c.1.length));omega
def j4:z4'->Nat
 | []=>1
 | s::r=>(s.2 - s.1+1).toNat*j4 r
def mL(c:aP):z4'->z1'->List (z1')
 | [],w=>if iA c w=true then [w] else []
 | s::r,w=>(dR s.1 s.2).flatMap λn=>mL c r (w++[n])
theorem NO{ai β:Type}(f:ai->List β)(k:Nat):∀ (l:List ai),(∀ x∈l,(f x).length<=k)->(l.flatMap f).length<=l.length*k
 | [],_=>by simp
 | x::l,h=>by
  simp only[List.flatMap_cons,List.length_append,List.length_cons];have:=NO f k l λy aK=>h y (by grind);grind
theorem NP(c:aP):∀ (r:z4') (w:z1'),(mL c r w).length<=j4 r
 | [],w=>by unfold mL j4;grind
 | s::r,w=>by
  unfold mL j4;have:=NO (λn=>mL c r (w++[n])) (j4 r) (dR s.1 s.2) λn _=>NP c r _;rw[xB]at this;omega
theorem WZ{ai β:Type}(f:ai->List β):∀ (l:List ai) (b:List β),l.foldl (λb x=>b++f x) b=b++l.flatMap f
 | [],b=>by simp
 | x::l,b=>by simp only[List.foldl_cons,List.flatMap_cons];rw[WZ f l,List.append_assoc]
abbrev ct(c:aP):List (z1'):=mL c c.1 []
def ak'(c:aP):Prop:=cr c=0->j4 c.1<=60
def gr(c:aP):Prop:=ake c/\ak' c
theorem gr.gz{c:aP}(h:gr c):h' c:=by
 obtain⟨⟨h1,h2,h3,aQ⟩,_⟩:=h;exact⟨by omega,by omega,by omega,by omega⟩
def ef(c:aP)(b:Bool):List (z1')×Int:=if cr c≠0 then ([],cr c) else if b=false then ([],1) else if ct c=[] then ([],3) else (ct c,0)
theorem NQ(c:aP):∀ (r:z4') (w x:z1'),x∈mL c r w->iA c x=true
 | [],w,x,h=>by
  unfold mL at h;grind
 | s::r,w,x,h=>by
  unfold mL at h;rw[List.mem_flatMap]at h;obtain⟨n,_,ax⟩:=h;exact NQ c r _ x ax
theorem DF{c:aP}(h:cr c=0){w:z1'}(hw:iA c w=true):pj c w:=by
 unfold iA at hw;simp only[Bool.and_eq_true,decide_eq_true_eq]at hw;exact WY (oy h) hw.1.1 hw.1.2
theorem Hn{c:aP}{w:z1'}(hw:iA c w=true){u:Int}(hu:0<=u/\u<=9):dZ (bN c w u)=true:=by
 unfold iA at hw;simp only[Bool.and_eq_true,List.all_eq_true]at hw;exact hw.2 u (qa.2 hu)
theorem ala{c:aP}{b:Bool}{w:z1'}(h:w∈(ef c b).1):cr c=0/\w∈ct c/\iA c w=true/\pj c w:=by
 unfold ef at h;split at h
 ·grind
 ·rename_i hc;have hc:cr c=0:=by omega
  split at h
  ·grind
  ·split at h
   ·grind
   ·have:=NQ c _ _ _ h;exact⟨hc,h,this,DF hc this⟩
def Ho:Option (Int×Int)->Int->Int×Int
 | none,n=>(n,n)
 | some s,n=>(min s.1 n,max s.2 n)
def xP(l:z1'):Option (Int×Int):=l.foldl (λo n=>some (Ho o n)) none
def tR(l:z1'):Int×Int:=(xP l).getD (0,0)
theorem alb(a b c:Int):b5.sh (a,b,c)=M.pure (bK a b c):=rfl
def k4(c:aP)(iQ:Int):z1'×Int:=if (ef c (Ap c iQ)).2≠0 then ([],(ef c (Ap c iQ)).2) else if (ef c (Ap c iQ)).1.filterMap (λw=>jF c w iQ)=[] then ([],3) else ((ef c (Ap c iQ)).1.filterMap (λw=>jF c w iQ),0)
def Hp(c:aP)(n:Int):(Int×Int)×Int:=(tR (k4 c n).1,(k4 c n).2)
abbrev Hq:aJ:=⟨.aw jd tI,.aw l9 tI,λx=>gr x.1,λx=>Hp x.1 x.2⟩
def Hr(c:aP)(n:Int):(Int×Int)×Int:=(tR ((k4 c n).1.map λm=>k3 c.2.2.2.2 m),(k4 c n).2)
abbrev Hs:aJ:=⟨.aw jd tI,.aw l9 tI,λx=>gr x.1,λx=>Hr x.1 x.2⟩
def Ht(c:aP)(g:Int):(Int×Int)×Int:=(tR ((ef c (bK g 0 99)).1.map λw=>Hm c w g),(ef c (bK g 0 99)).2)
abbrev Hu:aJ:=⟨.aw jd tI,.aw l9 tI,λx=>gr x.1,λx=>Ht x.1 x.2⟩
def Hv(c:aP)(t:Int):(Int×Int)×Int:=(tR ((ef c (bK t 0 9999)).1.map λw=>Hl c w t*c.2.2.2.2.2.2.2.2.2.2),(ef c (bK t 0 9999)).2)
abbrev Hw:aJ:=⟨.aw jd tI,.aw l9 tI,λx=>gr x.1,λx=>Hv x.1 x.2⟩
def vo(u t:Int):Bool:=bK u 0 9&&bK t 0 9999
def NR(c:aP)(u t:Int):z1':=(ef c (vo u t)).1.map λw=>(mK (gC c w u) t).1
def ra(c:aP)(u t:Int):z1'×Int:=((dR (-1) 99).filter λg=>(NR c u t).contains g,(ef c (vo u t)).2)
abbrev Hx:aJ:=⟨.aw jd (.aw tI tI),.aw fE tI,λx=>gr x.1,λx=>ra x.1 x.2.1 x.2.2⟩
def DG(c:aP)(w:z1')(u t:Int):Bool:=decide ((mK (gC c w u) t).1>=0)&&decide (lH c.2.2.2.1 (mK (gC c w u) t).2 t>=c.2.2.2.2.2.2.2.2.1)
def oz(c:aP)(l:List (z1'))(u t:Int):Nat:=(l.filter λw=>DG c w u t).length
def so(c:aP)(t:Int):z1'×z1'×Int:=
 if (ef c (bK t 0 9999)).2≠0 then ([],[],(ef c (bK t 0 9999)).2)
 else ((dR 0 9).filter (λu=>decide (oz c (ef c (bK t 0 9999)).1 u t=(ef c (bK t 0 9999)).1.length)),(dR 0 9).filter (λu=>decide (oz c (ef c (bK t 0 9999)).1 u t > 0)),0)
abbrev Hy:aJ:=⟨.aw jd tI,.aw fE (.aw fE tI),λx=>gr x.1,λx=>so x.1 x.2⟩
theorem NS:∀ (l:List bg) (t:Int) (b:Int×Int),(∀ e∈l,(0<=iy e.1))->(l.foldl (λb e=>if e.2<=t then (if dL e.1=2 then (-1,e.2) else (iy e.1,e.2)) else b) b=b\/∃ e∈l,e.2<=t/\l.foldl (λb e=>if e.2<=t then (if dL e.1=2 then (-1,e.2) else (iy e.1,e.2)) else b) b=(if dL e.1=2 then (-1,e.2) else (iy e.1,e.2)))
 | [],t,b,_=>.inl rfl
 | x::l,t,b,h=>by
  simp only[List.foldl_cons];by_cases hx:x.2<=t
  ·rw[if_pos hx];rcases NS l t (if dL x.1=2 then (-1,x.2) else (iy x.1,x.2)) λe he=>h e (by grind) with h1 | ⟨e,he,h1,h2⟩
   ·exact .inr ⟨x,by simp,hx,h1⟩
   ·exact .inr ⟨e,by simp[he],h1,h2⟩
  ·rw[if_neg hx];rcases NS l t b λe he=>h e (by grind) with h1 | ⟨e,he,h1,h2⟩
   ·exact .inl h1
   ·exact .inr ⟨e,by simp[he],h1,h2⟩
theorem alc{c:aP}(az:gB c){w:z1'}(h2:pj c w){u t:Int}(aF:t<=9999)(h:(mK (gC c w u) t).1>=0):Am (c,(mK (gC c w u) t).2,t):=by
 rcases NS (gC c w u) t (-1,0) (λe he=>((Aj.1 (az.Al (DC (Ao he)).1)).2.2.2.2.1).1) with h1 | ⟨e,he,h1,h3⟩
 ·unfold mK at h;grind
 ·have:=DE az h2 (Ao he);have e2:(mK (gC c w u) t).2=e.2:=by
   unfold mK;grind
  exact⟨az.NM,by grind,by grind,show t<=11000 by omega⟩
abbrev kk(z:gR):aP:=(z.1,z.2.1,z.2.2.1,z.2.2.2.1,z.2.2.2.2.1,z.cI,z.e6,z.gp,z.h9,z.jC,z.kB)
abbrev NT(z:gR):List aT:=z.ho
abbrev W0(z:gR):List (Option ds):=z.mI
abbrev DH(c:aP)(l:List aT)(t:List (Option ds)):gR:=(c.1,c.2.1,c.2.2.1,c.2.2.2.1,c.2.2.2.2.1,c.2.2.2.2.2.1,c.2.2.2.2.2.2.1,c.2.2.2.2.2.2.2.1,c.2.2.2.2.2.2.2.2.1,c.2.2.2.2.2.2.2.2.2.1,c.2.2.2.2.2.2.2.2.2.2,l,t,())
def tS(l:List aT)(w:z1')(u:Int):List bg:=(l.filter λs=>decide (tK s=u)).map λs=>(s,xJ s+w.getD (pd s).toNat 0)
theorem ald{l:List aT}{w:z1'}{i:Nat}(h:i<l.length)(u:Int):tS (l.take (i+1)) w u=if l[i].2.2.2.2.1=u then tS (l.take i) w u++[(l[i],xJ l[i]+w.getD (pd l[i]).toNat 0)] else tS (l.take i) w u:=by
 unfold tS;rw[List.take_add_one,List.getElem?_eq_getElem h,Option.toList_some,List.filter_append,List.map_append];grind
theorem W1(l:List aT)(w:z1')(u:Int):(tS l w u).length<=l.length:=by
 unfold tS;grind
abbrev mM(c:aP)(w:z1'):List (List bg):=[bN c w 0,bN c w 1,bN c w 2,bN c w 3,bN c w 4,bN c w 5,bN c w 6,bN c w 7,bN c w 8,bN c w 9]
def sq(c:aP)(w:z1'):Bool:=(dR 0 9).all λu=>dZ (bN c w u)
theorem ale(c:aP)(w:z1'):sq c w=(dZ (bN c w 0)&&(dZ (bN c w 1)&&(dZ (bN c w 2)&&(dZ (bN c w 3)&&(dZ (bN c w 4)&&(dZ (bN c w 5)&&(dZ (bN c w 6)&&(dZ (bN c w 7)&&(dZ (bN c w 8)&&dZ (bN c w 9)))))))))):=by
 unfold sq;rw[show dR 0 9=[0,1,2,3,4,5,6,7,8,9] from by decide];simp
abbrev alf(x:z1'×gR):Prop:=cr (kk x.2)=0/\pj (kk x.2) x.1/\NT x.2=e8 (kk x.2)
def tT(x:z1'×gR):M (Option ds×Bool×gR):=M.dt (alf x) (if sq (kk x.2) x.1=true then (some (x.1,mM (kk x.2) x.1),true,x.2) else (none,false,x.2))
theorem alg{τ aD:Type}{body:Int×Int×Int×τ->M (V (Int×Int×Int×τ) aD)}(l:List bg){a n:Int}{z:τ}(bad sr:aD)
  (aa:∀ i,i<l.length->body (a,n,(i:Int),z)=M.pure (if (!qf l i)=true then .done bad else .next (a,n,((i+1:Nat):Int),z)))
  (he:body (a,n,(l.length:Int),z)=M.pure (.done sr)):M.loop body (a,n,0,z)=M.pure (if dZ l=true then sr else bad):=by
 rw[M.dm (List.range l.length) (λi (_:Unit)=>(a,n,(i:Int),z)) (λi b=>if (!qf l i)=true then .done bad else .next b) (λ_=>sr) () ?_ ?_ ?_]
 ·rw[ky (q:=qf l) _ _ (λ_=>rfl)];rfl
 ·rfl
 ·intro i E b;have E:i<l.length:=by grind
  rw[aa i E,List.getElem_range];cases qf l i<;>rfl
 grind
theorem W2{X:Type}{l:List bg}(ah:l.length<=12){i:Nat}(E:i<l.length){k:Int}(an:k=1+((i % 2:Nat):Int))(aH B:M X):Nx l l[i] i k aH B=if (!qf l i)=true then aH else B:=by
 unfold Nx;have y_:=akT l i;rw[Bool.or_comm,sj E]at y_;have e1:(decide (l[i].1.2.2.2.1≠k)||decide ((i:Int) > 0)&&decide (l[i].2=(List.getD l (Int.toNat (IntKind.wrap .i64 ((i:Int) - 1))) ((0,0,0,0,0,0),0)).2))=!qf l i:=by
  rw[<-y_,an];rcases Nat.eq_zero_or_pos i with h0 | h0
  ·simp_all
  ·rw[bo (n:=(i:Int) - 1) (by omega) (by omega),show ((i:Int) - 1).toNat=i - 1 from by omega]
 rw[e1];have bu:decide ((i:Int) > 0)=true->(0<=IntKind.wrap .i64 ((i:Int) - 1)/\IntKind.wrap .i64 ((i:Int) - 1)<Int.ofNat (List.length l)):=λh=>by
  have h:=of_decide_eq_true h;rw[bo (n:=(i:Int) - 1) (by omega) (by omega),bH];omega
 simp_all
theorem alh{l:List bg}(h:l.length<=12):z' (lG.sh,l,())=M.pure (e7 hG l,()):=M.bE ⟨h,rfl⟩ _
theorem ali{l:List aT}{w:z1'}{c:aP}(ah:l.length<=12)(hs:∀ s∈l,k2 c.1.length s=true)(hw:pj c w){i:Nat}(E:i<l.length):0<=l[i].2.2.2.2.1/\l[i].2.2.2.2.1<=9/\(0<=l[i].2.1/\l[i].2.1<(w.length:Int))/\IntKind.wrap .i64 (l[i].2.2.1+w.getD l[i].2.1.toNat 0)=l[i].2.2.1+w.getD l[i].2.1.toNat 0:=by
 have h:=Aj.1 (hs _ (List.getElem_mem E));have h1:pd l[i]<(w.length:Int):=by rw[hw.1];omega
 have h2:=hw.2 _ (xA (d:=0) h.2.1.1 h1);have h3:=h.2.2.1;have aQ:=h.2.2.2.1;exact⟨aQ.1,aQ.2,⟨h.2.1.1,h1⟩,bo (by grind) (by grind)⟩
abbrev nK(f:Nat->List bg)(c:gR):k0:=(f 0,f 1,f 2,f 3,f 4,f 5,f 6,f 7,f 8,f 9,c)
theorem NU{f g:Nat->List bg}(h:∀ u,u<10->f u=g u)(c:gR):nK f c=nK g c:=by
 simp only[nK,h 0 (by decide),h 1 (by decide),h 2 (by decide),h 3 (by decide),h 4 (by decide),h 5 (by decide),h 6 (by decide),h 7 (by decide),h 8 (by decide),h 9 (by decide)]
theorem NV(f:Nat->List bg)(c:gR):∀ k,k<10->l8 k (nK f c)=f k
 | 0,_ | 1,_ | 2,_ | 3,_ | 4,_ | 5,_ | 6,_ | 7,_ | 8,_ | 9,_=>rfl
 | k+10,h=>by omega
theorem W3(f:Nat->List bg)(c:gR)(v:List bg):∀ k,k<10->G7 k v (nK f c)=nK (λj=>if j=k then v else f j) c
 | 0,_ | 1,_ | 2,_ | 3,_ | 4,_ | 5,_ | 6,_ | 7,_ | 8,_ | 9,_=>rfl
 | k+10,h=>by omega
theorem W4{X:Type}(f:Nat->M X){v:Int}{u:Nat}(h:v=(u:Int)):∀ {n:Nat},u<=n->G9 f v n=f u
 | 0,hu=>by
  obtain rfl:u=0:=by omega
  rfl
 | n+1,hu=>by
  unfold G9;simp only[j1,bH,h];by_cases e:u=n+1
  ·rw[if_pos (by omega),e]
  ·rw[if_neg (by omega)];exact W4 f rfl (by omega)
theorem alj{c:aP}{w:z1'}(jX:∀ u,(bN c w u).length<=12){z:gR}{g:Nat->List bg}{k:Nat}(an:k<10)(az:g k=bN c w k) :
  M.loop (G8 k) (Int.ofNat k,Int.ofNat (List.length (bN c w k)),0,w,nK g z)=M.pure (if dZ (bN c w k)=true then .next (Int.ofNat k,w,nK g z) else .done (.done (none,false,z))):=by
 have e1:l8 k (nK g z)=bN c w k:=(NV g z k an).trans az;refine alg (bN c w k) _ _ (λi E=>?_) ?_
 ·have hw:=bo (n:=(i:Int)+1) (by omega) (by have:=jX k;omega);unfold G8;simp only[bH,cH E,if_true,e1,cv E,cZ E,M.bf];rcases Nat.mod_two_eq_zero_or_one i with aj | aj
  ·have ar:decide (Int.tmod (i:Int) 2=1)=false:=by rw[WM,aj];rfl
   simp only[ar,Bool.false_eq_true,if_false,M.EC,M.aE,M.bL];rw[M.bn (by decide),e1];refine (W2 (jX k) E (by rw[aj];rfl) _ _).trans ?_;simp only[b8,hw];cases qf (bN c w k) i<;>rfl
  ·have ar:decide (Int.tmod (i:Int) 2=1)=true:=by rw[WM,aj];rfl
   simp only[ar,if_true,M.EC,M.aE,M.bL];rw[M.bn (by decide),e1];refine (W2 (jX k) E (by rw[aj];rfl) _ _).trans ?_;simp only[b8,hw];cases qf (bN c w k) i<;>rfl
 ·unfold G8;simp
theorem W5{c:aP}{w:z1'}(hlen:∀ u,(ox c w u).length<=12)(jX:∀ u,(bN c w u).length<=12){z:gR}:∀ n k,k+n=10->
  Du z' lG.sh n k (w,nK (λu=>if u<k then bN c w u else ox c w u) z)=M.pure (if ((List.range' k n).all λu=>dZ (bN c w u))=true then .next (w,nK (λu=>bN c w u) z) else .done (none,false,z))
 | 0,k,h=>by
  unfold Du;rw[NU (g:=λu=>bN c w u) λu hu=>if_pos (by omega)];rfl
 | n+1,k,h=>by
  have an:k<10:=by omega
  have hs:z' (lG.sh,ox c w k,())=M.pure (bN c w k,()):=alh (hlen k);have hw:=bo (n:=(k:Int)+1) (by omega) (by omega);have e2:G7 k (bN c w k) (nK (λu=>if u<k then bN c w u else ox c w u) z)=nK (λu=>if u<k+1 then bN c w u else ox c w u) z:=by
   rw[W3 _ _ _ _ an];exact NU (λu hu=>by
    by_cases e:u=k
    ·subst e;simp
    ·by_cases e2:u<k
     ·simp[e,e2,show u<k+1 by omega]
     ·simp[e,e2,show ¬u<k+1 by omega]) _
  unfold Du;dsimp only;rw[M.bn (by simp only[bH];omega),NV _ _ _ an,if_neg (Nat.lt_irrefl k),hs,M.aE];simp only[e2];rw[alj jX an (if_pos (Nat.lt_succ_self k)),M.aE,List.range'_succ,List.all_cons];cases dZ (bN c w k) with
  | false=>rfl
  | true=>
   simp only[if_true,Bool.true_and,M.bL];rw[M.bn (by simp only[bH,b8,hw];omega)];exact W5 hlen jX n (k+1) (by omega)
theorem NW(x):M.le (Wh fcClone.sh z' lG.sh x) (tT x):=M.bj λh=>by
 obtain⟨w,z⟩:=x;obtain⟨h1,h2,h3⟩:=h;change cr (kk z)=0 at h1;change pj (kk z) w at h2;change z.ho=e8 (kk z) at h3;show _=M.pure (if sq (kk z) w=true then (some (w,mM (kk z) w),true,z) else (none,false,z));generalize tv:kk z=c at *
 have az:=oy h1;have ah:=az.NL;have oO:∀ s∈e8 c,k2 c.1.length s=true:=λs hs=>az.Al hs;have ax:=az.dF;have hlen:∀ u,(ox c w u).length<=12:=λu=>Nat.le_trans (W1 (e8 c) w u) ah;have jX:∀ u,(bN c w u).length<=12:=λu=>DB az w u;have pk:∀ u,tS z.ho w u=ox c w u:=λu=>by rw[h3];rfl
 rw[<-h3]at ah oO;clear h3;unfold Wh;rw[show fcClone.sh w=M.pure w from M.bE (show w.length<=3000000 by have:=h2.1;omega) _];simp only[M.aE,M.bL,M.bf];refine (congrArg (λm=>M.bind m _) (M.dm z.ho (λi (_:Unit)=>(w,z.ho,(z.ho.length:Int),(i:Int),w,nK (λu=>tS (z.ho.take i) w u) z)) (λ_ b=>.next b) (λ_=>.next (w,nK (λu=>ox c w u) z)) () ?_ ?_ ?_)).trans ?_
 ·simp only[bH,List.take_zero];rfl
 ·intro i E b;obtain⟨aM,aO,bz,f'⟩:=ali (c:=c) ah oO h2 E;have hw:=bo (n:=(i:Int)+1) (by omega) (by omega);have ik:∀ u,bX (Add.add (tS (z.ho.take i) w u).length (Add.add 0 1)):=λu=>hr (by have:=W1 (z.ho.take i) w u;rw[List.length_take]at this;simp only[j1];omega);obtain⟨u,hu⟩:∃ u:Nat,z.ho[i].2.2.2.2.1=(u:Int):=⟨z.ho[i].2.2.2.2.1.toNat,by omega⟩
  have alk:u<=9:=by omega
  simp only[bH,cH E,if_true,cZ E,cv E,M.bf];rw[M.bn (show (0<=z.ho[i].2.2.2.2.1/\z.ho[i].2.2.2.2.1<((10:Nat):Int)) from⟨aM,by omega⟩),W4 _ hu alk];unfold Wg;simp only[cZ E,bH,NV _ _ u (show u<10 by omega),W3 _ _ _ u (show u<10 by omega)];rw[M.bn trivial,M.bn (by omega),M.bn bz,M.bn (ik _),M.bn trivial,M.bn (by omega),M.aE,M.bL];simp only[b8,hw,f'];refine congrArg (λq=>M.pure (V.next (w,z.ho,(z.ho.length:Int),((i:Int)+1),w,q))) ?_;refine NU (λj aB=>?_) _;rw[ald E,hu];by_cases e:j=u
  ·subst e;rw[if_pos rfl,if_pos rfl,<-hu]
  ·rw[if_neg e,if_neg (by omega)]
 ·intro b;simp only[List.take_length,pk];simp
 ·rw[dV,M.aE,M.bL];have e0:=W5 (c:=c) (w:=w) hlen jX (z:=z) 10 0 rfl;rw[M.bn (by decide)];rw[show (λu:Nat=>if u<0 then bN c w u else ox c w u)=λu:Nat=>ox c w u from funext λu=>if_neg (Nat.not_lt_zero u)]at e0;rw[e0,M.aE];have e1:((List.range' 0 10).all λu=>dZ (bN c w u))=sq c w:=by
   rw[ale];simp[List.range']
  rw[e1];cases sq c w<;>rfl
abbrev h_(c:aP)(w:z1'):Option ds:=some (w,mM c w)
abbrev alm(f:Nat)(x:z1'×gR):Prop:=cr (kk x.2)=0/\NT x.2=e8 (kk x.2)/\x.1.length<=(kk x.2).1.length/\(kk x.2).1.length<x.1.length+f/\sn (kk x.2) x.1=true/\(W0 x.2).length+j4 ((kk x.2).1.drop x.1.length)<=60
def xQ(f:Nat)(x:z1'×gR):M gR:=M.dt (alm f x) (DH (kk x.2) (NT x.2) (W0 x.2++(mL (kk x.2) ((kk x.2).1.drop x.1.length) x.1).map (h_ (kk x.2))))
theorem aln(x):¬(xQ 0 x).b4:=λh=>by have h1:=h.2.2.1;have h2:=h.2.2.2.1;omega
theorem alo{c:aP}{w:z1'}{n:Int}:sn c (w++[n])=(sn c w&&bK n (c.1.getD w.length (0,0)).1 (c.1.getD w.length (0,0)).2):=by
 unfold sn;grind
theorem alp{c:aP}{w:z1'}(ah:w.length=c.1.length)(h:sn c w=true):iA c w=sq c w:=by
 unfold iA sq;grind
set_option maxHeartbeats 1000000 in
theorem alq(f:Nat)(x):M.le (Wj (xQ f) tT x) (xQ (f+1) x):=M.bj λh=>by
 obtain⟨w,a0,bT,a2,a3,a4,a5,fV,fW,hI,a9,ha,l,t,u⟩:=x;obtain⟨h1,h2,h3,aQ,bu,cW⟩:=h;change cr (a0,bT,a2,a3,a4,a5,fV,fW,hI,a9,ha)=0 at h1;change l=e8 (a0,bT,a2,a3,a4,a5,fV,fW,hI,a9,ha) at h2;change w.length<=a0.length at h3;change a0.length<w.length+(f+1) at aQ;change sn (a0,bT,a2,a3,a4,a5,fV,fW,hI,a9,ha) w=true at bu;change t.length+j4 (a0.drop w.length)<=60 at cW;show _=M.pure (DH (a0,bT,a2,a3,a4,a5,fV,fW,hI,a9,ha) l (t++(mL (a0,bT,a2,a3,a4,a5,fV,fW,hI,a9,ha) (a0.drop w.length) w).map (h_ (a0,bT,a2,a3,a4,a5,fV,fW,hI,a9,ha))));have az:=oy h1;have ax:a0.length<=3:=az.dF;unfold Wj;simp only[Prod.cI,Prod.e6,Prod.gp,Prod.h9,Prod.jC,Prod.kB,Prod.ho,Prod.mI,Prod.pc,Prod.sa,Prod.xG,Prod.Ng,Prod.Nh,Prod.Ni,Prod.Nj,bH,M.bf];by_cases ah:w.length=a0.length
 ·rw[if_pos (by simp only[decide_eq_true_eq];omega)];have alr:pj (a0,bT,a2,a3,a4,a5,fV,fW,hI,a9,ha) w:=WY az ah bu;have af:tT (w,a0,bT,a2,a3,a4,a5,fV,fW,hI,a9,ha,l,t,())=M.pure (if sq (a0,bT,a2,a3,a4,a5,fV,fW,hI,a9,ha) w=true then (h_ (a0,bT,a2,a3,a4,a5,fV,fW,hI,a9,ha) w,true,a0,bT,a2,a3,a4,a5,fV,fW,hI,a9,ha,l,t,()) else (none,false,a0,bT,a2,a3,a4,a5,fV,fW,hI,a9,ha,l,t,())):=M.bE ⟨h1,alr,h2⟩ _;rw[af,M.aE,ah,List.drop_length];unfold mL;rw[alp ah bu];cases an:sq (a0,bT,a2,a3,a4,a5,fV,fW,hI,a9,ha) w with
  | true=>
   rw[if_pos rfl,if_pos rfl,M.bn (hr (by simp only[j1];omega)),M.aE,M.bL];rfl
  | false=>
   simp only[Bool.false_eq_true,if_false,M.aE,M.bL,List.map_nil,List.append_nil]
 ·have b1:w.length<a0.length:=by omega
  rw[if_neg (by simp only[decide_eq_true_eq];omega),M.bn (show (0:Int)<=(w.length:Int)/\(w.length:Int)<(a0.length:Int) by omega)];rw[List.drop_eq_getElem_cons b1]at cW ⊢;simp only[Int.toNat_natCast,sj b1];have hs:=az.clk _ (List.getElem_mem b1);change -30<=a0[w.length].1/\a0[w.length].1<=a0[w.length].2/\a0[w.length].2<=30 at hs;have mN:a0.getD w.length (0,0)=a0[w.length]:=sj b1;generalize a0[w.length]=s at *
  unfold j4 at cW;have DI:∀ n (ts:List (Option ds)),s.1<=n->n<=s.2->ts.length+j4 (a0.drop (w.length+1))<=60->xQ f (w++[n],a0,bT,a2,a3,a4,a5,fV,fW,hI,a9,ha,l,ts,())=M.pure (DH (a0,bT,a2,a3,a4,a5,fV,fW,hI,a9,ha) l (ts++(mL (a0,bT,a2,a3,a4,a5,fV,fW,hI,a9,ha) (a0.drop (w.length+1)) (w++[n])).map (h_ (a0,bT,a2,a3,a4,a5,fV,fW,hI,a9,ha)))):=by
   intro n ts aM aO bz;refine (M.bE ⟨h1,h2,?_,?_,?_,?_⟩ _).trans (congrArg M.pure ?_)
   ·show DH (a0,bT,a2,a3,a4,a5,fV,fW,hI,a9,ha) l (ts++(mL (a0,bT,a2,a3,a4,a5,fV,fW,hI,a9,ha) (a0.drop (w++[n]).length) (w++[n])).map (h_ (a0,bT,a2,a3,a4,a5,fV,fW,hI,a9,ha)))=_;rw[List.length_append,List.length_singleton]
   ·show (w++[n]).length<=a0.length;simp;omega
   ·show a0.length<(w++[n]).length+f;simp;omega
   ·show sn (a0,bT,a2,a3,a4,a5,fV,fW,hI,a9,ha) (w++[n])=true;rw[alo,bu];show (true&&bK n (a0.getD w.length (0,0)).1 (a0.getD w.length (0,0)).2)=true;rw[mN,Bool.true_and];exact ou.2 ⟨aM,aO⟩
   ·show ts.length+j4 (a0.drop (w++[n]).length)<=60;rw[List.length_append,List.length_singleton];exact bz
  rw[M.gn (dR s.1 s.2) (λi (ts:List (Option ds))=>(w,(w.length:Int),s.1+(i:Int),a0,bT,a2,a3,a4,a5,fV,fW,hI,a9,ha,l,ts,())) (λn ts=>.next (ts++(mL (a0,bT,a2,a3,a4,a5,fV,fW,hI,a9,ha) (a0.drop (w.length+1)) (w++[n])).map (h_ (a0,bT,a2,a3,a4,a5,fV,fW,hI,a9,ha)))) (λts=>(a0,bT,a2,a3,a4,a5,fV,fW,hI,a9,ha,l,ts,())) (λi ts=>ts.length<=t.length+i*j4 (a0.drop (w.length+1))) t ?_ ?_ ?_ ?_]
  ·rw[dV,WZ (f:=λn=>(mL (a0,bT,a2,a3,a4,a5,fV,fW,hI,a9,ha) (a0.drop (w.length+1)) (w++[n])).map (h_ (a0,bT,a2,a3,a4,a5,fV,fW,hI,a9,ha)))];rw[<-List.map_flatMap];rfl
  ·rw[Int.natCast_zero,Int.add_zero]
  ·simp
  ·intro i E ts af;rw[xB]at E;have hw:=bo (n:=s.1+(i:Int)+1) (by omega) (by omega);have ar:decide (s.1+(i:Int)<=s.2)=true:=by simpa using (by omega:s.1+(i:Int)<=s.2)
   have hle:=NP (a0,bT,a2,a3,a4,a5,fV,fW,hI,a9,ha) (a0.drop (w.length+1)) (w++[s.1+(i:Int)]);have als:ts.length+j4 (a0.drop (w.length+1))<=60:=by
    have:(i+1)*j4 (a0.drop (w.length+1))<=(s.2 - s.1+1).toNat*j4 (a0.drop (w.length+1)):=Nat.mul_le_mul_right _ (by omega);rw[Nat.succ_mul]at this;omega
   refine⟨?_,λaZ cY=>?_⟩
   ·simp only[Int.toNat_natCast,mN,ar,if_true,b8,hw,Db,List.take_length];rw[M.bn (by omega),M.bn ⟨by omega,by omega,trivial,by omega⟩,M.bn ⟨by simp only[j1];omega,hr (by simp only[j1];omega)⟩,DI _ ts (by omega) (by omega) als,M.aE];simp only[V.gQ];rw[show s.1+((i+1:Nat):Int)=s.1+(i:Int)+1 from by omega]
   ·simp only[V.next.injEq,Db]at cY;subst cY;rw[List.length_append,List.length_map,Nat.succ_mul];omega
  ·intro ts af;rw[xB];have ar:decide (s.1+(((s.2 - s.1+1).toNat:Nat):Int)<=s.2)=false:=by simpa using (by omega:s.2<s.1+(((s.2 - s.1+1).toNat:Nat):Int))
   simp only[Int.toNat_natCast,mN,ar,Bool.false_eq_true,if_false,M.aE];rw[M.bn (by omega)]
abbrev tU:aP:=([],[],[],[],0,0,0,0,0,0,0)
abbrev Aq:aJ:=⟨.aw gS (.bp jd),cP,λx=>∃ c:aP,x.2=some c/\c.2.2.1.length<2 ^ 63,λx=>(x.2.getD tU).2.2.1.contains (k1 x.1)⟩
theorem NX(x):M.le (VW ov.sh x) (Aq.sh x):=M.bj λh=>by
 obtain⟨s,o⟩:=x;obtain⟨c,hc,h⟩:=h;change o=some c at hc;subst hc;unfold VW;simp only[Option.getD_some];rw[show ov.sh (c.2.2.1,s.1)=M.pure (c.2.2.1.contains s.1) from M.bE h _,M.aE]
abbrev tV(c:aP):dB:=(c,e8 c,(ct c).map (h_ c))
def DJ(c:aP)(f:Option dB->M Bool):Bool:=(f (some (c,e8 c,[]))).val false
def ss(c:aP)(b:Bool):Option dB×Int:=if cr c≠0 then (none,cr c) else if b=false then (none,1) else if ct c=[] then (none,3) else (some (tV c),0)
abbrev vp:aJ:=⟨.aw jd (.fn (.bp sc) .bool),.aw (.bp sc) tI,λx=>gr x.1/\(cr x.1=0->∃ b,x.2 (some (x.1,e8 x.1,[]))=M.pure b),λx=>ss x.1 (DJ x.1 x.2)⟩
theorem alu{c:aP}(az:gB c):Hj ((λs=>Aq.sh (s,some c)),eO c.2.1,())=M.pure ((0,(e8 c).length),e8 c++List.replicate ((eO c.2.1).length - (e8 c).length) jf,()):=by
 have hv:∀ s,Aq.sh (s,some c)=M.pure (c.2.2.1.contains s.1):=λs=>M.bE ⟨c,rfl,by have:=az.js;omega⟩ _;have e:((eO c.2.1).filter λs=>!(Aq.sh (s,some c)).val false)=e8 c:=by
  unfold e8;simp_all
 have:=akF c.2.1;refine (M.bE ⟨show (eO c.2.1).length<2 ^ 63 by omega,λs _=>⟨_,hv s⟩⟩ _).trans (congrArg M.pure ?_);grind
set_option maxHeartbeats 1000000 in
theorem alv(x):M.le (VB hH.sh Hh Hj (xQ 5) Aq.sh x) (vp.sh x):=M.bj λh=>by
 obtain⟨c,f⟩:=x;obtain⟨h,aq⟩:=h;change gr c at h;change cr c=0->∃ b,f (some (c,e8 c,[]))=M.pure b at aq;unfold VB;show _=M.pure (ss c (DJ c f));unfold ss;rw[show hH.sh c=M.pure (cr c) from M.bE h.gz _];simp only[M.aE,decide_eq_true_eq];by_cases hc:cr c=0
 ·simp only[hc,ne_eq,not_true_eq_false,if_false];have az:=oy hc;obtain⟨b,aa⟩:=aq hc;have h1:=az.dF;have hid:=Hi az.iI;rw[show Hh (c.2.1,())=M.pure (true,eO c.2.1,()) from M.bE ⟨hid,(Ag _).2 az.Ae⟩ _,M.aE];simp only[M.bf];rw[alu az,M.aE];have ph:List.drop 0 (List.take (e8 c).length (e8 c++List.replicate ((eO c.2.1).length - (e8 c).length) jf))=e8 c:=by
   rw[List.drop_zero,List.take_left]
  simp only[ph];unfold DJ;simp only[aa,M.fg,M.aE];cases b with
  | false=>simp
  | true=>
   simp only[Bool.not_true,Bool.false_eq_true,if_false,M.aE,M.bL,reduceCtorEq];simp only[Prod.cI,Prod.e6,Prod.gp,Prod.h9,Prod.jC,Prod.kB,Prod.ho,Prod.mI,Prod.pc,Prod.sa,Prod.xG,Prod.Ng,Prod.Nh,Prod.Ni,Prod.Nj,ph];have mN:xQ 5 ([],c.1,c.2.1,c.2.2.1,c.2.2.2.1,c.2.2.2.2.1,c.2.2.2.2.2.1,c.2.2.2.2.2.2.1,c.2.2.2.2.2.2.2.1,c.2.2.2.2.2.2.2.2.1,c.2.2.2.2.2.2.2.2.2.1,c.2.2.2.2.2.2.2.2.2.2,e8 c,[],())=M.pure (DH c (e8 c) ((ct c).map (h_ c))):=M.bE ⟨hc,rfl,Nat.zero_le _,show c.1.length<0+5 by omega,rfl,show 0+j4 c.1<=60 by have:=h.2 hc;omega⟩ _;rw[mN,M.aE];simp only[bH,List.length_map];by_cases aF:ct c=[]
   ·simp[aF]
   ·have:¬((ct c).length:Int)=0:=λe=>aF (List.eq_nil_of_length_eq_zero (by omega));simp only[this,aF,if_false]
 ·simp only[hc,ne_eq,not_false_eq_true,if_true]
def vq(l:List (Option ds))(f:Option ds->M (Int×Bool)):Option (Int×Int):=xP (l.filterMap λt=>if ((f t).val (0,false)).2=true then some ((f t).val (0,false)).1 else none)
abbrev Ar:aJ:=⟨.aw (.bp sc) (.fn (.bp xH) (.aw tI .bool)),.aw l9 .bool,λx=>∃ b:dB,x.1=some b/\b.2.2.length<=60/\∀ t∈b.2.2,∃ r,x.2 t=M.pure r,λx=>((vq (x.1.getD (tU,[],[])).2.2 x.2).getD (0,0),(vq (x.1.getD (tU,[],[])).2.2 x.2).isSome)⟩
theorem W6{ai β fX:Type}(g:ai->Option β)(h:fX->β->fX):∀ (l:List ai) (b:fX),l.foldl (λb x=>(g x).elim b λy=>h b y) b=(l.filterMap g).foldl h b
 | [],b=>rfl
 | x::l,b=>by
  simp only[List.foldl_cons,List.filterMap_cons];rw[W6 g h l];grind
theorem alw(x):M.le (VK x) (Ar.sh x):=M.bj λh=>by
 obtain⟨o,f⟩:=x;obtain⟨b,aa,ah,aq⟩:=h;change o=some b at aa;subst aa;unfold VK;show _=M.pure ((vq b.2.2 f).getD (0,0),(vq b.2.2 f).isSome);simp only[Option.isSome_some,M.bf,Option.getD_some];change b.2.2.length<=60 at ah;change ∀ t∈b.2.2,∃ r,f t=M.pure r at aq;generalize b.2.2=l at *
 rw[M.dm l (λi (o:Option (Int×Int))=>(f,o.isSome,l,(l.length:Int),(i:Int),o.getD (0,0),())) (λt o=>.next ((if ((f t).val (0,false)).2=true then some ((f t).val (0,false)).1 else none).elim o λn=>some (Ho o n))) (λo=>.next (o.isSome,o.getD (0,0),())) none ?_ ?_ ?_]
 ·rw[dV,W6 (λt=>if ((f t).val (0,false)).2=true then some ((f t).val (0,false)).1 else none) (λo n=>some (Ho o n)),M.aE];rfl
 ·rfl
 ·intro i E o;have hw:=bo (n:=(i:Int)+1) (by omega) (by omega);obtain⟨r,G⟩:=aq _ (List.getElem_mem E);simp only[Prod.cI,bH,cH E,if_true,cZ E,cv E,M.bf,b8,hw,G,M.aE,M.fg,V.gQ];obtain⟨n,bR⟩:=r;cases bR with
  | false=>simp_all
  | true=>
   cases o with
   | none=>simp only[Bool.not_true,Bool.false_eq_true,if_false,if_true,Option.isSome_none,Bool.not_false,M.aE,M.bL,hw,Option.elim];rfl
   | some s=>
    simp only[Bool.not_true,Bool.false_eq_true,if_false,if_true,Option.isSome_some,M.aE,M.bL,hw,Option.elim,Option.getD_some];rw[WQ,akW];rfl
 simp
section
variable {ai:Type}
def W7(x:Nat×List (Int×ai)×(Nat×(z1'->Prop)×z1'×Bool)×Unit):M ((Nat×(z1'->Prop)×z1'×Bool)×Unit):=
 M.bind (M.pure ()) λy=>M.loop (λ(A:Nat×(Nat×(z1'->Prop)×z1'×Bool)×(Option (Int×ai)×List (Int×ai))×Unit)=>
 M.bind (FD A.2.2.1.2) λy=>if Option.isSome y=true then M.bind (M.ae (Option.isSome (ny A.2.2.1.1 A.2.2.1.2 y)=true) (M.pure ())) λbJ
 =>M.bind (M.ae (A.1=A.2.1.1/\A.2.1.2.2.2=false/\∃ (T:z1'),A.2.1.2.1 (A.2.1.2.2.1++Option.getD (Option.map (λx=>x.1) (ny
 A.2.2.1.1 A.2.2.1.2 y)) 0::T)) (M.any λx=>True)) λdi=>if (!di)=true then M.bind (M.pure ((A.2.1.1,A.2.1.2.1,A.2.1.2.2.1++
 [Option.getD (Option.map (λx=>x.1) (ny A.2.2.1.1 A.2.2.1.2 y)) 0],!di),())) λr=>M.pure (V.done r) else M.pure (V.next (A.1,(A.2.1.1,A.2.1.2.1,A.2.1.2.2.1++[Option.getD (Option.map (λx=>x.1) (ny A.2.2.1.1 A.2.2.1.2 y)) 0],!di),(ny A.2.2.1.1 A.2.2.1.2 y,Ch A.2.2.1.2 y),())) else M.bind (M.pure (A.2.1,())) λr=>M.pure (V.done r)) (x.1,x.2.2.1,(none,x.2.1),())
theorem W8{β:Type}:∀ (l:List β) (i:Nat) (h:i<l.length),(l[i]::l.eraseIdx i).Perm l
 | x::l,0,_=>.refl _
 | x::l,i+1,h=>by
  simp only[List.getElem_cons_succ,List.eraseIdx_cons_succ];exact (List.Perm.swap x _ _).trans ((W8 l i (by grind)).cons x)
theorem W9(l:Nat)(m:List (Int×ai)):M.b9 (W7 (l,m,(l,jD (some m),[],false),())) λy=>y.1.2.2.2=false->jD (some m) y.1.2.2.1:=by
 unfold W7;rw[M.aE];refine M.Bh (λA=>∃ p c bZ,A=(l,(l,jD (some m),p,false),(c,bZ),())/\(m.map (·.1)).Perm (p++bZ.map (·.1))) (λA=>A.2.2.1.2.length) ?_ _ ⟨[],none,m,rfl,.refl _⟩;rintro A ⟨p,c,bZ,rfl,hp⟩;simp only;rw[M.fF];refine⟨trivial,λy aK=>?_⟩;cases y with
 | none=>
  have G:bZ=[]:=aK;subst G;simp only[Option.isSome_none,Bool.false_eq_true,if_false,M.aE];refine M.dC.2 λ_=>tN.2 (by grind)
 | some i=>
  have E:i<bZ.length:=aK;have ax:ny c bZ (some i)=some bZ[i]:=List.getElem?_eq_getElem E;have G:Ch bZ (some i)=bZ.eraseIdx i:=rfl;have DK:(m.map (·.1)).Perm (p++bZ[i].1::(bZ.eraseIdx i).map (·.1)):=hp.trans (List.Perm.append_left p ((W8 bZ i E).symm.map (·.1)));simp only[Option.isSome_some,if_true,ax,G,M.bf,M.aE,Option.map_some,Option.getD_some];rw[M.fF,M.ko];refine⟨⟨trivial,trivial,(bZ.eraseIdx i).map (·.1),tN.2 DK⟩,⟨true,trivial⟩,λb _=>?_⟩;cases b with
  | false=>
   simp only[Bool.not_false,if_true,M.aE];exact M.dC.2 λh=>by cases h
  | true=>
   simp only[Bool.not_true,Bool.false_eq_true,if_false];refine M.dC.2 ⟨⟨p++[bZ[i].1],some bZ[i],bZ.eraseIdx i,rfl,by grind⟩,?_⟩;grind
end
theorem alx(l:Nat)(m:z4'):M.b9 (Nv (l,m,(l,jD (some m),[],false),())) λy=>y.1.2.2.2=false->jD (some m) y.1.2.2.1:=W9 l m
theorem aly(l:Nat)(m:List (Int×aT)):M.b9 (Nw (l,m,(l,jD (some m),[],false),())) λy=>y.1.2.2.2=false->jD (some m) y.1.2.2.1:=W9 l m
def db(cl:z4'):List bg->List bg
 | a::b::r=>(a.1,lH cl a.2 b.2)::db cl r
 | _=>[]
def DL(c:aP)(fA:List (List bg)):Prop:=fA.length=10/\∀ l∈fA,l.length<=12/\∀ i,(h:i+1<l.length)->Am (c,l[i].2,l[i+1].2)
def pn(c:aP)(fA:List (List bg)):List bg:=fA.flatMap (db c.2.2.2.1)
def su(x:Option (Option ds)×Option (Option dB))(L:List bg):Prop:=∃ t b,x.1=some (some t)/\x.2=some (some b)/\DL b.1 t.2/\L=pn b.1 t.2
theorem alz{cl:z4'}{l:List bg}{i:Nat}(h:i+1<l.length):db cl (l.drop i)=(l[i].1,lH cl l[i].2 l[i+1].2)::db cl (l.drop (i+2)):=by
 rw[List.drop_eq_getElem_cons (by omega:i<l.length),List.drop_eq_getElem_cons h];rfl
theorem alA{cl:z4'}{l:List bg}{i:Nat}(h:¬i+1<l.length):db cl (l.drop i)=[]:=by
 have:(l.drop i).length<=1:=by grind
 match h:l.drop i with
 | []=>rfl
 | [_]=>rfl
 | _::_::_=>grind
set_option maxHeartbeats 1000000 in
theorem alB(eS:Nat)(t:ds)(b:dB)(h:DL b.1 t.2):M.b9 (G6 vm.sh (eS,some t,some b,(eS,su (some (some t),some (some b)),[],false),())) λy=>y.1.2.2.2=false->su (some (some t),some (some b)) y.1.2.2.1:=by
 obtain⟨h1,h2⟩:=h;have Gl:∀ L,su (some (some t),some (some b)) L<->L=pn b.1 t.2:=λL=>⟨λ⟨cA,aZ,e1,e2,_,e⟩=>by cases e1;cases e2;exact e,λe=>⟨t,b,rfl,rfl,⟨h1,h2⟩,e⟩⟩
 generalize su (some (some t),some (some b))=S at *
 unfold G6;simp only[Option.isSome_some,M.bf,Option.getD_some];refine M.Bh (λA=>∃ (u:Nat),u<=10/\A=(eS,some b,t.2,(u:Int),(eS,S,(t.2.take u).flatMap (db b.1.2.2.2.1),false),())) (λA=>(10 - A.2.2.2.1).toNat) ?_ _ ⟨0,by omega,rfl⟩;rintro A ⟨u,hu,rfl⟩;by_cases Lj:u<10
 ·have ar:decide ((u:Int)<10)=true:=by simpa using (by omega:(u:Int)<10)
  have r6:u<t.2.length:=by omega
  have alC:=bo (n:=(u:Int)+1) (by omega) (by omega);have aj:=List.getElem_mem r6;obtain⟨h3,aQ⟩:=h2 _ aj;simp only[ar,if_true,cZ r6];rw[M.bn (show (0:Int)<=(u:Int)/\(u:Int)<Int.ofNat 10 by rw[bH];omega)];have fj:pn b.1 t.2=(t.2.take u).flatMap (db b.1.2.2.2.1)++(db b.1.2.2.2.1 t.2[u]++(t.2.drop (u+1)).flatMap (db b.1.2.2.2.1)):=by
   unfold pn;conv=>lhs;rw[<-List.take_append_drop u t.2,List.drop_eq_getElem_cons r6]
   simp only[List.flatMap_append,List.flatMap_cons]
  generalize alD:t.2[u]=jG at *
  generalize (t.2.drop (u+1)).flatMap (db b.1.2.2.2.1)=R at *
  generalize i_:(t.2.take u).flatMap (db b.1.2.2.2.1)=P at *
  have alE:(t.2.take (u+1)).flatMap (db b.1.2.2.2.1)=P++db b.1.2.2.2.1 jG:=by
   rw[List.take_add_one,List.getElem?_eq_getElem r6,Option.toList_some,List.flatMap_append,i_,alD];simp
  rw[M.fF];refine (M.Bh (p:=λz=>match z with | .next z=>z=(eS,some b,t.2,(u:Int),(eS,S,P++db b.1.2.2.2.1 jG,false),()) | .done z=>(match z with | .next _=>False | .done y=>y.1.2.2.2=true)) (λA=>∃ (i:Nat) (Q:List bg),i<=jG.length+1/\Q++db b.1.2.2.2.1 (jG.drop i)=db b.1.2.2.2.1 jG/\A=(eS,some b,jG,(i:Int),t.2,(u:Int),(eS,S,P++Q,false),())) (λA=>(20 - A.2.2.2.1).toNat) ?_ _ ⟨0,[],by omega,by simp,by simp⟩).mono λz a8=>?_
  ·rintro A ⟨i,Q,n5,tz,rfl⟩;have hw:=bo (n:=(i:Int)+1) (by omega) (by omega);have gA:=bo (n:=(i:Int)+2) (by omega) (by omega);by_cases E:i+1<jG.length
   ·have Lb:i<jG.length:=by omega
    have ar:decide ((i:Int)+1<(jG.length:Int))=true:=by simpa using (by omega:(i:Int)+1<(jG.length:Int))
    have cm:(0:Int)<=(i:Int)+1/\(i:Int)+1<(jG.length:Int):=⟨by omega,by omega⟩
    have je:jG.getD ((i:Int)+1).toNat ((0,0,0,0,0,0),0)=jG[i+1]:=by
     rw[show ((i:Int)+1).toNat=i+1 from by omega,sj E]
    have em:vm.sh (b.1,jG[i].2,jG[i+1].2)=M.pure (lH b.1.2.2.2.1 jG[i].2 jG[i+1].2):=M.bE (aQ i E) _;simp only[Prod.cI,Prod.e6,bH,b8,hw,ar,if_true,cZ Lb,cv Lb,cm,je,Option.isSome_some,Option.getD_some,em,M.iC,M.fg,and_self,M.bf,decide_true];rw[M.fF,M.ko];have cy:=alz (cl:=b.1.2.2.2.1) E;refine⟨⟨trivial,trivial,db b.1.2.2.2.1 (jG.drop (i+2))++R,(Gl _).2 ?_⟩,⟨true,trivial⟩,λy _=>?_⟩
    ·rw[fj,<-tz,cy];simp
    ·cases y with
     | false=>
      simp only[Bool.not_false,if_true,M.aE];exact M.dC.2 rfl
     | true=>
      simp only[Bool.not_true,Bool.false_eq_true,if_false,gA];refine M.dC.2 ⟨⟨i+2,Q++[(jG[i].1,lH b.1.2.2.2.1 jG[i].2 jG[i+1].2)],by omega,?_,?_⟩,?_⟩
      ·rw[<-tz,cy];simp
      ·rw[List.append_assoc];rfl
      ·show (20 - ((i:Int)+2)).toNat<(20 - (i:Int)).toNat;omega
   ·have ar:decide ((i:Int)+1<(jG.length:Int))=false:=by simpa using (by omega:(jG.length:Int)<=(i:Int)+1)
    simp only[bH,b8,hw,ar,Bool.false_eq_true,if_false,M.aE];refine M.dC.2 ?_;rw[alA E,List.append_nil]at tz;show (eS,some b,t.2,(u:Int),(eS,S,P++Q,false),())=_;rw[tz]
  ·cases z with
   | next z=>
    have a8:z=_:=a8;subst a8;simp only[M.bL,b8,alC];refine M.dC.2 ⟨⟨u+1,by omega,?_⟩,?_⟩
    ·rw[alE];rfl
    ·show (10 - ((u:Int)+1)).toNat<(10 - (u:Int)).toNat;omega
   | done z=>
    cases z with
    | next z=>exact absurd a8 id
    | done y=>
     have a8:y.1.2.2.2=true:=a8;simp only[M.o_];refine M.dC.2 λh=>?_;rw[a8]at h;cases h
 ·have MI:u=10:=by omega
  subst MI;simp only[show decide (((10:Nat):Int)<10)=false from by decide,Bool.false_eq_true,if_false,M.aE];refine M.dC.2 λ_=>(Gl _).2 ?_;show (t.2.take 10).flatMap _=_;rw[<-h1,List.take_length];rfl
abbrev As:aJ:=⟨.aw (.bp sc) (.bp xH),.b6 (.aw gS tI),λ_=>True,λx=>su (some x.2,some x.1)⟩
theorem alF(x):M.le (ajC su x) (As.sh x):=M.bj λ_=>rfl
end Go.Fer.H
namespace Go.Fer.H
open M (V)
theorem Au{ai β:Type}{f:ai->β}:∀ {l:List ai},(l.map f).Nodup->∀ {a b:ai},a∈l->b∈l->f a=f b->a=b
 | [],_,a,b,aU,_,_=>by grind
 | x::l,ax,a,b,aU,aa,e=>by
  rw[List.map_cons,List.nodup_cons]at ax;rcases List.mem_cons.1 aU with h1 | h1<;>rcases List.mem_cons.1 aa with h2 | h2
  ·grind
  ·grind
  ·grind
  ·exact Au ax.2 h1 h2 e
theorem alG{l m:z1'}(h:l.Perm m):l.sum=m.sum:=by
 induction h with
 | nil=>rfl
 | cons x _ aG=>grind
 | swap x y l=>grind
 | trans _ _ h1 h2=>omega
theorem NY{l:List bg}(h:dZ l=true){i:Nat}(E:i<l.length):dL l[i].1=1+((i % 2:Nat):Int)/\(0<i->l[i].2≠(l.getD (i - 1) e0).2):=by
 unfold dZ at h;rw[List.all_eq_true]at h;have:=h i (by grind);unfold qf at this;grind
theorem W_(cl:z4'):∀ l:List bg,(∀ i,(h:i<l.length)->dL l[i].1=1+((i % 2:Nat):Int))->db cl l=((tQ l).filter λp=>dL p.1.1 == 1).map λp=>(p.1.1,lH cl p.1.2 p.2.2)
 | [],_=>rfl
 | [_],_=>rfl
 | [a,b],h=>by
  have aU:dL a.1=1:=h 0 (by simp);simp[db,tQ,aU]
 | a::b::c::r,h=>by
  have aU:dL a.1=1:=h 0 (by simp);have aa:dL b.1=2:=h 1 (by simp);have aG:=W_ cl (c::r) λi E=>by
   have:=h (i+2) (by grind);grind
  have e:tQ (a::b::c::r)=(a,b)::(b,c)::tQ (c::r):=rfl;rw[e,List.filter_cons_of_pos (by grind),List.filter_cons_of_neg (by grind),List.map_cons,<-aG];rfl
abbrev mO(c:aP)(w:z1'):List bg:=pn c (mM c w)
theorem Hz(c:aP)(w:z1'):mO c w=(dR 0 9).flatMap λu=>db c.2.2.2.1 (bN c w u):=by
 rfl
theorem NZ{c:aP}{w:z1'}(hw:iA c w=true){u:Int}(hu:0<=u/\u<=9):gC c w u=bN c w u:=by
 unfold gC;rw[if_pos (Hn hw hu)]
theorem alH{cl:z4'}{l:List bg}(h:dZ l=true)(iQ:Int):DD cl iQ l=((db cl l).find? λp=>p.1.1 == iQ).map (·.2):=by
 rw[W_ cl l λi E=>(NY h E).1];unfold DD;rw[List.find?_map,List.find?_filter,Option.map_map];refine congrArg _ (congrArg (λf=>(tQ l).find? f) ?_);grind
theorem W'{ai β:Type}{f g:ai->Option β}:∀ {l:List ai},(∀ x∈l,f x=g x)->l.findSome? f=l.findSome? g
 | [],_=>rfl
 | x::l,h=>by
  rw[List.findSome?_cons,List.findSome?_cons,h x (by simp),W' λy aK=>h y (by grind)]
theorem N0{c:aP}{w:z1'}(hw:iA c w=true)(iQ:Int):jF c w iQ=((mO c w).find? λp=>p.1.1 == iQ).map (·.2):=by
 unfold jF;rw[Hz,List.find?_flatMap,List.map_findSome?];refine W' λu hu=>?_;have hu:=qa.1 hu;rw[NZ hw hu,alH (Hn hw hu)];rfl
theorem Xa{c:aP}(az:gB c){w:z1'}(hw:iA c w=true):DL c (mM c w):=by
 have h2:=DF az.ck hw;have key:∀ u:Int,0<=u/\u<=9->(bN c w u).length<=12/\∀ i,(h:i+1<(bN c w u).length)->Am (c,(bN c w u)[i].2,(bN c w u)[i+1].2):=by
  intro u hu;have:=NZ hw hu;refine⟨DB az w u,?_⟩;have k:=λi=>@WT c az w h2 u i;simp only[this]at k;exact k
 refine⟨rfl,λl ah=>?_⟩;simp only[mM,List.mem_cons,List.not_mem_nil,or_false]at ah;rcases ah with rfl | rfl | rfl | rfl | rfl | rfl | rfl | rfl | rfl | rfl<;>exact key _ (by omega)
theorem Xb{cl:z4'}:∀ {l:List bg} {p:bg},p∈db cl l->∃ i,∃ h:i+1<l.length,i % 2=0/\p=(l[i].1,lH cl l[i].2 l[i+1].2)
 | [],_,h=>by simp[db]at h
 | [_],_,h=>by simp[db]at h
 | a::b::r,p,h=>by
  unfold db at h;rcases List.mem_cons.1 h with rfl | h
  ·exact⟨0,by simp,rfl,rfl⟩
  ·obtain⟨i,E,h2,e⟩:=Xb h;exact⟨i+2,by grind,by omega,e⟩
theorem Xc(cl:z4'):∀ l:List bg,((db cl l).map (·.1)).Sublist (l.map (·.1))
 | []=>.slnil
 | [_]=>List.nil_sublist _
 | a::b::r=>by
  unfold db;simp only[List.map_cons];exact ((Xc cl r).cons _).cons_cons _
theorem N1(l:List aT):((eO l).map (·.1)).Nodup:=by
 unfold eO;have key:∀ L:z1',L.Nodup->((L.filterMap λid=>l.find? λs=>s.1 == id).map (·.1)).Nodup/\∀ k∈(L.filterMap λid=>l.find? λs=>s.1 == id).map (·.1),k∈L:=by
  grind
 refine (key _ ?_).1;unfold dR;show List.Pairwise _ _;rw[List.pairwise_map];exact (List.pairwise_lt_range).imp λh=>by omega
theorem N2(c:aP):((e8 c).map (·.1)).Nodup:=by
 unfold e8;exact (N1 c.2.1).sublist (List.filter_sublist.map _)
theorem N3{c:aP}{a b:aT}(aU:a∈e8 c)(aa:b∈e8 c)(h:a.1=b.1):a=b:=by
 exact Au (N2 c) aU aa h
theorem N4(c:aP)(w:z1')(u:Int):((bN c w u).map (·.1)).Perm ((e8 c).filter λs=>decide (tK s=u)):=by
 unfold bN ox;refine ((Dy hG _).map _).trans ?_;rw[List.map_map];exact List.Perm.of_eq (List.map_id' _)
theorem Xd{c:aP}{w:z1'}{p:bg}(h:p∈mO c w):∃ u,0<=u/\u<=9/\∃ i,∃ E:i+1<(bN c w u).length,i % 2=0/\p=((bN c w u)[i].1,lH c.2.2.2.1 (bN c w u)[i].2 (bN c w u)[i+1].2):=by
 rw[Hz,List.mem_flatMap]at h;obtain⟨u,hu,hp⟩:=h;obtain⟨i,E,h2,e⟩:=Xb hp;exact⟨u,(qa.1 hu).1,(qa.1 hu).2,i,E,h2,e⟩
theorem Av{c:aP}{w:z1'}{p:bg}(h:p∈mO c w):p.1∈e8 c:=by
 obtain⟨u,_,_,i,E,_,rfl⟩:=Xd h;exact (DC (List.getElem_mem (by omega:i<(bN c w u).length))).1
theorem alI{c:aP}{w:z1'}(hw:iA c w=true){p:bg}(h:p∈mO c w):dL p.1=1:=by
 obtain⟨u,h1,h2,i,E,h3,rfl⟩:=Xd h;have:=(NY (Hn hw ⟨h1,h2⟩) (by omega:i<(bN c w u).length)).1;grind
theorem N5(c:aP)(w:z1'):((mO c w).map (·.1)).Nodup:=by
 have hc:(e8 c).Nodup:=by
  have:=N2 c;exact List.Pairwise.of_map _ (λa b h e=>h (by rw[e])) this
 have hu:∀ u,((db c.2.2.2.1 (bN c w u)).map (·.1)).Nodup/\∀ s∈(db c.2.2.2.1 (bN c w u)).map (·.1),tK s=u:=by
  intro u;have hs:=Xc c.2.2.2.1 (bN c w u);have hp:=N4 c w u;grind
 rw[Hz,List.map_flatMap];have key:∀ L:z1',L.Nodup->(L.flatMap λu=>(db c.2.2.2.1 (bN c w u)).map (·.1)).Nodup/\∀ s∈(L.flatMap λu=>(db c.2.2.2.1 (bN c w u)).map (·.1)),tK s∈L:=by
  grind
 refine (key _ ?_).1;unfold dR;show List.Pairwise _ _;rw[List.pairwise_map];exact (List.pairwise_lt_range).imp λh=>by omega
theorem Xe{ai:Type}(xR:ai->Int):∀ (l:List ai) (n:Int),l.foldl (λn x=>n+xR x) n=n+(l.map xR).sum
 | [],n=>by simp
 | x::l,n=>by simp only[List.foldl_cons,List.map_cons,List.sum_cons];rw[Xe xR l];omega
theorem alJ{ai:Type}{f g:ai->Int}{l:List ai}(h:∀ x∈l,f x=g x):(l.map f).sum=(l.map g).sum:=by rw[List.map_congr_left h]
theorem alK{ψ:bg->Int}:∀ (C:List aT) (H:List bg),(C.map (·.1)).Nodup->(H.map (·.1)).Nodup->(∀ p∈H,p.1∈C)->(C.map λs=>(((H.find? λp=>p.1.1 == s.1).map ψ).getD 0)).sum=(H.map ψ).sum:=by
 intro C H iY mu qJ;have e:(H.map ψ).sum=((C.filterMap λs=>H.find? λp=>p.1.1 == s.1).map ψ).sum:=by
  refine alG (List.Perm.map ψ ?_);have alL:H.Nodup:=List.Pairwise.of_map _ (λa b h e=>h (by rw[e])) mu;refine (List.perm_ext_iff_of_nodup alL ?_).2 λp=>?_
  ·have:∀ C:List aT,(C.map (·.1)).Nodup->(C.filterMap λs=>H.find? λp=>p.1.1 == s.1).Nodup/\∀ q∈(C.filterMap λs=>H.find? λp=>p.1.1 == s.1),q.1.1∈C.map (·.1):=by
    grind
   grind
  ·rw[List.mem_filterMap];constructor
   ·intro hp;refine⟨p.1,qJ p hp,?_⟩;have hex:(H.find? λq=>q.1.1 == p.1.1).isSome=true:=List.find?_isSome.2 ⟨p,hp,by simp⟩;obtain⟨q,bd⟩:=Option.isSome_iff_exists.1 hex;have DM:q.1.1=p.1.1:=by grind
    have vr:=List.mem_of_find?_eq_some bd;have alM:q.1=p.1:=Au iY (qJ q vr) (qJ p hp) DM;have:q=p:=Au mu vr hp alM;grind
   grind
 rw[e];have:∀ C:List aT,(C.map λs=>(((H.find? λp=>p.1.1 == s.1).map ψ).getD 0)).sum=((C.filterMap λs=>H.find? λp=>p.1.1 == s.1).map ψ).sum:=by
  intro C;induction C with
  | nil=>rfl
  | cons s C aG=>
   grind
 grind
def tW(c:aP)(g:Int)(p:bg):Int:=if iy p.1=g then k3 c.2.2.2.2 p.2 else 0
theorem alN{c:aP}{w:z1'}(hw:iA c w=true)(g:Int):Hm c w g=((mO c w).map (tW c g)).sum:=by
 rw[<-alK (ψ:=tW c g) (e8 c) (mO c w) (N2 c) (N5 c w) λp hp=>Av hp];unfold Hm;have e:(λ(n:Int) (s:aT)=>if (dL s=1/\iy s=g)/\(jF c w (k1 s)).isSome=true then n+k3 c.2.2.2.2 ((jF c w (k1 s)).getD 0) else n)=λn s=>n+(if (dL s=1/\iy s=g)/\(jF c w (k1 s)).isSome=true then k3 c.2.2.2.2 ((jF c w (k1 s)).getD 0) else 0):=by
  grind
 rw[e,Xe,Int.zero_add];refine alJ λs hs=>?_;rw[N0 hw];cases aq:(mO c w).find? λp=>p.1.1 == k1 s with
 | none=>simp
 | some p=>
  have hp:=List.mem_of_find?_eq_some aq;have h1:p.1.1=s.1:=by grind
  have h2:p.1=s:=N3 (Av hp) hs h1;have h3:=alI hw hp;rw[h2]at h3;simp only[Option.map_some,Option.getD_some,Option.isSome_some,and_true,h3,true_and,tW,h2]
theorem Aw(c:aP)(b:Bool):((ef c b).2≠0/\(ef c b).1=[]/\ss c b=(none,(ef c b).2))\/(ef c b=(ct c,0)/\cr c=0/\b=true/\ss c b=(some (tV c),0)):=by
 unfold ef ss;by_cases hc:cr c=0
 ·cases b with
  | false=>left;simp[hc]
  | true=>
   by_cases aF:ct c=[]
   ·left;simp[hc,aF]
   ·right;simp[hc,aF]
 ·left;simp[hc]
theorem N6{ai β:Type}{f g:ai->Option β}:∀ {l:List ai},(∀ x∈l,f x=g x)->l.filterMap f=l.filterMap g
 | [],_=>rfl
 | x::l,h=>by
  rw[List.filterMap_cons,List.filterMap_cons,h x (by simp),N6 λy aK=>h y (by simp[aK])]
theorem Xf:tR []=(0,0):=rfl
theorem alO{ai:Type}(L:List ai)(P:ai->Option ds)(f:Option ds->M (Int×Bool))(v:ai->Int×Bool)(h:∀ w∈L,f (P w)=M.pure (v w)):vq (L.map P) f=xP (L.filterMap λw=>if (v w).2=true then some (v w).1 else none):=by
 unfold vq;rw[List.filterMap_map];refine congrArg xP (N6 λw hw=>?_);simp only[Function.comp,h w hw,M.fg]
theorem Xg{ai:Type}(xR:ai->Int)(L:List ai):(L.filterMap λw=>if ((xR w,true):Int×Bool).2=true then some ((xR w,true):Int×Bool).1 else none)=L.map xR:=by
 simp only[if_true];rw[<-List.filterMap_eq_map']
theorem N7{c:aP}(ah:(ct c).length<=60){f:Option ds->M (Int×Bool)}{v:z1'->Int×Bool}(h:∀ w∈ct c,f (h_ c w)=M.pure (v w)):Ar.sh (some (tV c),f)=M.pure ((xP ((ct c).filterMap λw=>if (v w).2=true then some (v w).1 else none)).getD (0,0),(xP ((ct c).filterMap λw=>if (v w).2=true then some (v w).1 else none)).isSome):=by
 refine (M.bE ⟨tV c,rfl,show ((ct c).map (h_ c)).length<=60 by simpa using ah,λt aF=>?_⟩ _).trans (congrArg M.pure ?_)
 ·show ((vq ((ct c).map (h_ c)) f).getD (0,0),(vq ((ct c).map (h_ c)) f).isSome)=_;rw[alO _ _ f v h]
 ·obtain⟨w,hw,rfl⟩:=List.mem_map.1 aF;exact⟨_,h w hw⟩
theorem alP:∀ {l:z1'},(xP l).isSome=!l.isEmpty:=by
 intro l;have key:∀ (l:z1') (o:Option (Int×Int)),o.isSome=true->(l.foldl (λo n=>some (Ho o n)) o).isSome=true:=by
  intro l;induction l with
  | nil=>intro o h;exact h
  | cons n l aG=>intro o _;exact aG _ rfl
 cases l with
 | nil=>rfl
 | cons n l=>exact key l _ rfl
theorem DN{c:aP}{f:Option dB->M Bool}{b:Bool}(h:gr c)(aq:cr c=0->f (some (c,e8 c,[]))=M.pure b):vp.sh (c,f)=M.pure (ss c b):=by
 refine (M.bE ⟨h,λhc=>⟨b,aq hc⟩⟩ _).trans (congrArg M.pure ?_);show ss c (DJ c f)=ss c b;unfold ss DJ;by_cases hc:cr c=0
 ·rw[aq hc,M.fg]
 ·simp[hc]
theorem DO{c:aP}(h:gr c)(hc:cr c=0):(ct c).length<=60:=Nat.le_trans (NP c _ _) (h.2 hc)
theorem vs{c:aP}{w:z1'}(h:w∈ct c):iA c w=true:=NQ c _ _ _ h
abbrev Ax:aJ:=⟨.aw gS (.bp tI),cP,λx=>∃ k:Int,x.2=some k/\True,λx=>decide (k1 x.1=x.2.getD 0)&&decide (dL x.1=1)⟩
theorem alQ(x):M.le (ajM x) (Ax.sh x):=M.bj λ_=>rfl
abbrev N8:aJ:=⟨.aw (.bp sc) (.bp tI),cP,λx=>∃ (b:dB) (k:Int),x.2=some k/\x.1=some b/\b.2.1.length<2 ^ 63,λx=>(x.1.getD (tU,[],[])).2.1.any λs=>k1 s == x.2.getD 0&&dL s == 1⟩
theorem alR(x):M.le (VX (iO gS).sh Ax.sh x) (N8.sh x):=M.bj λh=>by
 obtain⟨o,k⟩:=x;obtain⟨b,_,_,aa,h⟩:=h;change o=some b at aa;subst aa;unfold VX;simp only[Option.isSome_some,M.bf,Option.getD_some];have hv:∀ s,Ax.sh (s,some (k.getD 0))=M.pure (decide (k1 s=k.getD 0)&&decide (dL s=1)):=λs=>M.bE ⟨_,rfl,trivial⟩ _;rw[show (iO gS).sh (b.2.1,λs=>Ax.sh (s,some (k.getD 0)))=M.pure (b.2.1.any λs=>(Ax.sh (s,some (k.getD 0))).val false) from M.bE ⟨h,λs _=>⟨_,hv s⟩⟩ _,M.aE];refine congrArg M.pure ?_;show _=b.2.1.any λs=>k1 s == k.getD 0&&dL s == 1;refine congrArg (λp=>b.2.1.any p) ?_;funext s;rw[hv,M.fg];rw[Bool.eq_iff_iff];simp
theorem Xh{f:Int->M Int}{n:Int}:∀ (L:List bg),(∀ p∈L,p.1.1=n->∃ v,f p.2=M.pure v)->
  jx (λ(A:Int×(Int->M Int)×Int×Bool×Unit) (y:aT×Int)=>M.bind (if decide (y.1.1=A.1)=true then M.bind (A.2.1 y.2) λy=>M.pure (cO.ret,y,true,()) else M.pure
 (cO.normal,A.2.2.1,A.2.2.2.1,())) λp=>M.pure (p.1,A.1,A.2.1,p.2.1,p.2.2.1,())) L (n,f,0,false,())=(L.find? λp=>p.1.1 == n).elim (M.pure (cO.normal,n,f,0,false,())) λp=>M.pure (cO.ret,n,f,(f p.2).val 0,true,())
 | [],_=>rfl
 | p::L,h=>by
  unfold jx;by_cases hp:p.1.1=n
  ·obtain⟨v,hv⟩:=h p (by simp) hp;simp[hp,hv]
  ·have aG:=Xh L λq bd=>h q (by simp[bd]);simp only[hp,decide_false,Bool.false_eq_true,if_false,M.aE];rw[aG,List.find?_cons_of_neg (by simpa using hp)]
abbrev N9:aJ:=⟨.aw (.bp xH) (.aw (.bp (.bp sc)) (.aw (.bp tI) (.bp (.fn tI tI)))),.aw tI .bool,λx=>∃ (t:ds) (b:dB) (n:Int) (f:Int->M Int),x=(some t,some (some b),some n,some f)/\DL b.1 t.2/\∀ p∈pn b.1 t.2,p.1.1=n->∃ v,f p.2=M.pure v,λx=>((pn ((x.2.1.getD none).getD (tU,[],[])).1 (x.1.getD ([],[])).2).find? λp=>p.1.1 == x.2.2.1.getD 0).elim (0,false) λp=>(((x.2.2.2.getD λ_=>M.fail) p.2).val 0,true)⟩
theorem alS(x):M.le (VY As.sh x) (N9.sh x):=M.r_ λh=>by
 obtain⟨t,b,n,f,rfl,h1,h2⟩:=h;unfold VY;simp only[Option.getD_some];rw[show As.sh (some b,some t)=M.pure (su (some (some t),some (some b))) from rfl,M.aE,M.fF];refine⟨⟨_,t,b,rfl,rfl,h1,rfl⟩,λL hU=>?_⟩;obtain⟨cA,aZ,e1,e2,_,rfl⟩:=hU;cases e1;cases e2;rw[Xh (f:=f) (n:=n) _ h2];show M.b9 _ λy=>y=((pn b.1 t.2).find? λp=>p.1.1 == n).elim (0,false) λp=>((f p.2).val 0,true)
 cases (pn b.1 t.2).find? λp=>p.1.1 == n with
 | none=>simp only[Option.elim,M.aE,rV];exact M.dC.2 rfl
 | some p=>simp only[Option.elim,M.aE,rV];exact M.dC.2 rfl
abbrev Ay:aJ:=⟨.aw jd (.aw tI (.fn tI tI)),.aw l9 tI,λx=>gr x.1/\∀ w∈ct x.1,∀ m,cr x.1=0->jF x.1 w x.2.1=some m->∃ v,x.2.2 m=M.pure v,λx=>(tR ((k4 x.1 x.2.1).1.map λm=>(x.2.2 m).val 0),(k4 x.1 x.2.1).2)⟩
theorem alT(x):M.le (VG vp.sh Ar.sh N8.sh N9.sh x) (Ay.sh x):=M.bj λh=>by
 obtain⟨c,n,f⟩:=x;obtain⟨h,aq⟩:=h;change gr c at h;change ∀ w∈ct c,∀ m,cr c=0->jF c w n=some m->∃ v,f m=M.pure v at aq;unfold VG;show _=M.pure (tR ((k4 c n).1.map λm=>(f m).val 0),(k4 c n).2);unfold k4;rw[DN (b:=Ap c n) h λhc=>M.bE ⟨(c,e8 c,[]),n,rfl,rfl,by have:=(oy hc).NL;show (e8 c).length<2 ^ 63;omega⟩ _];rcases Aw c (Ap c n) with⟨h1,h2,h3⟩ | ⟨h1,h2,h3,aQ⟩
 ·rw[h3];simp only[M.aE];rw[if_pos (by simpa using h1),if_pos h1];rfl
 ·rw[h1,aQ];simp only[M.aE];rw[if_neg (by simp)];have az:=oy h2;rw[N7 (v:=λw=>(jF c w n).elim (0,false) λm=>((f m).val 0,true)) (DO h h2) λw hw=>?_,M.aE]
  ·have e:((ct c).filterMap λw=>if ((jF c w n).elim ((0,false):Int×Bool) λm=>((f m).val 0,true)).2=true then some ((jF c w n).elim ((0,false):Int×Bool) λm=>((f m).val 0,true)).1 else none)=((ct c).filterMap λw=>jF c w n).map λm=>(f m).val 0:=by
    rw[List.map_filterMap];refine N6 λw _=>?_;cases jF c w n<;>rfl
   rw[e,alP];generalize (ct c).filterMap (λw=>jF c w n)=l;cases l with
   | nil=>rfl
   | cons m l=>simp;rfl
  ·have aF:=vs hw;have uN:=N0 aF n;refine (M.bE ⟨(w,mM c w),tV c,n,f,rfl,Xa az aF,λp hp Xi=>?_⟩ _).trans (congrArg M.pure ?_)
   ·show ((mO c w).find? λp=>p.1.1 == n).elim (0,false) (λp=>((f p.2).val 0,true))=_;rw[uN];cases (mO c w).find? λp=>p.1.1 == n<;>rfl
   ·refine aq w hw p.2 h2 ?_;rw[uN];have hex:((mO c w).find? λq=>q.1.1 == n).isSome=true:=List.find?_isSome.2 ⟨p,hp,by simpa using Xi⟩;obtain⟨q,bd⟩:=Option.isSome_iff_exists.1 hex;have DM:q.1.1=n:=by have:=List.find?_some bd;simpa using this
    have vr:=List.mem_of_find?_eq_some bd;have hs:q.1=p.1:=N3 (Av vr) (Av hp) (DM.trans Xi.symm);have:q=p:=Au (N5 c w) vr hp hs;rw[bd,this];rfl
abbrev xS:aJ:=⟨tI,tI,λ_=>True,λx=>x⟩
theorem alU(x):M.le (ajB x) (xS.sh x):=M.bj λ_=>rfl
theorem alV(x):M.le (Vu Ay.sh xS.sh x) (Hq.sh x):=M.bj λh=>by
 obtain⟨c,n⟩:=x;change gr c at h;unfold Vu;rw[show Ay.sh (c,n,xS.sh)=M.pure (tR ((k4 c n).1.map λm=>(xS.sh m).val 0),(k4 c n).2) from M.bE ⟨h,λ_ _ m _ _=>⟨m,rfl⟩⟩ _];simp only[M.aE];show _=M.pure (Hp c n);unfold Hp;have:((k4 c n).1.map λm=>(xS.sh m).val 0)=(k4 c n).1:=by
  have:(λm:Int=>(xS.sh m).val 0)=λm=>m:=by
   funext m;exact M.fg
  rw[this,List.map_id']
 rw[this]
abbrev xT:aJ:=⟨.aw tI (.bp jd),tI,λx=>∃ c:aP,x.2=some c/\xO (c.2.2.2.2,x.1),λx=>k3 (x.2.getD tU).2.2.2.2 x.1⟩
theorem alW(x):M.le (VH vn.sh x) (xT.sh x):=M.bj λh=>by
 obtain⟨m,q⟩:=x;obtain⟨c,hc,h⟩:=h;change q=some c at hc;subst hc;unfold VH;simp only[Option.getD_some];rw[show vn.sh (c.2.2.2.2,m)=M.pure (k3 c.2.2.2.2 m) from M.bE h _,M.aE]
theorem Xj{c:aP}(az:gB c){w:z1'}(hw:iA c w=true){n m:Int}(aj:jF c w n=some m):xT.sh (m,some c)=M.pure (k3 c.2.2.2.2 m):=by
 have:=WX az (DF az.ck hw) aj;exact M.bE ⟨c,rfl,az.NK,show -100000<=m by omega,show m<=20000 by omega⟩ _
theorem alX{c:aP}{n m:Int}(aj:m∈(k4 c n).1):cr c=0/\∃ w,iA c w=true/\w∈ct c/\jF c w n=some m:=by
 unfold k4 at aj;split at aj
 ·simp at aj
 ·split at aj
  ·simp at aj
  ·rw[List.mem_filterMap]at aj;obtain⟨w,hw,he⟩:=aj;obtain⟨h1,h2,h3,_⟩:=ala hw;exact⟨h1,w,h3,h2,he⟩
theorem alY(x):M.le (Vt Ay.sh xT.sh x) (Hs.sh x):=M.bj λh=>by
 obtain⟨c,n⟩:=x;change gr c at h;unfold Vt;rw[show Ay.sh (c,n,λm=>xT.sh (m,some c))=M.pure (tR ((k4 c n).1.map λm=>(xT.sh (m,some c)).val 0),(k4 c n).2) from M.bE ⟨h,λw hw m hc aj=>⟨_,Xj (oy hc) (vs hw) aj⟩⟩ _];simp only[M.aE];show _=M.pure (Hr c n);unfold Hr;have:((k4 c n).1.map λm=>(xT.sh (m,some c)).val 0)=(k4 c n).1.map λm=>k3 c.2.2.2.2 m:=by
  refine List.map_congr_left λm aj=>?_;obtain⟨hc,w,hw,_,he⟩:=alX aj;rw[Xj (oy hc) hw he,M.fg]
 rw[this]
abbrev N_:aJ:=⟨.aw (.bp sc) (.bp tI),cP,λx=>∃ k:Int,x.2=some k/\True,λx=>bK (x.2.getD 0) 0 99⟩
theorem alZ(x):M.le (VM vd.sh x) (N_.sh x):=M.bj λ_=>by
 unfold VM;rw[show vd.sh (x.2.getD 0)=M.pure (bK (x.2.getD 0) 0 99) from rfl,M.aE]
abbrev N':aJ:=⟨.aw (.bp xH) (.aw (.bp (.bp sc)) (.aw (.bp tI) (.bp jd))),.aw tI .bool,λx=>∃ (t:ds) (b:dB) (n:Int) (c:aP),x=(some t,some (some b),some n,some c)/\DL b.1 t.2/\(pn b.1 t.2).length<=1000/\∀ p∈pn b.1 t.2,xO (c.2.2.2.2,p.2),λx=>(((pn ((x.2.1.getD none).getD (tU,[],[])).1 (x.1.getD ([],[])).2).map (tW (x.2.2.2.getD tU) (x.2.2.1.getD 0))).sum,true)⟩
theorem Oa{c:aP}{n:Int}:∀ (L:List bg) (a:Int),(∀ p∈L,xO (c.2.2.2.2,p.2))->0<=a->a+100000*(L.length:Int)<=1000000000->
  jx (λ(A:Int×aP×Int×Unit) (y:aT×Int)=>M.bind (if decide (y.1.2.2.2.2.2=A.1)=true then M.ae (vn.sh (A.2.1.2.2.2.2,y.2)).b4 (M.pure (cO.normal,IntKind.wrap
 .i64 (Add.add A.2.2.1 (M.val (vn.sh (A.2.1.2.2.2.2,y.2)) 0)),())) else M.pure (cO.normal,A.2.2.1,())) λp=>M.pure (p.1,A.1,A.2.1,p.2.1,())) L (n,c,a,())=M.pure (cO.normal,n,c,a+(L.map (tW c n)).sum,())
 | [],a,_,_,_=>by simp[jx]
 | p::L,a,h,h0,h1=>by
  unfold jx;simp only[List.length_cons]at h1;by_cases hp:p.1.2.2.2.2.2=n
  ·have aa:=akZ (h p (by simp));have hv:vn.sh (c.2.2.2.2,p.2)=M.pure (k3 c.2.2.2.2 p.2):=M.bE (h p (by simp)) _;have hw:=bo (n:=a+k3 c.2.2.2.2 p.2) (by omega) (by omega);have aG:=Oa (c:=c) (n:=n) L (a+k3 c.2.2.2.2 p.2) (λq bd=>h q (by simp[bd])) (by omega) (by omega);simp only[hp,decide_true,if_true,hv,M.iC,M.fg,M.bf,b8,hw,M.aE];simp only[b8]at aG;rw[aG,List.map_cons,List.sum_cons];rw[show tW c n p=k3 c.2.2.2.2 p.2 from if_pos hp];rw[Int.add_assoc]
  ·have aG:=Oa (c:=c) (n:=n) L a (λq bd=>h q (by simp[bd])) h0 (by omega);simp only[hp,decide_false,Bool.false_eq_true,if_false,M.aE];rw[aG,List.map_cons,List.sum_cons];rw[show tW c n p=0 from if_neg hp,Int.zero_add]
theorem al0(x):M.le (VO vn.sh As.sh x) (N'.sh x):=M.r_ λh=>by
 obtain⟨t,b,n,c,rfl,h1,h2,h3⟩:=h;unfold VO;simp only[Option.getD_some];rw[show As.sh (some b,some t)=M.pure (su (some (some t),some (some b))) from rfl,M.aE,M.fF];refine⟨⟨_,t,b,rfl,rfl,h1,rfl⟩,λL hU=>?_⟩;obtain⟨cA,aZ,e1,e2,_,rfl⟩:=hU;cases e1;cases e2;rw[Oa _ 0 h3 (by omega) (by omega)];show M.b9 _ λy=>y=(((pn b.1 t.2).map (tW c n)).sum,true)
 simp only[M.aE,rV,Int.zero_add];exact M.dC.2 rfl
theorem Xk(cl:z4'):∀ l:List bg,(db cl l).length<=l.length
 | []=>by simp[db]
 | [_]=>by simp[db]
 | a::b::r=>by unfold db;simp only[List.length_cons];have:=Xk cl r;omega
theorem al1{c:aP}(az:gB c)(w:z1'):(mO c w).length<=1000:=by
 rw[Hz];have:=NO (λu=>db c.2.2.2.1 (bN c w u)) 12 (dR 0 9) λu _=>Nat.le_trans (Xk _ _) (DB az w u);rw[show (dR 0 9).length=10 from by decide]at this;omega
theorem al2{c:aP}(az:gB c){w:z1'}(hw:iA c w=true){p:bg}(hp:p∈mO c w):xO (c.2.2.2.2,p.2):=by
 have hex:((mO c w).find? λq=>q.1.1 == p.1.1).isSome=true:=List.find?_isSome.2 ⟨p,hp,by simp⟩;obtain⟨q,bd⟩:=Option.isSome_iff_exists.1 hex;have DM:q.1.1=p.1.1:=by have:=List.find?_some bd;simpa using this
 have vr:=List.mem_of_find?_eq_some bd;have:q=p:=Au (N5 c w) vr hp (N3 (Av vr) (Av hp) DM);have hv:jF c w p.1.1=some p.2:=by rw[N0 hw,bd,this];rfl
 have:=WX az (DF az.ck hw) hv;exact⟨az.NK,show -100000<=p.2 by omega,show p.2<=20000 by omega⟩
theorem al3(x):M.le (Vw vp.sh Ar.sh N_.sh N'.sh x) (Hu.sh x):=M.bj λh=>by
 obtain⟨c,g⟩:=x;change gr c at h;unfold Vw;show _=M.pure (Ht c g);unfold Ht;rw[DN (b:=bK g 0 99) h λhc=>M.bE ⟨g,rfl,trivial⟩ _];rcases Aw c (bK g 0 99) with⟨h1,h2,h3⟩ | ⟨h1,h2,h3,aQ⟩
 ·rw[h2,h3];simp only[M.aE,List.map_nil,Xf];rw[if_pos (by simpa using h1)]
 ·rw[h1,aQ];simp only[M.aE];rw[if_neg (by simp)];have az:=oy h2;rw[N7 (v:=λw=>(Hm c w g,true)) (DO h h2) λw hw=>?_,M.aE,Xg]
  ·rfl
  ·have aF:=vs hw;refine (M.bE ⟨(w,mM c w),tV c,g,c,rfl,Xa az aF,al1 az w,λp hp=>al2 az aF hp⟩ _).trans (congrArg M.pure ?_);show (((mO c w).map (tW c g)).sum,true)=_;rw[alN aF]
def l_(t:Int):List bg->bg×Bool->bg×Bool
 | [],b=>b
 | e::l,b=>l_ t l (if e.2<=t then (e,decide (dL e.1=1)) else b)
def gD(l:List bg)(t:Int):bg×Bool:=l_ t l (e0,false)
theorem Xl{t:Int}{e:bg}{l:List bg}{b:bg×Bool}(h:e.2<=t):l_ t (e::l) b=l_ t l (e,decide (dL e.1=1)):=by rw[l_,if_pos h]
theorem Xm{t:Int}{e:bg}{l:List bg}{b:bg×Bool}(h:¬e.2<=t):l_ t (e::l) b=l_ t l b:=by rw[l_,if_neg h]
theorem Xn(t:Int):∀ (l:List bg) (b:bg×Bool),l.foldl (λb e=>if e.2<=t then (e,decide (dL e.1=1)) else b) b=l_ t l b
 | [],_=>rfl
 | e::l,b=>Xn t l _
theorem al4(l:List bg)(t:Int)(h:∀ e∈l,dL e.1=1\/dL e.1=2):mK l t=(if (gD l t).2=true then iy (gD l t).1.1 else -1,(gD l t).1.2):=by
 have key:∀ (l:List bg) (b:bg×Bool),(∀ e∈l,dL e.1=1\/dL e.1=2)->l.foldl (λb e=>if e.2<=t then (if dL e.1=2 then (-1,e.2) else (iy e.1,e.2)) else b) (if b.2=true then iy b.1.1 else -1,b.1.2)=(if (l_ t l b).2=true then iy (l_ t l b).1.1 else -1,(l_ t l b).1.2):=by
  intro l;induction l with
  | nil=>intro b _;rfl
  | cons e l aG=>
   intro b h;rw[List.foldl_cons];by_cases he:e.2<=t
   ·rw[Xl he,<-aG (e,decide (dL e.1=1)) λx hx=>h x (by grind),if_pos he];grind
   ·rw[Xm he,if_neg he];grind
 exact key l (e0,false) h
theorem Xo(l:List bg)(t:Int):gD l t=(e0,false)\/((gD l t).1∈l/\(gD l t).1.2<=t/\(gD l t).2=decide (dL (gD l t).1.1=1)):=by
 have key:∀ (l:List bg) (b:bg×Bool),l_ t l b=b\/((l_ t l b).1∈l/\(l_ t l b).1.2<=t/\(l_ t l b).2=decide (dL (l_ t l b).1.1=1)):=by
  intro l;induction l with
  | nil=>intro b;exact .inl rfl
  | cons e l aG=>
   intro b;by_cases he:e.2<=t
   ·rw[Xl he];grind
   ·rw[Xm he];grind
 exact key l (e0,false)
abbrev Ob(t:ds):Prop:=t.2.length=10/\∀ l∈t.2,l.length<=12
abbrev xU:aJ:=⟨.aw (.bp xH) (.aw tI tI),.aw G_ .bool,λx=>∃ t:ds,x.1=some t/\Ob t/\0<=x.2.1/\x.2.1<=9,λx=>gD ((x.1.getD ([],[])).2.getD x.2.1.toNat []) x.2.2⟩
theorem al5(x):M.le (VE x) (xU.sh x):=M.bj λh=>by
 obtain⟨o,u,m⟩:=x;obtain⟨t,h1,⟨h2,h3⟩,aQ,bu⟩:=h;change o=some t at h1;change 0<=u at aQ;change u<=9 at bu;subst h1;unfold VE;show _=M.pure (gD (t.2.getD u.toNat []) m);simp only[Option.isSome_some,M.bf,Option.getD_some];rw[M.bn (show (0:Int)<=u/\u<Int.ofNat 10 by grind)];have aj:t.2.getD u.toNat []∈t.2:=xA aQ (by omega);have ah:=h3 _ aj;generalize t.2.getD u.toNat []=l at *
 rw[M.dm l (λi (b:bg×Bool)=>(m,b.2,l,(l.length:Int),(i:Int),e0,b.1,())) (λe b=>.next (if e.2<=m then (e,decide (dL e.1=1)) else b)) (λb=>.next (b.2,e0,b.1,())) (e0,false) ?_ ?_ ?_]
 ·rw[dV,M.aE,Xn];rfl
 ·rfl
 ·intro i E b;have hw:=bo (n:=(i:Int)+1) (by omega) (by omega);simp only[Prod.cI,Prod.e6,bH,cH E,if_true,cZ E,cv E,M.bf,b8,hw,V.gQ,decide_eq_true_eq];by_cases he:l[i].2<=m
  ·simp_all
  ·simp only[he,if_false,M.aE,M.bL,hw];rfl
 simp
theorem Xp(c:aP)(w:z1'){u:Int}(h0:0<=u)(h:u<=9):(mM c w).getD u.toNat []=bN c w u:=by
 have hu:u=0\/u=1\/u=2\/u=3\/u=4\/u=5\/u=6\/u=7\/u=8\/u=9:=by omega
 rcases hu with rfl | rfl | rfl | rfl | rfl | rfl | rfl | rfl | rfl | rfl<;>rfl
theorem Xq{c:aP}(az:gB c)(w:z1'):Ob (w,mM c w):=by
 refine⟨rfl,λl ah=>?_⟩;simp only[mM,List.mem_cons,List.not_mem_nil,or_false]at ah;rcases ah with rfl | rfl | rfl | rfl | rfl | rfl | rfl | rfl | rfl | rfl<;>exact DB az w _
theorem Xr{c:aP}(az:gB c)(w:z1'){u t:Int}(h0:0<=u)(h:u<=9):xU.sh (h_ c w,u,t)=M.pure (gD (bN c w u) t):=by
 refine (M.bE ⟨_,rfl,Xq az w,h0,h⟩ _).trans (congrArg M.pure ?_);show gD ((mM c w).getD u.toNat []) t=_;rw[Xp c w h0 h]
theorem al6{c:aP}(az:gB c){w:z1'}{u:Int}{e:bg}(he:e∈bN c w u):dL e.1=1\/dL e.1=2/\iy e.1=0:=(Aj.1 (az.Al (DC he).1)).2.2.2.2.2
theorem Oc{c:aP}(az:gB c){w:z1'}{u:Int}{e:bg}(he:e∈bN c w u):0<=iy e.1/\iy e.1<=99:=(Aj.1 (az.Al (DC he).1)).2.2.2.2.1
theorem HA{c:aP}(az:gB c){w:z1'}(hw:iA c w=true){u:Int}(hu:0<=u/\u<=9)(t:Int):mK (gC c w u) t=(if (gD (bN c w u) t).2=true then iy (gD (bN c w u) t).1.1 else -1,(gD (bN c w u) t).1.2)/\(decide ((mK (gC c w u) t).1>=0)=(gD (bN c w u) t).2):=by
 have e:=al4 (bN c w u) t λe he=>(al6 az he).imp id And.left;rw[NZ hw hu];refine⟨e,?_⟩;rw[e];cases aa:(gD (bN c w u) t).2 with
 | false=>simp
 | true=>
  simp only[if_true,decide_eq_true_eq];rcases Xo (bN c w u) t with h | ⟨h,_⟩
  ·grind
  ·exact (Oc az h).1
abbrev Az:aJ:=⟨.aw (.bp sc) (.bp tI),cP,λx=>∃ k:Int,x.2=some k/\True,λx=>bK (x.2.getD 0) 0 9999⟩
theorem Xs(x):M.le (VJ xK.sh x) (Az.sh x):=M.bj λ_=>by
 unfold VJ;rw[show xK.sh (x.2.getD 0)=M.pure (bK (x.2.getD 0) 0 9999) from rfl,M.aE]
theorem al7(x):M.le (ajJ xK.sh x) (Az.sh x):=Xs x
def DP(t:ds)(m p:Int):Int:=(dR 0 9).foldl (λn u=>if (gD (t.2.getD u.toNat []) m).2=true then n+p else n) 0
abbrev Od:aJ:=⟨.aw (.bp xH) (.aw (.bp tI) (.bp jd)),.aw tI .bool,λx=>∃ (t:ds) (m:Int) (c:aP),x=(some t,some m,some c)/\Ob t/\0<=c.2.2.2.2.2.2.2.2.2.2/\c.2.2.2.2.2.2.2.2.2.2<=100000,λx=>(DP (x.1.getD ([],[])) (x.2.1.getD 0) (x.2.2.getD tU).2.2.2.2.2.2.2.2.2.2,true)⟩
theorem al8(x):M.le (VL xU.sh x) (Od.sh x):=M.bj λh=>by
 obtain⟨t,m,c,rfl,h1,h2,h3⟩:=h;unfold VL;simp only[Option.getD_some];show _=M.pure (DP t m c.2.2.2.2.2.2.2.2.2.2,true);rw[M.gn (dR 0 9) (λi (n:Int)=>(some t,m,c,n,(i:Int),())) (λu n=>.next (if (gD (t.2.getD u.toNat []) m).2=true then n+c.2.2.2.2.2.2.2.2.2.2 else n)) (λn=>.next (n,())) (λi n=>0<=n/\n<=100000*(i:Int)) 0 ?_ ?_ ?_ ?_]
 ·rw[dV,M.aE];rfl
 ·rfl
 ·omega
 ·intro i E n ax;have E:i<10:=by simpa [dR]using E
  have hw:=bo (n:=(i:Int)+1) (by omega) (by omega);have gA:=bo (n:=n+c.2.2.2.2.2.2.2.2.2.2) (by omega) (by omega);have ar:decide ((i:Int)<10)=true:=by grind
  refine⟨?_,λaZ cY=>?_⟩
  ·simp only[ar,if_true,Db,Int.zero_add];rw[show xU.sh (some t,(i:Int),m)=M.pure (gD (t.2.getD ((i:Int)).toNat []) m) from M.bE ⟨t,rfl,h1,by simp,by grind⟩ _];simp only[M.aE,b8,hw,gA,V.gQ];by_cases an:(gD (t.2.getD ((i:Int)).toNat []) m).2=true
   ·simp only[an,if_true,M.aE,M.bL,hw];rfl
   ·simp only[an,Bool.false_eq_true,if_false,M.aE,M.bL,hw];rfl
  grind
 ·intro n ax;have:(dR 0 9).length=10:=by decide
  simp[this]
theorem al9{c:aP}(az:gB c){w:z1'}(hw:iA c w=true)(m:Int):DP (w,mM c w) m c.2.2.2.2.2.2.2.2.2.2=Hl c w m*c.2.2.2.2.2.2.2.2.2.2:=by
 unfold DP Hl;have key:∀ (L:z1') (n:Int),(∀ u∈L,0<=u/\u<=9)->L.foldl (λn u=>if (gD ((mM c w).getD u.toNat []) m).2=true then n+c.2.2.2.2.2.2.2.2.2.2 else n) (n*c.2.2.2.2.2.2.2.2.2.2)=(L.foldl (λn u=>if (mK (gC c w u) m).1>=0 then n+1 else n) n)*c.2.2.2.2.2.2.2.2.2.2:=by
  intro L;induction L with
  | nil=>simp
  | cons u L aG=>
   intro n h;have hu:=h u (by simp);obtain⟨_,h2⟩:=HA az hw hu m;simp only[List.foldl_cons];rw[Xp c w hu.1 hu.2];grind
 have:=key (dR 0 9) 0 λu hu=>qa.1 hu;grind
theorem al_(x):M.le (Vv vp.sh Ar.sh Az.sh Od.sh x) (Hw.sh x):=M.bj λh=>by
 obtain⟨c,t⟩:=x;change gr c at h;unfold Vv;show _=M.pure (Hv c t);unfold Hv;rw[DN (b:=bK t 0 9999) h λhc=>M.bE ⟨t,rfl,trivial⟩ _];rcases Aw c (bK t 0 9999) with⟨h1,h2,h3⟩ | ⟨h1,h2,h3,aQ⟩
 ·rw[h2,h3];simp only[M.aE,List.map_nil,Xf];grind
 ·rw[h1,aQ];simp only[M.aE];rw[if_neg (by simp)];have az:=oy h2;have hp:=(Hk.1 az.NK).2.2.2.2.2.2;rw[N7 (v:=λw=>(Hl c w t*c.2.2.2.2.2.2.2.2.2.2,true)) (DO h h2) λw hw=>?_,M.aE,Xg]
  ·rfl
  ·refine (M.bE ⟨(w,mM c w),t,c,rfl,Xq az w,hp.1,hp.2⟩ _).trans (congrArg M.pure ?_);show (DP (w,mM c w) t c.2.2.2.2.2.2.2.2.2.2,true)=_;rw[al9 az (vs hw)]
theorem Xt(p:Int×Int)(m:z4')(k v:Int):eN (p::m) k v=if decide (k=p.1)=true then (p.1,v)::m else p::eN m k v:=rfl
theorem Oe(k v:Int):∀ m:z4',((m.map (·.1)).Nodup->((eN m k v).map (·.1)).Nodup)/\∀ x,x∈(eN m k v).map (·.1)<->x∈m.map (·.1)\/x=k
 | []=>by
  rw[show eN [] k v=[(k,v)] from rfl];simp
 | p::m=>by
  obtain⟨h1,h2⟩:=Oe k v m;rw[Xt];grind
theorem Xu(k v:Int){B:Int}:∀ m:z4',(∀ p∈m,0<=p.2/\p.2<=B)->0<=v/\v<=B->∀ p∈eN m k v,0<=p.2/\p.2<=B
 | [],_,hv,p,hp=>by
  rw[show eN [] k v=[(k,v)] from rfl,List.mem_singleton]at hp;grind
 | q::m,h,hv,p,hp=>by
  rw[Xt]at hp;split at hp
  ·grind
  ·rcases List.mem_cons.1 hp with rfl | hp
   ·grind
   ·exact Xu k v m (λx hx=>h x (by grind)) hv p hp
def k5(c:aP)(w:z1')(u t:Int):Int:=if (gD (bN c w u) t).2=true then iy (gD (bN c w u) t).1.1 else -1
def xV(m:z4')(k:Int):Int:=Option.getD (Option.map (λx=>x.2) (List.find? (λp=>decide (k=p.1)) m)) 0
structure AA(L:z1')(i:Nat)(m:z4'):Prop where
 l3:(m.map (·.1)).Nodup
 mem:∀ x,x∈m.map (·.1)<->x∈L
 val:∀ p∈m,0<=p.2/\p.2<=(i:Int)
theorem AA.add{L:z1'}{i:Nat}{m:z4'}(h:AA L i m)(k:Int)(E:i<=60):IntKind.wrap .i64 (xV m k+1)=xV m k+1/\AA (L++[k]) (i+1) (eN m k (xV m k+1)):=by
 have aa:0<=xV m k/\xV m k<=(i:Int):=by
  unfold xV;cases aq:m.find? λp=>decide (k=p.1) with
  | none=>simp
  | some p=>exact h.val p (List.mem_of_find?_eq_some aq)
 refine⟨bo (by omega) (by omega),(Oe _ _ _).1 h.l3,λx=>?_,Xu _ _ _ (λp hp=>by have:=h.val p hp;omega) (by omega)⟩;rw[(Oe _ _ _).2,h.mem];simp
theorem al'{c:aP}(az:gB c){w:z1'}(hw:iA c w=true){u:Int}(hu:0<=u/\u<=9):((bN c w u).filter λe=>dL e.1 == 1).length<=11:=by
 have ah:=DB az w u;by_cases aw1:(bN c w u).length=12
 ·have h1:=(NY (Hn hw hu) (by omega:1<(bN c w u).length)).1;have h1:dL (bN c w u)[1].1=2:=h1;have aj:=List.getElem_mem (by omega:1<(bN c w u).length);have:((bN c w u).filter λe=>dL e.1 == 1).length<(bN c w u).length:=by
   refine List.length_filter_lt_length_iff_exists.2 ⟨_,aj,by grind⟩
  omega
 grind
theorem ama(c:aP)(w w':z1')(u:Int):(((bN c w u).filter λe=>dL e.1 == 1).map (·.1)).Perm (((bN c w' u).filter λe=>dL e.1 == 1).map (·.1)):=by
 have e:∀ w,((bN c w u).filter λe=>dL e.1 == 1).map (·.1)=((bN c w u).map (·.1)).filter λs=>dL s == 1:=λw=>by rw[List.filter_map];rfl
 rw[e,e];exact ((N4 c w u).trans (N4 c w' u).symm).filter _
theorem Of(c:aP)(w:z1')(u t:Int):k5 c w u t=-1\/∃ s∈((bN c w u).filter λe=>dL e.1 == 1).map (·.1),k5 c w u t=iy s:=by
 unfold k5;rcases Xo (bN c w u) t with h | ⟨h1,h2,h3⟩
 ·left;rw[h];rfl
 ·by_cases aa:(gD (bN c w u) t).2=true
  ·right;rw[if_pos aa];rw[h3]at aa;exact⟨_,List.mem_map.2 ⟨_,List.mem_filter.2 ⟨h1,by simpa using aa⟩,rfl⟩,rfl⟩
  ·left;rw[if_neg aa]
theorem amb{c:aP}(az:gB c){u t:Int}(hu:0<=u/\u<=9){K:z1'}(ax:K.Nodup)(iv:∀ x∈K,x∈(ct c).map λw=>k5 c w u t):K.length<=12:=by
 cases hT:ct c with
 | nil=>
  rw[hT]at iv;cases K with
  | nil=>simp
  | cons x K=>have:=iv x (by simp);grind
 | cons w0 T=>
  have zM:iA c w0=true:=vs (by grind);have qJ:K ⊆ -1::(((bN c w0 u).filter λe=>dL e.1 == 1).map (·.1)).map iy:=by
   intro x hx;obtain⟨w,hw,rfl⟩:=List.mem_map.1 (iv x hx);rcases Of c w u t with h | ⟨s,hs,h⟩
   ·grind
   ·rw[h];exact List.mem_cons_of_mem _ (List.mem_map_of_mem ((ama c w w0 u).mem_iff.1 hs))
  have:=ax.length_le_of_subset qJ;have aw2:=al' az zM hu;grind
abbrev Og:aJ:=⟨.aw (.bp sc) (.aw (.bp tI) (.bp tI)),cP,λx=>∃ a b:Int,x.2=(some a,some b),λx=>vo (x.2.1.getD 0) (x.2.2.getD 0)⟩
theorem amc(x):M.le (VC b5.sh xK.sh x) (Og.sh x):=M.bj λ_=>by
 unfold VC;rw[alb,M.aE,show xK.sh (x.2.2.getD 0)=M.pure (bK (x.2.2.getD 0) 0 9999) from rfl,M.ki,M.aE,u9];rfl
theorem Xv{c:aP}(az:gB c){w:z1'}(hw:iA c w=true){u:Int}(hu:0<=u/\u<=9)(t:Int):(mK (gC c w u) t).1=k5 c w u t:=by rw[(HA az hw hu t).1];rfl
theorem amd(x):M.le (Vs vp.sh xU.sh sf.sh Hf.sh Og.sh x) (Hx.sh x):=M.r_ λh=>by
 obtain⟨c,u,t⟩:=x;change gr c at h;unfold Vs;show M.b9 _ λy=>y=ra c u t;unfold ra NR;rw[DN (b:=vo u t) h λhc=>M.bE ⟨u,t,rfl⟩ _];rcases Aw c (vo u t) with⟨h1,h2,h3⟩ | ⟨h1,h2,h3,aQ⟩
 ·rw[h2,h3];simp only[M.aE];rw[if_pos (by grind)];refine M.dC.2 ?_;simp
 ·rw[h1,aQ];simp only[M.aE];rw[if_neg (by simp)];have az:=oy h2;have cn:(0<=u/\u<=9)/\0<=t/\t<=9999:=by
   unfold vo at h3;rw[Bool.and_eq_true,ou,ou]at h3;exact h3
  have hu:=cn.1;have hlen:=DO h h2;simp only[Option.isSome_some,M.bf,Option.getD_some];show M.b9 (M.bind (M.loop _ ((ct c).map (h_ c),_,0,u,t,[],())) _) _;rw[M.fF];refine (M.Bh (p:=λz=>∃ m,z=.next (m,())/\AA ((ct c).map λw=>k5 c w u t) 60 m) (λA=>∃ (i:Nat) (m:z4'),i<=(ct c).length/\A=((ct c).map (h_ c),(((ct c).map (h_ c)).length:Int),(i:Int),u,t,m,())/\AA (((ct c).take i).map λw=>k5 c w u t) i m) (λA=>((ct c).length - A.2.2.1).toNat) ?_ _ ⟨0,[],Nat.zero_le _,rfl,⟨.nil,by simp,by simp⟩⟩).mono ?_
  ·rintro A ⟨i,m,n5,rfl,ba⟩;by_cases E:i<(ct c).length
   ·have db:i<((ct c).map (h_ c)).length:=by grind
    have hw:=bo (n:=(i:Int)+1) (by omega) (by omega);have aj:=List.getElem_mem E;obtain⟨bT,a2⟩:=ba.add (k5 c (ct c)[i] u t) (by omega);have ph:((ct c).take (i+1)).map (λw=>k5 c w u t)=((ct c).take i).map (λw=>k5 c w u t)++[k5 c (ct c)[i] u t]:=by
     rw[List.take_add_one,List.getElem?_eq_getElem E,Option.toList_some,List.map_append];rfl
    simp only[Prod.cI,bH,cH db,if_true,cZ db,cv db,M.bf,List.getElem_map];rw[Xr az _ hu.1 hu.2,M.aE];have fin:∀ k,k=k5 c (ct c)[i] u t->(∃ (kN:Nat) (c7:z4'),kN<=(ct c).length/\(((ct c).map (h_ c),(((ct c).map (h_ c)).length:Int),IntKind.wrap .i64 ((i:Int)+1),u,t,eN m k (IntKind.wrap .i64 (xV m k+1)),()):List (Option ds)×Int×Int×Int×Int×z4'×Unit)=((ct c).map (h_ c),(((ct c).map (h_ c)).length:Int),(kN:Int),u,t,c7,())/\AA (((ct c).take kN).map λw=>k5 c w u t) kN c7)/\((ct c).length - IntKind.wrap .i64 ((i:Int)+1)).toNat<((ct c).length - (i:Int)).toNat:=by
     grind
    cases aa:(gD (bN c (ct c)[i] u) t).2 with
    | true=>
     simp only[if_true];rw[M.aE,M.bL];exact M.dC.2 (fin _ (by unfold k5;grind))
    | false=>
     simp only[Bool.false_eq_true,if_false];rw[M.aE,M.bL];exact M.dC.2 (fin (-1) (by unfold k5;grind))
   ·have ame:i=(ct c).length:=by omega
    subst ame;have ar:decide (((ct c).length:Int)<(((ct c).map (h_ c)).length:Int))=false:=by simp
    simp only[ar,Bool.false_eq_true,if_false,M.aE];refine M.dC.2 ⟨m,rfl,ba.l3,?_,λp hp=>by have:=ba.val p hp;omega⟩;have:=ba.mem;grind
  ·rintro z ⟨m,rfl,ba⟩;rw[M.bL];rw[show Hf.sh m=M.pure (jD (some m)) from rfl,M.aE];have amf:m.length<=12:=by
    have:=amb az hu (t:=t) ba.l3 λx hx=>(ba.mem x).1 hx;grind
   rw[show sf.sh (jD (some m))=M.pure (e7 gU (m.map (·.1))) from (M.bE (Wy (by omega)) _).trans (congrArg M.pure Wz),M.aE];refine M.dC.2 ?_;have e1:e7 gU (m.map (·.1))=(dR (-1) 99).filter λg=>((ct c).map λw=>(mK (gC c w u) t).1).contains g:=by
    have amg:((ct c).map λw=>(mK (gC c w u) t).1)=(ct c).map λw=>k5 c w u t:=List.map_congr_left λw hw=>Xv az (vs hw) hu t;rw[amg];have E:(dR (-1) 99).Pairwise (·<·):=by
     unfold dR;rw[List.pairwise_map];exact (List.pairwise_lt_range).imp λh=>by omega
    refine z_ ((E.filter _).imp λh=>Int.le_of_lt h) ((List.perm_ext_iff_of_nodup ba.l3 ((E.filter _).imp λh=>by omega)).2 λk=>?_);rw[ba.mem,List.mem_filter,qa];simp only[List.contains_iff_mem];refine⟨λan=>⟨?_,an⟩,λan=>an.2⟩;obtain⟨w,hw,rfl⟩:=List.mem_map.1 an;rcases Of c w u t with h | ⟨s,hs,h⟩
    ·omega
    ·rw[h];obtain⟨e,he,rfl⟩:=List.mem_map.1 hs;have:=Oc az (List.mem_filter.1 he).1;omega
   rw[e1]
def Oh(c:aP)(l:List bg)(t:Int):Bool:=(gD l t).2&&decide (lH c.2.2.2.1 (gD l t).1.2 t>=c.2.2.2.2.2.2.2.2.1)
theorem amh{c:aP}(az:gB c){w:z1'}(hw:iA c w=true){u:Int}(hu:0<=u/\u<=9)(t:Int):Oh c (bN c w u) t=DG c w u t:=by
 obtain⟨h1,h2⟩:=HA az hw hu t;unfold Oh DG;grind
theorem ami(x):M.le (VA vp.sh xU.sh vm.sh Az.sh x) (Hy.sh x):=M.bj λh=>by
 obtain⟨c,t⟩:=x;change gr c at h;unfold VA;show _=M.pure (so c t);unfold so;rw[DN (b:=bK t 0 9999) h λhc=>M.bE ⟨t,rfl,trivial⟩ _];rcases Aw c (bK t 0 9999) with⟨h1,h2,h3⟩ | ⟨h1,h2,h3,aQ⟩
 ·rw[h3];simp only[M.aE];grind
 ·rw[h1,aQ];simp only[M.aE];rw[if_neg (by simp),if_neg (by simp)];have az:=oy h2;have aF:=ou.1 h3;have hlen:=DO h h2;have hT:∀ w∈ct c,iA c w=true:=λw hw=>vs hw;rw[M.gn (dR 0 9) (λi (b:z1'×z1')=>(some (tV c),(i:Int),c,t,b.1,b.2,())) (λu b=>.next (if decide (oz c (ct c) u t=(ct c).length)=true then b.1++[u] else b.1,if decide (oz c (ct c) u t > 0)=true then b.2++[u] else b.2)) (λb=>.next (b.1,b.2,())) (λi b=>b.1.length<=i/\b.2.length<=i) ([],[]) ?_ (by simp) ?_ ?_]
  ·rw[dV,M.aE,M.bL];have key:∀ (p q:Int->Bool) (l:z1') (a b:z1'),l.foldl (λ(z:z1'×z1') u=>(if p u=true then z.1++[u] else z.1,if q u=true then z.2++[u] else z.2)) (a,b)=(a++l.filter p,b++l.filter q):=by
    intro p q l;induction l with
    | nil=>simp
    | cons u l aG=>
     intro a b;simp only[List.foldl_cons];rw[aG];cases hp:p u<;>cases bd:q u<;>simp[hp,bd]
   rw[key (λu=>decide (oz c (ct c) u t=(ct c).length)) (λu=>decide (oz c (ct c) u t > 0))];simp
  ·rfl
  ·intro i E b ik;have E:i<10:=by simpa [dR]using E
   have hw:=bo (n:=(i:Int)+1) (by omega) (by omega);have ar:decide ((i:Int)<10)=true:=by grind
   refine⟨?_,λaZ cY=>?_⟩
   ·simp only[ar,if_true,Db,Int.zero_add,Prod.cI,Option.isSome_some,M.bf,Option.getD_some];rw[M.gn (ct c) (λk (n:Nat)=>(some (tV c),(i:Int),(n:Int),(i:Int),(ct c).map (h_ c),(((ct c).map (h_ c)).length:Int),(k:Int),c,t,b.1,b.2,())) (λw n=>.next (if DG c w i t=true then n+1 else n)) (λn=>.next (some (tV c),(i:Int),(n:Int),(i:Int),c,t,b.1,b.2,())) (λk n=>n<=k) 0 ?_ (by simp) ?_ ?_]
    ·rw[dV];have key:∀ (l:List (z1')) (n:Nat),l.foldl (λn w=>if DG c w i t=true then n+1 else n) n=n+oz c l i t:=by
      intro l;induction l with
      | nil=>intro n;rfl
      | cons w l aG=>
       intro n;simp only[List.foldl_cons];rw[aG];unfold oz;grind
     rw[key,Nat.zero_add,M.aE,M.bL];have Bd:((ct c).map (h_ c)).length=(ct c).length:=List.length_map _;simp only[Prod.cI,Prod.e6,Prod.gp,bH,Option.isSome_some,M.bf,Option.getD_some,Bd];have eD:bX (Add.add b.1.length (Add.add 0 1)):=hr (by grind);have nU:bX (Add.add b.2.length (Add.add 0 1)):=hr (by grind);have d1:decide ((oz c (ct c) i t:Int) > 0)=decide (oz c (ct c) i t > 0):=by simp
     have d2:decide ((oz c (ct c) i t:Int)=((ct c).length:Int))=decide (oz c (ct c) i t=(ct c).length):=by grind
     rw[d1];cases h1:decide (oz c (ct c) i t > 0)<;>cases h2:decide (oz c (ct c) i t=(ct c).length)<;>
      simp only[if_true,Bool.false_eq_true,if_false,M.bn eD,M.bn nU,M.aE,M.bL,Option.isSome_some,M.bf,Option.getD_some,Bd,d2,h2,b8,hw,V.gQ]<;>rfl
    ·rfl
    ·intro k an n ax;have vj:k<((ct c).map (h_ c)).length:=by grind
     have hw:=bo (n:=(k:Int)+1) (by omega) (by omega);have gA:=bo (n:=(n:Int)+1) (by omega) (by omega);have kt:=hT _ (List.getElem_mem an);have ma:=DF h2 kt;have hu:0<=(i:Int)/\(i:Int)<=9:=by omega
     have tc:=amh az kt hu t;obtain⟨b2,cF⟩:=HA az kt hu t;refine⟨?_,λaZ cY=>?_⟩
     ·simp only[Prod.cI,Prod.e6,Prod.gp,Prod.h9,Prod.jC,Prod.kB,bH,cH vj,if_true,cZ vj,cv vj,M.bf,b8,hw,List.getElem_map];rw[Xr az _ hu.1 hu.2,M.aE,<-tc];unfold Oh;cases aa:(gD (bN c (ct c)[k] (i:Int)) t).2 with
      | true=>
       have BL:Am (c,(gD (bN c (ct c)[k] (i:Int)) t).1.2,t):=by
        have:=alc az ma aF.2 (u:=(i:Int)) (t:=t) (by grind);grind
       have amj:vm.sh (c,(gD (bN c (ct c)[k] (i:Int)) t).1.2,t)=M.pure (lH c.2.2.2.1 (gD (bN c (ct c)[k] (i:Int)) t).1.2 t):=M.bE BL _;simp only[amj,M.iC,M.fg,Bool.true_and,and_self,forall_const,M.bf,true_and];by_cases aj:lH c.2.2.2.1 (gD (bN c (ct c)[k] (i:Int)) t).1.2 t>=c.2.2.2.2.2.2.2.2.1
       ·simp_all
       ·simp only[aj,decide_false,Bool.false_eq_true,if_false,M.aE,M.bL,hw,V.gQ];rfl
      | false=>
       simp_all
     grind
    simp
   grind
  ·intro b ik;rfl
def Xw(Oi:aP->M Int)(x:aP):M Bool:=
 if (decide (Int.ofNat (List.length x.1) > 20)||decide (Int.ofNat (List.length x.2.1) > 40)||decide (Int.ofNat (List.length x.2.2.1) > 60)||decide (Int.ofNat (List.length x.2.2.2.1) > 40))=true then M.pure true else M.bind (Oi x) λy=>if decide (y≠0)=true then M.pure false else M.bind (M.loop (λ(A:Int×Int×aP×Unit)=>letI b:=List.getD A.2.2.1.1 (Int.toNat A.2.1) (0,0);letI a:=A.2.1<Int.ofNat (List.length A.2.2.1.1);if decide a=true then M.ae (0<=A.2.1/\a) (M.ae (0<=A.2.1/\a) (M.pure (V.next (IntKind.wrap .i64 (A.1*IntKind.wrap .i64 (Add.add (IntKind.wrap .i64 (b.2-b.1)) 1)),IntKind.wrap .i64 (Add.add A.2.1 1),A.2.2.1,())))) else M.bind (M.pure (V.next (A.1,()))) λr=>M.pure (V.done r)) (1,0,x,())) (V.bm (λ(A:Int×Unit)=>M.pure (decide (A.1 > 60))))
def lI(c:aP):Bool:=decide (c.1.length > 20)||decide (c.2.1.length > 40)||decide (c.2.2.1.length > 60)||decide (c.2.2.2.1.length > 40)||(decide (cr c=0)&&decide (j4 c.1 > 60))
theorem Xx:∀ (l:z4') (n:Nat),l.foldl (λn s=>n*(s.2 - s.1+1).toNat) n=n*j4 l
 | [],n=>by simp[j4]
 | s::l,n=>by simp only[List.foldl_cons,j4];rw[Xx l,Nat.mul_assoc]
abbrev vt:aJ:=⟨jd,cP,h',lI⟩
theorem amk(x):M.le (Xw hH.sh x) (vt.sh x):=M.bj λh=>by
 unfold Xw;show _=M.pure (lI x);simp only[bH];by_cases hs:(decide ((x.1.length:Int) > 20)||decide ((x.2.1.length:Int) > 40)||decide ((x.2.2.1.length:Int) > 60)||decide ((x.2.2.2.1.length:Int) > 40))=true
 ·rw[if_pos hs];refine congrArg M.pure ?_;unfold lI;grind
 ·rw[if_neg hs,show hH.sh x=M.pure (cr x) from M.bE h _,M.aE];have e:lI x=(decide (cr x=0)&&decide (j4 x.1 > 60)):=by
   unfold lI;grind
  rw[e];by_cases hc:cr x=0
  ·have az:=oy hc;rw[if_neg (by grind)];have ax:=az.dF;rw[M.gn x.1 (λi (n:Nat)=>((n:Int),(i:Int),x,())) (λs n=>.next (n*(s.2 - s.1+1).toNat)) (λn=>.next ((n:Int),())) (λi n=>n<=61 ^ i) 1 ?_ ?_ ?_ ?_]
   ·rw[dV,Xx,Nat.one_mul,M.aE,M.bL];grind
   ·rfl
   ·simp
   ·intro i E n hF;have an:=az.clk _ (List.getElem_mem E);have aa:n<=61 ^ 3:=Nat.le_trans hF (Nat.pow_le_pow_right (by omega) (by omega));have hw:=bo (n:=(i:Int)+1) (by omega) (by omega);have b2:=bo (n:=x.1[i].2 - x.1[i].1) (by omega) (by omega);have cF:=bo (n:=x.1[i].2 - x.1[i].1+1) (by omega) (by omega);have ec:((n*(x.1[i].2 - x.1[i].1+1).toNat:Nat):Int)=(n:Int)*(x.1[i].2 - x.1[i].1+1):=by
     grind
    have aj:n*(x.1[i].2 - x.1[i].1+1).toNat<=61 ^ (i+1):=by
     rw[Nat.pow_succ];exact Nat.mul_le_mul hF (by omega)
    have GC:n*(x.1[i].2 - x.1[i].1+1).toNat<=61 ^ 4:=Nat.le_trans aj (Nat.pow_le_pow_right (by omega) (by omega));have eA:=bo (n:=(n:Int)*(x.1[i].2 - x.1[i].1+1)) (by omega) (by omega);simp_all
   simp
  grind
theorem aml{c:aP}(h:lI c=false):gr c:=by
 unfold lI at h;simp only[Bool.or_eq_false_iff,decide_eq_false_iff_not,Bool.and_eq_false_imp,decide_eq_true_eq]at h;obtain⟨⟨⟨⟨h1,h2⟩,h3⟩,aQ⟩,bu⟩:=h;exact⟨⟨by omega,by omega,by omega,by omega⟩,λhc=>by omega⟩
end Go.Fer.H
namespace Go.Fer
open M (V)
abbrev aN:Type:=List UInt8
abbrev aV:Type:=bq×H.aP
abbrev vu:Type:=z2'×List (List (Int×z1'×Int×Int))×Int×Int×z2'×z1'×List c_×List dp×List Di×Unit
abbrev AB:Type:=Int×Bool×Option Nat
abbrev kF(l:List (aN×AB))(a:aN)(b:AB):List (aN×AB):=lh (k:=.str) (v:=.st (.aw (.int .i64) (.aw .bool .dM))) l a b
def Oj(DQ:aV->M Int)(xW:aV×List aN->M (List aN×aV×Int))(Xy:aV×aV->M Bool)(amm:aV×List aN×Int->M Bool)(Ol:Unit->M Bool)(HB:List aN×List aN->M Bool)(x:aV×List aN×Int):M Bool:=
 letI g:=x.2.2;letI e:=Int.ofNat (List.length x.2.1);letI b:=(x.1,List.take (Int.toNat g) x.2.1);letI vv:List aN×aV×Int:=M.val (xW b) ([],((([],[],0,[]),[],[],[],[],0),[],[],[],[],0,0,0,0,0,0,0),0);letI a:=List.drop (Int.toNat g) (List.take (Int.toNat e) x.2.1);letI lJ:List aN×aV×Int:=M.val (xW ((vv).2.1,a)) ([],((([],[],0,[]),[],[],[],[],0),[],[],[],[],0,0,0,0,0,0,0),0);M.bind (amm (x.1,x.2.1,40)) λy=>if (!y||decide (g<0)||decide (g > e))=true then M.bind (Ol ()) λy=>M.pure y else M.bind (xW (x.1,x.2.1)) λy=>letI f:=decide (y.2.2≠0)||decide ((vv).2.2≠0);M.ae ((0:Int)<=0/\0<=g/\g<=e) (M.ae (xW b).b4 (M.bind (bS (!f) (DQ (vv).2.1) 0) (λbJ=>if (f||decide (bJ≠0))=true then M.pure false else M.ae (0<=g/\g<=e/\e<=e) (M.ae (xW ((vv).2.1,a)).b4 (if decide ((lJ).2.2=0)=true then M.ae True (M.ae True (if decide ((lJ).2.2=0)=true then M.ae (True/\decide ((lJ).2.2=0)=true) (M.ae (bX (Add.add 0 (List.length (vv).1))) (if decide ((lJ).2.2=0)=true then M.ae (True/\decide ((lJ).2.2=0)=true) (M.ae (bX (Add.add (List.length ([]++(vv).1)) (List.length (lJ).1))) (M.ae (decide ((lJ).2.2=0)=true->decide ((lJ).2.2=0)=true/\True) (M.bind (bS (decide ((lJ).2.2=0)) (HB (y.1,[]++(vv).1++(lJ).1)) false) (λdi=>letI c:=decide ((lJ).2.2=0)&&di;M.bind (bS c (Xy (y.2.1,(lJ).2.1)) false) λy=>M.bind (bS (c&&y) (Ol ()) false) λfI=>M.pure (c&&y&&fI))))) else M.ae (decide ((lJ).2.2=0)=true->decide ((lJ).2.2=0)=true/\false=true/\True) (M.bind (bS (decide ((lJ).2.2=0)) (HB (y.1,[]++(vv).1++(lJ).1)) false) (λdi=>letI d:=decide ((lJ).2.2=0)&&di;M.bind (bS d (Xy (y.2.1,(lJ).2.1)) false) λy=>M.bind (bS (d&&y) (Ol ()) false) λfI=>M.pure (d&&y&&fI))))) else M.fail)) else M.fail)))))
def Xz(Oi:H.aP->M Int)(Om:bq->M Int)(x:aV):M Int:=
 M.bind (Om x.1) λy=>M.bind (bS (!(decide (y≠0))) (Oi x.2) 0) λbJ=>if (decide (y≠0)||decide (bJ≠0))=true then M.pure 120 else M.pure 0
def XA(amn:aV->M Int)(amo:aV×Unit->M (aV×Unit))(amp:Unit->M (List (aN×Int×Bool×Option Nat)))(amq:List (aN×Int×Bool×Option Nat)×aN×aV×Unit->M (aN×aV×Unit))(x:aV×List aN):M (List aN×aV×Int):=
 letI d:=Int.ofNat (List.length x.2);M.bind (amn x.1) λy=>if decide (y≠0)=true then M.pure ([],((([],[],0,[]),[],[],[],[],0),[],[],[],[],0,0,0,0,0,0,0),y) else if decide (d > 40)=true then M.pure ([],((([],[],0,[]),[],[],[],[],0),[],[],[],[],0,0,0,0,0,0,0),2) else M.bind (amo (x.1,())) λy=>M.bind (amp ()) λbJ=>M.bind (M.loop (λ(A:List (aN×Int×Bool×Option Nat)×List aN×Int×Int×List aN×Int×Int×Int×Int×Int×Int×Int×Int×Int×aV×Unit)=>letI b:=A.2.2.2;letI a:=b.2.2.2.2;letI c:=a.2.2.2.2;if decide (b.1<A.2.2.1)=true then M.ae (0<=b.1/\b.1<Int.ofNat (List.length A.2.1)) (M.bind (amq (A.1,List.getD A.2.1 (Int.toNat b.1) [],c.2.2.2.1,())) (λy=>M.ae (bX (Add.add (List.length b.2.1) (Add.add 0 1))) (M.pure (V.next (A.1,A.2.1,A.2.2.1,IntKind.wrap .i64 (Add.add b.1 1),b.2.1++[y.1],b.2.2.1,b.2.2.2.1,a.1,a.2.1,a.2.2.1,a.2.2.2.1,c.1,c.2.1,c.2.2.1,y.2.1,()))))) else M.bind (M.pure (V.next (b.2.1,b.2.2.1,b.2.2.2.1,a.1,a.2.1,a.2.2.1,a.2.2.2.1,c.1,c.2.1,c.2.2.1,c.2.2.2.1,()))) λr=>M.pure (V.done r)) (bJ,x.2,d,0,[],0,0,0,0,0,0,0,0,0,y.1,())) (V.bm (λ(A:List aN×Int×Int×Int×Int×Int×Int×Int×Int×Int×aV×Unit)=>M.ae True (M.pure (A.1,A.2.2.2.2.2.2.2.2.2.2.1,0))))
def XB(Dk:bq->M Int)(zZ:H.aP->M Int)(x:aV):M Int:=
 M.bind (Dk x.1) λy=>M.bind (bS (!(decide (y≠0))) (zZ x.2) 0) λbJ=>if (decide (y≠0)||decide (bJ≠0))=true then M.pure 120 else M.pure 0
def XC(On:H.aP×z7'×z1'->M (H.aP×Int))(XD:bq->M bq)(x:aV×Unit):M (aV×Unit):=
 M.bind (On (x.1.2,[],[])) λy=>M.ae (XD x.1.1).b4 (M.pure ((M.val (XD x.1.1) (([],[],0,[]),[],[],[],[],0),y.1),()))
def amr(x:Unit):M (List (aN×Int×Bool×Option Nat)):=
 M.pure (kF (kF (kF (kF (kF (kF (kF (kF (kF (kF (kF (kF (kF (kF (kF (kF (kF (kF (kF (kF [] [108,101,110,100] (5,false,some 119)) [98,97,99,107] (4,false,some 120)) [118,111,105,100] (1,false,some 121)) [108,97,115,116,115] (1,false,some 122)) [102,101,101] (1,false,some 123)) [111,119,101,115] (1,false,some 124)) [104,101,108,100] (1,false,some 125)) [119,104,101,114,101] (2,false,some 126)) [109,105,115,115,105,110,103] (1,false,some 127)) [116,114,105,97,108] (4,false,some 128)) [102,105,116,115] (3,false,some 129)) [115,116,111,99,107] (2,false,some 130)) [99,111,109,101,115] (3,false,some 131)) [112,105,101,99,101] (4,true,some 132)) [119,105,115,104] (5,true,some 133)) [100,114,111,112] (1,false,some 134)) [99,97,110] (1,false,some 135)) [116,97,107,101,115] (0,true,some 136)) [109,111,115,116] (0,false,some 137)) [101,120,116,114,97] (0,false,some 138))
def XE(ams:aN×aN->M (List aN))(amt:aN->M (Int×Bool))(amu:Nat->z1'×aV×Unit->M (aN×aV×Unit))(x:List (aN×Int×Bool×Option Nat)×aN×aV×Unit):M (aN×aV×Unit):=
 M.bind (ams (x.2.1,[32])) λy=>letI b:=Int.ofNat (List.length y);letI f:=IntKind.wrap .i64 (b-1);letI d:=List.drop (Int.toNat 1) (List.take (Int.toNat b) y);letI a:=Option.map (λx=>x.2) (List.find? (λp=>decide (List.getD y (Int.toNat 0) []=p.1)) x.1);letI c:=Option.getD a (0,false,none);M.ae ((0:Int)<=0/\0<b) (if (!(Option.isSome a)||decide (f<c.1)||decide (f > c.1)&&!c.2.1)=true then M.pure ([63],x.2.2.1,()) else M.bind (M.ae ((0:Int)<=1/\1<=b/\b<=b) (M.loop (λ(A:List aN×Int×Int×(Int×Bool×Option Nat)×z1'×aV×Unit)=>letI e:=A.2.2;if decide (e.1<A.2.1)=true then M.ae (0<=e.1/\e.1<Int.ofNat (List.length A.1)) (M.bind (amt (List.getD A.1 (Int.toNat e.1) [])) (λy=>if (!y.2)=true then M.bind (M.bind (M.pure ([63],e.2.2.2.1,())) (λr=>M.pure (V.done r))) λr=>M.pure (V.done r) else M.ae (bX (Add.add (List.length e.2.2.1) (Add.add 0 1))) (M.pure (V.next (A.1,A.2.1,IntKind.wrap .i64 (Add.add e.1 1),e.2.1,e.2.2.1++[y.1],e.2.2.2.1,()))))) else M.bind (M.pure (V.next (e.2.1,e.2.2.1,e.2.2.2.1,()))) λr=>M.pure (V.done r)) (d,Int.ofNat (List.length d),0,c,[],x.2.2.1,()))) (V.bm (λ(A:(Int×Bool×Option Nat)×z1'×aV×Unit)=>M.bind (M.ae (∃ (k:Nat),List.Mem k [119,120,121,122,123,124,125,126,127,128,129,130,131,132,133,134,135,136,137,138]/\A.1.2.2=some k) (amu (Option.getD A.1.2.2 0) (A.2.1,A.2.2.1,()))) λy=>M.pure (y.1,y.2.1,()))))
def XF(DR:z7'×z1'×aV×Unit->M (aN×aV×Unit))(x:z1'×aV×Unit):M (aN×aV×Unit):=
 letI a:=Int.ofNat (List.length x.1);M.ae ((0:Int)<=0/\0<a) (M.ae ((0:Int)<=1/\1<a) (M.ae ((0:Int)<=2/\2<a) (M.ae ((0:Int)<=3/\3<a) (M.ae ((0:Int)<=4/\4<a) (M.bind (DR ([(List.getD x.1 (Int.toNat 0) 0,List.getD x.1 (Int.toNat 1) 0,List.getD x.1 (Int.toNat 2) 0,1,List.getD x.1 (Int.toNat 3) 0,List.getD x.1 (Int.toNat 4) 0)],[],x.2.1,())) (λy=>M.pure (y.1,y.2.1,())))))))
def XG(On:H.aP×z7'×z1'->M (H.aP×Int))(x:z7'×z1'×aV×Unit):M (aN×aV×Unit):=
 M.ae True (M.bind (On (x.2.2.1.2,x.1,x.2.1)) (λy=>if decide (y.2≠0)=true then M.pure ([110,111],x.2.2.1,()) else M.ae True (M.pure ([111,107],(x.2.2.1.1,y.1),()))))
def XH(DR:z7'×z1'×aV×Unit->M (aN×aV×Unit))(x:z1'×aV×Unit):M (aN×aV×Unit):=
 letI a:=Int.ofNat (List.length x.1);M.ae ((0:Int)<=0/\0<a) (M.ae ((0:Int)<=1/\1<a) (M.ae ((0:Int)<=2/\2<a) (M.ae ((0:Int)<=3/\3<a) (M.bind (DR ([(List.getD x.1 (Int.toNat 0) 0,List.getD x.1 (Int.toNat 1) 0,List.getD x.1 (Int.toNat 2) 0,2,List.getD x.1 (Int.toNat 3) 0,0)],[],x.2.1,())) (λy=>M.pure (y.1,y.2.1,()))))))
def XI(DR:z7'×z1'×aV×Unit->M (aN×aV×Unit))(x:z1'×aV×Unit):M (aN×aV×Unit):=
 M.bind (DR ([],x.1,x.2.1,())) λy=>M.pure (y.1,y.2.1,())
def XJ(Oo:H.aP×Int->M ((Int×Int)×Int))(rb:(Int×Int)×Int->M aN)(x:z1'×aV×Unit):M (aN×aV×Unit):=
 letI a:=(x.2.1.2,List.getD x.1 (Int.toNat 0) 0);M.ae True (M.ae ((0:Int)<=0/\0<Int.ofNat (List.length x.1)) (M.ae (Oo a).b4 (M.ae (rb (M.val (Oo a) ((0,0),0))).b4 (M.pure (M.val (rb (M.val (Oo a) ((0,0),0))) [],x.2.1,())))))
def XK(nL:Int×z1'->M aN)(x:(Int×Int)×Int):M aN:=
 M.bind (nL (x.2,[x.1.1,x.1.2])) λy=>M.pure y
def XL(AD:z1'->M aN)(x:Int×z1'):M aN:=
 if decide (x.1=0)=true then M.bind (AD x.2) λy=>M.pure y else if decide (x.1=3)=true then M.pure [110,111,110,101] else M.pure [110,111]
def XM(amv:Int->M aN)(amw:List aN×aN->M aN)(x:z1'):M aN:=
 letI b:=Int.ofNat (List.length x);if decide (b=0)=true then M.pure [110,111,110,101] else M.bind (M.loop (λ(A:z1'×Int×Int×List aN×Unit)=>letI a:=A.2.2;if decide (a.1<A.2.1)=true then M.ae (0<=a.1/\a.1<Int.ofNat (List.length A.1)) (M.bind (amv (List.getD A.1 (Int.toNat a.1) 0)) (λy=>M.ae (bX (Add.add (List.length a.2.1) (Add.add 0 1))) (M.pure (V.next (A.1,A.2.1,IntKind.wrap .i64 (Add.add a.1 1),a.2.1++[y],()))))) else M.bind (M.pure (V.next (a.2.1,()))) λr=>M.pure (V.done r)) (x,b,0,[],())) (V.bm (λ(A:List aN×Unit)=>M.bind (amw (A.1,[32])) λy=>M.pure y))
def XN(Oq:H.aP×Int->M ((Int×Int)×Int))(rb:(Int×Int)×Int->M aN)(x:z1'×aV×Unit):M (aN×aV×Unit):=
 letI a:=(x.2.1.2,List.getD x.1 (Int.toNat 0) 0);M.ae True (M.ae ((0:Int)<=0/\0<Int.ofNat (List.length x.1)) (M.ae (Oq a).b4 (M.ae (rb (M.val (Oq a) ((0,0),0))).b4 (M.pure (M.val (rb (M.val (Oq a) ((0,0),0))) [],x.2.1,())))))
def XO(Ot:H.aP×Int->M ((Int×Int)×Int))(rb:(Int×Int)×Int->M aN)(x:z1'×aV×Unit):M (aN×aV×Unit):=
 letI a:=(x.2.1.2,List.getD x.1 (Int.toNat 0) 0);M.ae True (M.ae ((0:Int)<=0/\0<Int.ofNat (List.length x.1)) (M.ae (Ot a).b4 (M.ae (rb (M.val (Ot a) ((0,0),0))).b4 (M.pure (M.val (rb (M.val (Ot a) ((0,0),0))) [],x.2.1,())))))
def XP(Ou:H.aP×Int->M ((Int×Int)×Int))(rb:(Int×Int)×Int->M aN)(x:z1'×aV×Unit):M (aN×aV×Unit):=
 letI a:=(x.2.1.2,List.getD x.1 (Int.toNat 0) 0);M.ae True (M.ae ((0:Int)<=0/\0<Int.ofNat (List.length x.1)) (M.ae (Ou a).b4 (M.ae (rb (M.val (Ou a) ((0,0),0))).b4 (M.pure (M.val (rb (M.val (Ou a) ((0,0),0))) [],x.2.1,())))))
def XQ(oA:H.aP×Int×Int->M (z1'×Int))(nL:Int×z1'->M aN)(AD:z1'->M aN)(x:z1'×aV×Unit):M (aN×aV×Unit):=
 letI b:=Int.ofNat (List.length x.1);letI a:=(x.2.1.2,List.getD x.1 (Int.toNat 0) 0,List.getD x.1 (Int.toNat 1) 0);M.ae True (M.ae ((0:Int)<=0/\0<b) (M.ae ((0:Int)<=1/\1<b) (M.ae (oA a).b4 (M.ae ((!(decide ((M.val (oA a) ([],0)).2≠0)))=true->((!(decide ((M.val (oA a) ([],0)).2≠0)))=true/\True)/\((0:Int)<=0/\0<Int.ofNat (List.length (M.val (oA a) ([],0)).1))/\True) (if (decide ((M.val (oA a) ([],0)).2≠0)||decide (List.getD (M.val (oA a) ([],0)).1 (Int.toNat 0) (0:Int)>=0))=true then M.bind (nL ((M.val (oA a) ([],0)).2,(M.val (oA a) ([],0)).1)) λy=>M.pure (y,x.2.1,()) else if decide (Int.ofNat (List.length (M.val (oA a) ([],0)).1)=1)=true then M.pure ([115,104,111,112],x.2.1,()) else M.ae ((0:Int)<=1/\1<=Int.ofNat (List.length (M.val (oA a) ([],0)).1)/\Int.ofNat (List.length (M.val (oA a) ([],0)).1)<=Int.ofNat (List.length (M.val (oA a) ([],0)).1)) (M.bind (AD (List.drop (Int.toNat 1) (List.take (Int.toNat (Int.ofNat (List.length (M.val (oA a) ([],0)).1))) (M.val (oA a) ([],0)).1))) (λy=>M.ae (bX (Add.add (Add.add (Add.add (Add.add (Add.add (Add.add 0 1) 1) 1) 1) 1) (List.length y))) (M.pure ([115,104,111,112,32]++y,x.2.1,())))))))))
def XR(DS:H.aP×Int->M (z1'×z1'×Int))(nL:Int×z1'->M aN)(AD:z1'->M aN)(x:z1'×aV×Unit):M (aN×aV×Unit):=
 letI a:=(x.2.1.2,List.getD x.1 (Int.toNat 0) 0);M.ae True (M.ae ((0:Int)<=0/\0<Int.ofNat (List.length x.1)) (M.ae (DS a).b4 (if decide ((M.val (DS a) ([],[],0)).2.2≠0)=true then M.bind (nL ((M.val (DS a) ([],[],0)).2.2,[])) λy=>M.pure (y,x.2.1,()) else M.bind (AD (M.val (DS a) ([],[],0)).1) λy=>M.ae (bX (Add.add (List.length y) (Add.add (Add.add (Add.add 0 1) 1) 1))) (M.bind (AD (M.val (DS a) ([],[],0)).2.1) (λbJ=>M.ae (bX (Add.add (List.length (y++[32,47,32])) (List.length bJ))) (M.pure (y++[32,47,32]++bJ,x.2.1,())))))))
def XS(GY:bb×Int->M ((Int×Int)×Int))(tX:bq×Unit->M (vu))(Dg:z2'×List (List (Int×z1'×Int×Int))×Int×z2'->M Int)(x:z1'×aV×Unit):M (aN×aV×Unit):=
 letI c:=List.getD x.1 (Int.toNat 0) 0;letI b:=Int.ofNat (List.length x.1);M.ae True (M.bind (tX (x.2.1.1,())) (λy=>letI d:=y.2.2.2.2;letI a:=(y.1,y.2.1,y.2.2.1,d.1++[(c,List.getD x.1 (Int.toNat 1) 0,List.getD x.1 (Int.toNat 2) 0,List.getD x.1 (Int.toNat 3) 0)]);M.ae True (M.ae ((0:Int)<=0/\0<b) (M.ae ((0:Int)<=1/\1<b) (M.ae ((0:Int)<=2/\2<b) (M.ae ((0:Int)<=3/\3<b) (M.ae (bX (Add.add (List.length d.1) (Add.add 0 1))) (M.ae True (M.ae True (M.bind (Dg a) (λbJ=>if decide (bJ≠0)=true then M.pure ([110,111],x.2.1,()) else M.ae True (M.ae ((0:Int)<=0/\0<b) (M.ae (GY (a,c)).b4 (if decide ((M.val (GY (a,c)) ((0,0),0)).2≠0)=true then M.pure ([108,105,97,114],x.2.1,()) else M.ae True (M.pure ([111,107],((a,d.2.1,d.2.2.1,d.2.2.2.1,d.2.2.2.2.1,y.2.2.2.1),x.2.1.2),()))))))))))))))))
def XT(va:bb×Int×Int×Int->M (Int×Int))(nL:Int×z1'->M aN)(x:z1'×aV×Unit):M (aN×aV×Unit):=
 letI b:=Int.ofNat (List.length x.1);letI a:=(x.2.1.1.1,List.getD x.1 (Int.toNat 0) 0,List.getD x.1 (Int.toNat 1) 0,List.getD x.1 (Int.toNat 2) 0);M.ae True (M.ae ((0:Int)<=0/\0<b) (M.ae ((0:Int)<=1/\1<b) (M.ae ((0:Int)<=2/\2<b) (M.ae (va a).b4 (if decide ((M.val (va a) (0,0)).2≠0)=true then M.bind (nL ((M.val (va a) (0,0)).2,[])) λy=>M.pure (y,x.2.1,()) else M.ae (0<=(M.val (va a) (0,0)).1/\(M.val (va a) (0,0)).1<Int.ofNat 4) (M.pure (List.getD [[],[115,117,114,101,108,121],[110,101,118,101,114],[112,101,114,104,97,112,115]] (Int.toNat (M.val (va a) (0,0)).1) [],x.2.1,())))))))
def XU(tX:bq×Unit->M (vu))(xX:bq×aV×Unit->M (aN×aV×Unit))(x:z1'×aV×Unit):M (aN×aV×Unit):=
 letI c:=Int.ofNat (List.length x.1);letI a:=List.getD x.1 (Int.toNat 0) 0;M.ae True (M.bind (tX (x.2.1.1,())) (λy=>letI d:=y.2.2.2.2.2;letI b:=Int.ofNat (List.length d.1);M.ae ((0:Int)<=0/\0<c) (if decide (a>=b)=true then M.pure ([110,111],x.2.1,()) else M.ae ((0:Int)<=0/\0<c) (M.ae (0<=a/\a<b) (M.ae ((0:Int)<=1/\1<c) (M.ae (0<=a/\a<b) (M.bind (xX (((y.1,y.2.1,y.2.2.1,y.2.2.2.2.1),List.set d.1 (Int.toNat a) (IntKind.wrap .i64 (Add.add (List.getD d.1 (Int.toNat a) 0) (List.getD x.1 (Int.toNat 1) 0))),d.2.1,d.2.2.1,d.2.2.2.1,y.2.2.2.1),x.2.1,())) (λy=>M.pure (y.1,y.2.1,())))))))))
def XV(Dk:bq->M Int)(x:bq×aV×Unit):M (aN×aV×Unit):=
 M.bind (Dk x.1) λy=>if decide (y≠0)=true then M.pure ([110,111],x.2.1,()) else M.ae True (M.pure ([111,107],(x.1,x.2.1.2),()))
def XW(tX:bq×Unit->M (vu))(xX:bq×aV×Unit->M (aN×aV×Unit))(x:z1'×aV×Unit):M (aN×aV×Unit):=
 letI a:=Int.ofNat (List.length x.1);M.ae True (M.bind (tX (x.2.1.1,())) (λy=>letI b:=y.2.2.2.2.2;M.ae ((0:Int)<=0/\0<a) (M.ae ((0:Int)<=1/\1<a) (M.ae ((0:Int)<=2/\2<a) (M.ae (bX (Add.add (List.length b.2.2.2.1) (Add.add 0 1))) (M.bind (xX (((y.1,y.2.1,y.2.2.1,y.2.2.2.2.1),b.1,b.2.1,b.2.2.1,b.2.2.2.1++[(List.getD x.1 (Int.toNat 0) 0,List.getD x.1 (Int.toNat 1) 0,List.getD x.1 (Int.toNat 2) 0)],y.2.2.2.1),x.2.1,())) (λy=>M.pure (y.1,y.2.1,()))))))))
def XX(tX:bq×Unit->M (vu))(xX:bq×aV×Unit->M (aN×aV×Unit))(x:z1'×aV×Unit):M (aN×aV×Unit):=
 letI a:=Int.ofNat (List.length x.1);M.ae True (M.bind (tX (x.2.1.1,())) (λy=>letI b:=y.2.2.2.2.2;M.ae ((0:Int)<=0/\0<a) (M.ae ((0:Int)<=1/\1<a) (M.ae ((0:Int)<=2/\2<a) (M.ae ((0:Int)<=3/\3<a) (M.ae ((0:Int)<=4/\4<=a/\a<=a) (M.ae (bX (Add.add (List.length b.2.1) (Add.add 0 1))) (M.bind (xX (((y.1,y.2.1,y.2.2.1,y.2.2.2.2.1),b.1,b.2.1++[(List.getD x.1 (Int.toNat 0) 0,List.getD x.1 (Int.toNat 1) 0,List.getD x.1 (Int.toNat 2) 0,List.getD x.1 (Int.toNat 3) 0,List.drop (Int.toNat 4) (List.take (Int.toNat a) x.1))],b.2.2.1,b.2.2.2.1,y.2.2.2.1),x.2.1,())) (λy=>M.pure (y.1,y.2.1,()))))))))))
def XY(tX:bq×Unit->M (vu))(xX:bq×aV×Unit->M (aN×aV×Unit))(x:z1'×aV×Unit):M (aN×aV×Unit):=
 letI a:=Int.ofNat (List.length x.1);M.ae True (M.bind (tX (x.2.1.1,())) (λy=>letI b:=y.2.2.2.2.2;M.ae ((0:Int)<=0/\0<a) (M.ae ((0:Int)<=1/\1<a) (M.ae ((0:Int)<=2/\2<a) (M.ae ((0:Int)<=3/\3<a) (M.ae ((0:Int)<=4/\4<a) (M.ae ((0:Int)<=5/\5<=a/\a<=a) (M.ae (bX (Add.add (List.length b.2.2.1) (Add.add 0 1))) (M.bind (xX (((y.1,y.2.1,y.2.2.1,y.2.2.2.2.1),b.1,b.2.1,b.2.2.1++[(List.drop (Int.toNat 5) (List.take (Int.toNat a) x.1),(List.getD x.1 (Int.toNat 0) 0,List.getD x.1 (Int.toNat 1) 0),List.getD x.1 (Int.toNat 2) 0,List.getD x.1 (Int.toNat 3) 0,List.getD x.1 (Int.toNat 4) 0)],b.2.2.2.1,y.2.2.2.1),x.2.1,())) (λy=>M.pure (y.1,y.2.1,())))))))))))
def XZ(X0:List dp->M (List dp))(amx:Int×Int×List dp×Unit->M ((Nat×Nat)×List dp×Unit))(x:z1'×aV×Unit):M (aN×aV×Unit):=
 letI c:=x.2.1.1.2.2;letI b:=List.getD x.1 (Int.toNat 0) 0;letI a:=(0:Int)<=0/\0<Int.ofNat (List.length x.1);M.ae a (M.ae True (if decide (b>=Int.ofNat (List.length c.2.1))=true then M.pure ([110,111],x.2.1,()) else M.ae True (M.ae (X0 c.2.1).b4 (M.ae a (M.ae a (M.bind (amx (b,IntKind.wrap .i64 (Add.add b 1),M.val (X0 c.2.1) [],())) (λy=>M.ae True (M.pure ([111,107],((x.2.1.1.1,x.2.1.1.2.1,c.1,List.drop y.1.1 (List.take y.1.2 y.2.1),c.2.2),x.2.1.2),())))))))))
def X1(Ov:bq×Int->M (z1'×Int))(nL:Int×z1'->M aN)(x:z1'×aV×Unit):M (aN×aV×Unit):=
 letI a:=(x.2.1.1,List.getD x.1 (Int.toNat 0) 0);M.ae True (M.ae ((0:Int)<=0/\0<Int.ofNat (List.length x.1)) (M.ae (Ov a).b4 (M.bind (nL ((M.val (Ov a) ([],0)).2,(M.val (Ov a) ([],0)).1)) (λy=>M.pure (y,x.2.1,())))))
def X2(amy:bq×z1'->M (Int×Int))(amz:z1'×Unit->M (z1'×Unit))(nL:Int×z1'->M aN)(x:z1'×aV×Unit):M (aN×aV×Unit):=
 M.bind (amz (x.1,())) λy=>M.bind (M.loop (λ(A:Int×Int×z1'×aV×Unit)=>letI b:=A.2;letI a:=0<=b.1/\b.1<Int.ofNat (List.length b.2.1);if decide (b.1<A.1)=true then M.ae a (M.ae a (M.pure (V.next (A.1,IntKind.wrap .i64 (Add.add b.1 1),List.set b.2.1 (Int.toNat b.1) (IntKind.wrap .i64 (List.getD b.2.1 (Int.toNat b.1) 0-1)),b.2.2.1,())))) else M.bind (M.pure (V.next (b.2.1,b.2.2.1,()))) λr=>M.pure (V.done r)) (Int.ofNat (List.length y.1),0,y.1,x.2.1,())) (V.bm (λ(A:z1'×aV×Unit)=>M.ae True (M.bind (amy (A.2.1.1,A.1)) (λy=>M.bind (nL (y.2,[y.1])) λy=>M.pure (y,A.2.1,())))))
def X3(amA:bq->M (Int×Int))(nL:Int×z1'->M aN)(x:z1'×aV×Unit):M (aN×aV×Unit):=
 M.ae True (M.bind (amA x.2.1.1) (λy=>M.bind (nL (y.2,[y.1])) λy=>M.pure (y,x.2.1,())))
def X4(amB:bq->M (Int×Int))(nL:Int×z1'->M aN)(x:z1'×aV×Unit):M (aN×aV×Unit):=
 M.ae True (M.bind (amB x.2.1.1) (λy=>M.bind (nL (y.2,[y.1])) λy=>M.pure (y,x.2.1,())))
def X5(amC:H.aP×H.aP->M Bool)(amD:bb×bb->M Bool)(vw:z1'×z1'->M Bool)(x:aV×aV):M Bool:=
 letI l:=x.2.1.2.2;letI k:=x.1.1.2.2;M.bind (amC (x.1.2,x.2.2)) λy=>M.bind (bS (!(!y)) (amD (x.1.1.1,x.2.1.1)) false) λbJ=>M.bind (bS (!(!y||!bJ)) (vw (x.1.1.2.1,x.2.1.2.1)) false) λdi=>if (!y||!bJ||!di||decide (Int.ofNat (List.length k.1)≠Int.ofNat (List.length l.1))||decide (Int.ofNat (List.length k.2.1)≠Int.ofNat (List.length l.2.1))||decide (Int.ofNat (List.length k.2.2.1)≠Int.ofNat (List.length l.2.2.1))||decide (k.2.2.2≠l.2.2.2))=true then M.pure false else M.bind (M.loop (λ(A:Int×bq×bq×Unit)=>letI m:=A.2.2.1;letI j:=A.1<Int.ofNat (List.length A.2.1.2.2.1);letI e:=List.getD A.2.1.2.2.1 (Int.toNat A.1) (0,0,0,0,[]);letI d:=List.getD m.2.2.1 (Int.toNat A.1) (0,0,0,0,[]);letI a:=decide (e.1≠d.1)||decide (e.2.1≠d.2.1)||decide (e.2.2.1≠d.2.2.1)||decide (e.2.2.2.1≠d.2.2.2.1);if decide j=true then M.ae (0<=A.1/\j) (M.ae (0<=A.1/\A.1<Int.ofNat (List.length m.2.2.1)) (M.bind (bS (!a) (vw (e.2.2.2.2,d.2.2.2.2)) false) (λy=>if (a||!y)=true then M.bind (M.bind (M.pure false) (λr=>M.pure (V.done r))) λr=>M.pure (V.done r) else M.pure (V.next (IntKind.wrap .i64 (Add.add A.1 1),A.2.1,m,()))))) else M.bind (M.pure (V.next (A.2.1,m,()))) λr=>M.pure (V.done r)) (0,x.1.1,x.2.1,())) (V.bm (λ(A:bq×bq×Unit)=>M.bind (M.loop (λ(A:Int×bq×bq×Unit)=>letI n:=A.2.2.1;letI i:=A.1<Int.ofNat (List.length A.2.1.2.2.2.1);letI c:=List.getD A.2.1.2.2.2.1 (Int.toNat A.1) ([],(0,0),0,0,0);letI b:=List.getD n.2.2.2.1 (Int.toNat A.1) ([],(0,0),0,0,0);if decide i=true then M.ae (0<=A.1/\i) (M.ae (0<=A.1/\A.1<Int.ofNat (List.length n.2.2.2.1)) (M.bind (vw (c.1,b.1)) (λy=>if (!y||!(decide (c.2.1.1=b.2.1.1)&&decide (c.2.1.2=b.2.1.2))||decide (c.2.2.1≠b.2.2.1)||decide (c.2.2.2.1≠b.2.2.2.1)||decide (c.2.2.2.2≠b.2.2.2.2))=true then M.bind (M.bind (M.pure false) (λr=>M.pure (V.done r))) λr=>M.pure (V.done r) else M.pure (V.next (IntKind.wrap .i64 (Add.add A.1 1),A.2.1,n,()))))) else M.bind (M.pure (V.next (A.2.1,n,()))) λr=>M.pure (V.done r)) (0,A.1,A.2.1,())) (V.bm (λ(A:bq×bq×Unit)=>M.bind (M.loop (λ(A:Int×bq×bq×Unit)=>letI h:=A.1<Int.ofNat (List.length A.2.1.2.2.2.2.1);letI g:=List.getD A.2.1.2.2.2.2.1 (Int.toNat A.1) (0,0,0);letI f:=List.getD A.2.2.1.2.2.2.2.1 (Int.toNat A.1) (0,0,0);if decide h=true then M.ae (0<=A.1/\h) (M.ae (0<=A.1/\A.1<Int.ofNat (List.length A.2.2.1.2.2.2.2.1)) (if (!(decide (g.1=f.1)&&(decide (g.2.1=f.2.1)&&decide (g.2.2=f.2.2))))=true then M.bind (M.bind (M.pure false) (λr=>M.pure (V.done r))) λr=>M.pure (V.done r) else M.pure (V.next (IntKind.wrap .i64 (Add.add A.1 1),A.2.1,A.2.2.1,())))) else M.bind (M.pure (V.next ())) λr=>M.pure (V.done r)) (0,A.1,A.2.1,())) (V.bm (λ(A:Unit)=>M.pure true))))))
def X6(vw:z1'×z1'->M Bool)(x:H.aP×H.aP):M Bool:=
 letI e:=x.2.2.2.2.2.2;letI d:=x.1.2.2.2.2.2;letI c:=decide (Int.ofNat (List.length x.1.1)≠Int.ofNat (List.length x.2.1))||decide (Int.ofNat (List.length x.1.2.1)≠Int.ofNat (List.length x.2.2.1));M.bind (bS (!c) (vw (x.1.2.2.1,x.2.2.2.1)) false) λy=>if (c||!y||decide (Int.ofNat (List.length x.1.2.2.2.1)≠Int.ofNat (List.length x.2.2.2.2.1))||!(decide (x.1.2.2.2.2.1=x.2.2.2.2.2.1)&&(decide (d.1=e.1)&&(decide (d.2.1=e.2.1)&&(decide (d.2.2.1=e.2.2.1)&&(decide (d.2.2.2.1=e.2.2.2.1)&&(decide (d.2.2.2.2.1=e.2.2.2.2.1)&&decide (d.2.2.2.2.2=e.2.2.2.2.2))))))))=true then M.pure false else M.bind (M.loop (λ(A:Int×H.aP×H.aP×Unit)=>letI m:=A.2.2.1;letI l:=A.1<Int.ofNat (List.length A.2.1.1);letI j:=List.getD A.2.1.1 (Int.toNat A.1) (0,0);letI h:=List.getD m.1 (Int.toNat A.1) (0,0);if decide l=true then M.ae (0<=A.1/\l) (M.ae (0<=A.1/\A.1<Int.ofNat (List.length m.1)) (if (!(decide (j.1=h.1)&&decide (j.2=h.2)))=true then M.bind (M.bind (M.pure false) (λr=>M.pure (V.done r))) λr=>M.pure (V.done r) else M.pure (V.next (IntKind.wrap .i64 (Add.add A.1 1),A.2.1,m,())))) else M.bind (M.pure (V.next (A.2.1,m,()))) λr=>M.pure (V.done r)) (0,x.1,x.2,())) (V.bm (λ(A:H.aP×H.aP×Unit)=>M.bind (M.loop (λ(A:Int×H.aP×H.aP×Unit)=>letI n:=A.2.2.1;letI k:=A.1<Int.ofNat (List.length A.2.1.2.1);letI b:=List.getD A.2.1.2.1 (Int.toNat A.1) (0,0,0,0,0,0);letI a:=List.getD n.2.1 (Int.toNat A.1) (0,0,0,0,0,0);if decide k=true then M.ae (0<=A.1/\k) (M.ae (0<=A.1/\A.1<Int.ofNat (List.length n.2.1)) (if (!(decide (b.1=a.1)&&(decide (b.2.1=a.2.1)&&(decide (b.2.2.1=a.2.2.1)&&(decide (b.2.2.2.1=a.2.2.2.1)&&(decide (b.2.2.2.2.1=a.2.2.2.2.1)&&decide (b.2.2.2.2.2=a.2.2.2.2.2)))))))=true then M.bind (M.bind (M.pure false) (λr=>M.pure (V.done r))) λr=>M.pure (V.done r) else M.pure (V.next (IntKind.wrap .i64 (Add.add A.1 1),A.2.1,n,())))) else M.bind (M.pure (V.next (A.2.1,n,()))) λr=>M.pure (V.done r)) (0,A.1,A.2.1,())) (V.bm (λ(A:H.aP×H.aP×Unit)=>M.bind (M.loop (λ(A:Int×H.aP×H.aP×Unit)=>letI i:=A.1<Int.ofNat (List.length A.2.1.2.2.2.1);letI g:=List.getD A.2.1.2.2.2.1 (Int.toNat A.1) (0,0);letI f:=List.getD A.2.2.1.2.2.2.1 (Int.toNat A.1) (0,0);if decide i=true then M.ae (0<=A.1/\i) (M.ae (0<=A.1/\A.1<Int.ofNat (List.length A.2.2.1.2.2.2.1)) (if (!(decide (g.1=f.1)&&decide (g.2=f.2)))=true then M.bind (M.bind (M.pure false) (λr=>M.pure (V.done r))) λr=>M.pure (V.done r) else M.pure (V.next (IntKind.wrap .i64 (Add.add A.1 1),A.2.1,A.2.2.1,())))) else M.bind (M.pure (V.next ())) λr=>M.pure (V.done r)) (0,A.1,A.2.1,())) (V.bm (λ(A:Unit)=>M.pure true))))))
def X7(x:z1'×z1'):M Bool:=
 if decide (Int.ofNat (List.length x.1)≠Int.ofNat (List.length x.2))=true then M.pure false else M.bind (M.loop (λ(A:z1'×z1'×Int×Unit)=>letI a:=A.2.2.1;letI b:=a<Int.ofNat (List.length A.1);if decide b=true then M.ae (0<=a/\b) (M.ae (0<=a/\a<Int.ofNat (List.length A.2.1)) (if decide (List.getD A.1 (Int.toNat a) 0≠List.getD A.2.1 (Int.toNat a) 0)=true then M.bind (M.bind (M.pure false) (λr=>M.pure (V.done r))) λr=>M.pure (V.done r) else M.pure (V.next (A.1,A.2.1,IntKind.wrap .i64 (Add.add a 1),())))) else M.bind (M.pure (V.next ())) λr=>M.pure (V.done r)) (x.1,x.2,0,())) (V.bm (λ(A:Unit)=>M.pure true))
def X8(vw:z1'×z1'->M Bool)(x:bb×bb):M Bool:=
 if (decide (Int.ofNat (List.length x.1.1)≠Int.ofNat (List.length x.2.1))||decide (Int.ofNat (List.length x.1.2.1)≠Int.ofNat (List.length x.2.2.1))||decide (x.1.2.2.1≠x.2.2.2.1)||decide (Int.ofNat (List.length x.1.2.2.2)≠Int.ofNat (List.length x.2.2.2.2)))=true then M.pure false else M.bind (M.loop (λ(A:Int×bb×bb×Unit)=>letI y:=A.2.2.1;letI t:=A.1<Int.ofNat (List.length A.2.1.1);letI j:=List.getD A.2.1.1 (Int.toNat A.1) (0,0,0,0);letI i:=List.getD y.1 (Int.toNat A.1) (0,0,0,0);if decide t=true then M.ae (0<=A.1/\t) (M.ae (0<=A.1/\A.1<Int.ofNat (List.length y.1)) (if (!(decide (j.1=i.1)&&(decide (j.2.1=i.2.1)&&(decide (j.2.2.1=i.2.2.1)&&decide (j.2.2.2=i.2.2.2)))))=true then M.bind (M.bind (M.pure false) (λr=>M.pure (V.done r))) λr=>M.pure (V.done r) else M.pure (V.next (IntKind.wrap .i64 (Add.add A.1 1),A.2.1,y,())))) else M.bind (M.pure (V.next (A.2.1,y,()))) λr=>M.pure (V.done r)) (0,x.1,x.2,())) (V.bm (λ(A:bb×bb×Unit)=>M.bind (M.loop (λ(A:Int×bb×bb×Unit)=>letI z:=A.2.2.1;letI q:=A.1<Int.ofNat (List.length A.2.1.2.2.2);letI h:=List.getD A.2.1.2.2.2 (Int.toNat A.1) (0,0,0,0);letI f:=List.getD z.2.2.2 (Int.toNat A.1) (0,0,0,0);if decide q=true then M.ae (0<=A.1/\q) (M.ae (0<=A.1/\A.1<Int.ofNat (List.length z.2.2.2)) (if (!(decide (h.1=f.1)&&(decide (h.2.1=f.2.1)&&(decide (h.2.2.1=f.2.2.1)&&decide (h.2.2.2=f.2.2.2)))))=true then M.bind (M.bind (M.pure false) (λr=>M.pure (V.done r))) λr=>M.pure (V.done r) else M.pure (V.next (IntKind.wrap .i64 (Add.add A.1 1),A.2.1,z,())))) else M.bind (M.pure (V.next (A.2.1,z,()))) λr=>M.pure (V.done r)) (0,A.1,A.2.1,())) (V.bm (λ(A:bb×bb×Unit)=>M.bind (M.loop (λ(A:Int×bb×bb×Unit)=>letI s:=A.1<Int.ofNat (List.length A.2.1.2.1);letI p:=Int.toNat A.1;letI v:=List.getD A.2.1.2.1 p [];letI u:=List.getD A.2.2.1.2.1 p [];if decide s=true then M.bind (M.ae (0<=A.1/\s) (M.ae (0<=A.1/\A.1<Int.ofNat (List.length A.2.2.1.2.1)) (if decide (Int.ofNat (List.length v)≠Int.ofNat (List.length u))=true then M.bind (M.bind (M.bind (M.pure false) (λr=>M.pure (V.done r))) (λr=>M.pure (V.done r))) λr=>M.pure (V.done r) else M.loop (λ(A:Int×List (Int×z1'×Int×Int)×List (Int×z1'×Int×Int)×Int×bb×bb×Unit)=>letI n:=A.2.2.2;letI l:=0<=n.1/\n.1<Int.ofNat (List.length A.2.2.1);letI k:=n.1<Int.ofNat (List.length A.2.1);letI w:=0<=n.1/\k;letI d:=List.getD A.2.1 (Int.toNat n.1) (0,[],0,0);letI c:=List.getD A.2.2.1 (Int.toNat n.1) (0,[],0,0);letI b:=decide (d.1≠c.1);letI g:=(!b)=true;letI o:=g->g/\True/\True;letI a:=b||!(decide (d.2.2.1=c.2.2.1)&&decide (d.2.2.2=c.2.2.2));letI e:=(!a)=true;letI m:=e->e/\True/\True;if decide k=true then M.ae w (M.ae l (M.ae (g->(g/\g)/\w/\True) (M.ae o (M.ae o (M.ae (g->(g/\g)/\l/\True) (M.ae o (M.ae o (M.ae (g->(g/\g)/\True/\True) (M.ae (True/\(b=false->g)) (M.ae (e->(e/\e)/\w/\True) (M.ae m (M.ae m (M.ae (e->(e/\e)/\l/\True) (M.ae m (M.ae m (M.ae (e->(e/\e/\True)/\(vw (d.2.1,c.2.1)).b4/\True) (M.ae m (M.ae (True/\(a=false->e)) (if (a||!(M.val (vw (d.2.1,c.2.1)) false))=true then M.bind (M.bind (M.bind (M.bind (M.pure false) (λr=>M.pure (V.done r))) (λr=>M.pure (V.done r))) (λr=>M.pure (V.done r))) λr=>M.pure (V.done r) else M.pure (V.next (A.1,A.2.1,A.2.2.1,IntKind.wrap .i64 (Add.add n.1 1),n.2.1,n.2.2.1,()))))))))))))))))))))) else M.bind (M.pure (V.next (A.1,n.2.1,n.2.2.1,()))) λr=>M.pure (V.done r)) (A.1,v,u,0,A.2.1,A.2.2.1,())))) (V.bm (λ(A:Int×bb×bb×Unit)=>M.pure (V.next (IntKind.wrap .i64 (Add.add A.1 1),A.2.1,A.2.2.1,())))) else M.bind (M.pure (V.next ())) λr=>M.pure (V.done r)) (0,A.1,A.2.1,())) (V.bm (λ(A:Unit)=>M.pure true))))))
def X9(amE:aV×List aN->M Bool)(DQ:aV->M Int)(x:aV×List aN×Int):M Bool:=
 M.bind (amE (x.1,x.2.1)) λy=>M.bind (bS (!y) (DQ x.1) 0) λbJ=>M.pure (!y&&decide (bJ=0)&&decide (Int.ofNat (List.length x.2.1)<=x.2.2))
def X_(DQ:aV->M Int)(amF:bq->M Bool)(amG:H.aP->M Bool)(amH:aN->M (aN×z1'×Bool))(x:aV×List aN):M Bool:=
 M.bind (amF x.1.1) λy=>M.bind (bS (!y) (amG x.1.2) false) λbJ=>if (y||bJ||decide (Int.ofNat (List.length x.2) > 60))=true then M.pure true else M.bind (M.loop (λ(A:List aN×Int×Int×Int×Int×Int×aV×Unit)=>letI h:=A.2.2.2;letI b:=h.2.2;letI e:=b.1<Int.ofNat (List.length b.2.1.1.2.2.1);if decide e=true then M.ae (0<=b.1/\e) (M.pure (V.next (A.1,A.2.1,A.2.2.1,h.1,IntKind.wrap .i64 (Add.add h.2.1 (Int.ofNat (List.length (List.getD b.2.1.1.2.2.1 (Int.toNat b.1) (0,0,0,0,[])).2.2.2.2))),IntKind.wrap .i64 (Add.add b.1 1),b.2.1,()))) else M.bind (M.pure (V.next (A.1,A.2.1,A.2.2.1,h.1,h.2.1,b.2.1,()))) λr=>M.pure (V.done r)) (x.2,Int.ofNat (List.length x.1.1.2.2.2.1),Int.ofNat (List.length x.1.1.2.2.1),Int.ofNat (List.length x.1.1.2.2.2.2.1),0,0,x.1,())) (V.bm (λ(A:List aN×Int×Int×Int×Int×aV×Unit)=>M.bind (M.loop (λ(A:List aN×Int×Int×Int×Int×Int×aV×Unit)=>letI j:=A.2.1;letI d:=A.2.2;letI a:=d.2.2;letI i:=a.2.1;letI g:=a.2.2.1;letI f:=List.getD A.1 (Int.toNat i) [];letI c:=i<Int.ofNat (List.length A.1);if decide c=true then M.bind (M.ae (0<=i/\c) (if decide (Int.ofNat (List.length f) > 80)=true then M.bind (M.bind (M.bind (M.pure true) (λr=>M.pure (V.done r))) (λr=>M.pure (V.done r))) λr=>M.pure (V.done r) else M.ae (0<=i/\c) (M.bind (amH f) (λy=>if (!y.2.2)=true then M.pure (V.next (A.1,j,d.1,d.2.1,a.1,i,g,())) else if decide (y.1=[119,105,115,104])=true then M.pure (V.next (A.1,IntKind.wrap .i64 (Add.add j 1),d.1,d.2.1,a.1,i,g,())) else if decide (y.1=[112,105,101,99,101])=true then M.pure (V.next (A.1,j,IntKind.wrap .i64 (Add.add d.1 1),d.2.1,IntKind.wrap .i64 (Add.add a.1 (IntKind.wrap .i64 (Int.ofNat (List.length y.2.1)-4))),i,g,())) else if decide (y.1=[99,111,109,101,115])=true then M.pure (V.next (A.1,j,d.1,IntKind.wrap .i64 (Add.add d.2.1 1),a.1,i,g,())) else M.pure (V.next (A.1,j,d.1,d.2.1,a.1,i,g,())))))) (V.bm (λ(A:List aN×Int×Int×Int×Int×Int×aV×Unit)=>letI k:=A.2.2.2;M.pure (V.next (A.1,A.2.1,A.2.2.1,k.1,k.2.1,IntKind.wrap .i64 (Add.add k.2.2.1 1),k.2.2.2.1,())))) else M.bind (M.pure (V.next (j,d.1,d.2.1,a.1,g,()))) λr=>M.pure (V.done r)) (A.1,A.2.1,A.2.2.1,A.2.2.2.1,A.2.2.2.2.1,0,A.2.2.2.2.2.1,())) (V.bm (λ(A:Int×Int×Int×Int×aV×Unit)=>M.bind (DQ A.2.2.2.2.1) λy=>M.pure (decide (y=0)&&(decide (A.1 > 3)||decide (A.2.1 > 4)||decide (A.2.2.1 > 3)||decide (A.2.2.2.1 > 4)))))))
def X'(amI:aN->M (List aN))(amJ:aN->M Int)(amK:Unit->M (List aN×z1'×z1'))(x:aN):M (aN×z1'×Bool):=
 M.bind (amI x) λy=>M.bind (M.loop (λ(A:List aN×Int×z1'×Unit)=>letI j:=A.2.1<Int.ofNat (List.length A.1);if decide j=true then M.ae (0<=A.2.1/\j) (M.bind (amJ (List.getD A.1 (Int.toNat A.2.1) [])) (λy=>if decide (y<0)=true then M.bind (M.bind (M.pure ([],[],false)) (λr=>M.pure (V.done r))) λr=>M.pure (V.done r) else M.ae (bX (Add.add (List.length A.2.2.1) (Add.add 0 1))) (M.pure (V.next (A.1,IntKind.wrap .i64 (Add.add A.2.1 1),A.2.2.1++[y],()))))) else M.bind (M.pure (V.next (A.1,A.2.2.1,()))) λr=>M.pure (V.done r)) (y,1,[],())) (V.bm (λ(A:List aN×z1'×Unit)=>M.bind (amK ()) λy=>M.bind (M.loop (λ(A:List aN×List aN×z1'×z1'×Int×z1'×Unit)=>letI l:=List.getD A.1 (Int.toNat 0) [];letI h:=(0:Int)<=0/\0<Int.ofNat (List.length A.1);letI c:=A.2.2.2;letI m:=c.2.1;letI k:=Int.ofNat (List.length c.2.2.1);letI i:=m<Int.ofNat (List.length A.2.1);letI g:=Int.toNat m;letI f:=(0<=m/\m<Int.ofNat (List.length c.1))/\True;letI d:=decide (List.getD c.1 g (0:Int)<0);letI a:=decide (k>=List.getD A.2.2.1 g 0);letI e:=a=true;letI b:=(a&&!d)=true;letI n:=b->b/\True/\True;if decide i=true then M.ae (0<=m/\i) (M.ae h (if decide (List.getD A.2.1 g []=l)=true then M.ae h (M.ae (0<=m/\m<Int.ofNat (List.length A.2.2.1)) (M.ae (e->(e/\e)/\f) (M.ae (e->e/\True/\True) (M.ae (e->(e/\True)/\True/\True) (M.ae (e->True/\True/\e) (M.ae n (M.ae (b->(b/\b)/\f) (M.ae n (M.ae (b->(b/\b)/\True/\True) (M.ae (e->(e/\(d=false->b))/\True/\True) (M.ae (True/\(e->e)) (M.bind (M.bind (M.pure (l,c.2.2.1,a&&(d||decide (k<=List.getD c.1 g 0)))) (λr=>M.pure (V.done r))) (λr=>M.pure (V.done r)))))))))))))) else M.pure (V.next (A.1,A.2.1,A.2.2.1,c.1,IntKind.wrap .i64 (Add.add m 1),c.2.2.1,())))) else M.bind (M.pure (V.next ())) λr=>M.pure (V.done r)) (A.1,y.1,y.2.1,y.2.2,0,A.2.1,())) (V.bm (λ(A:Unit)=>M.pure ([],[],false)))))
def Ya(x:aN):M (List aN):=
 M.bind (M.loop (λ(A:aN×Int×List aN×Unit)=>letI g:=A.2.1;letI f:=A.2.2.1;letI e:=Int.ofNat (List.length A.1);letI c:=Int.ofNat (List.length f);letI b:=IntKind.wrap .i64 (Add.add g 1);letI d:=List.drop (Int.toNat g) (List.take (Int.toNat b) A.1);letI a:=IntKind.wrap .i64 (c-1);letI h:=List.getD f (Int.toNat a) [];if decide (g<e)=true then M.bind (M.ae (0<=g/\g<e) (if decide (Int.ofNat (List.getD A.1 (Int.toNat g) 0).1.1.1=32)=true then M.ae (bX (Add.add (List.length f) (Add.add 0 1))) (M.pure (V.next (A.1,g,f++[[]],()))) else M.ae (0<=a/\a<c) (M.ae (0<=g/\g<=b/\b<=e) (M.ae (bX (Add.add (List.length h) (List.length d))) (M.ae (0<=a/\a<c) (M.pure (V.next (A.1,g,List.set f (Int.toNat a) (h++d),())))))))) (V.bm (λ(A:aN×Int×List aN×Unit)=>M.pure (V.next (A.1,IntKind.wrap .i64 (Add.add A.2.1 1),A.2.2.1,())))) else M.bind (M.pure (V.next (f,()))) λr=>M.pure (V.done r)) (x,0,[[]],())) (V.bm (λ(A:List aN×Unit)=>M.pure A.1))
def Yb(x:aN):M Int:=
 letI b:=Int.ofNat (List.length x);letI g:=decide (b > 1);letI d:=decide (b=0)||decide (b > 6);M.ae ((!d&&g)=true->((!d&&g)=true/\True)/\((0:Int)<=0/\0<b)/\True) (if (d||g&&decide (Int.ofNat (List.getD x (Int.toNat 0) 0).1.1.1=48))=true then M.pure (-1) else M.bind (M.loop (λ(A:aN×Int×Int×Unit)=>letI h:=A.2.2.1;letI c:=h<Int.ofNat (List.length A.1);letI f:=0<=h/\c;letI a:=Int.ofNat (List.getD A.1 (Int.toNat h) 0).1.1.1;letI e:=(!(decide (a<48)))=true;if decide c=true then M.ae f (M.ae (e->(e/\e)/\f/\True) (if (decide (a<48)||decide (a > 57))=true then M.bind (M.bind (M.pure (-1)) (λr=>M.pure (V.done r))) λr=>M.pure (V.done r) else M.ae f (M.pure (V.next (A.1,IntKind.wrap .i64 (Add.add (IntKind.wrap .i64 (10*A.2.1)) (IntKind.wrap .i64 (IntKind.wrap .u8 (a-48)))),IntKind.wrap .i64 (Add.add h 1),()))))) else M.bind (M.pure (V.next (A.2.1,()))) λr=>M.pure (V.done r)) (x,0,0,())) (V.bm (λ(A:Int×Unit)=>M.pure A.1)))
def amL(x:Unit):M (List aN×z1'×z1'):=
 M.pure ([[108,101,110,100],[98,97,99,107],[118,111,105,100],[108,97,115,116,115],[102,101,101],[111,119,101,115],[104,101,108,100],[119,104,101,114,101],[109,105,115,115,105,110,103],[116,114,105,97,108],[102,105,116,115],[115,116,111,99,107],[99,111,109,101,115],[112,105,101,99,101],[119,105,115,104],[100,114,111,112],[99,97,110],[116,97,107,101,115],[109,111,115,116],[101,120,116,114,97]],[5,4,1,1,1,1,1,2,1,4,3,2,3,4,5,1,1,0,0,0],[5,4,1,1,1,1,1,2,1,4,3,2,3,-1,-1,1,1,-1,0,0])
def Yc(xW:aV×List aN->M (List aN×aV×Int))(HB:List aN×List aN->M Bool)(amM:Unit->M aV)(x:Unit):M Bool:=
 M.bind (amM ()) λy=>M.bind (xW (y,[[108,101,110,100,32,49,32,48,32,49,48,48,32,51,32,55],[98,97,99,107,32,50,32,48,32,49,55,49,32,51],[102,101,101,32,49],[119,104,101,114,101,32,51,32,49,55,49],[116,114,105,97,108,32,49,32,48,32,48,32,48],[115,116,111,99,107,32,48,32,49],[101,120,116,114,97],[100,114,111,112,32,51],[101,120,116,114,97]])) λy=>M.bind (bS (decide (y.2.2=0)) (HB (y.1,[[111,107],[111,107],[51,48,48,32,51,48,48],[115,104,111,112],[108,105,97,114],[111,107],[49],[111,107],[48]])) false) λbJ=>M.pure (decide (y.2.2=0)&&bJ&&decide (Int.ofNat (List.length y.2.1.2.2.1)=2)&&decide (Int.ofNat (List.length y.2.1.1.2.2.2.1)=3))
def Yd(x:List aN×List aN):M Bool:=
 if decide (Int.ofNat (List.length x.1)≠Int.ofNat (List.length x.2))=true then M.pure false else M.bind (M.loop (λ(A:List aN×List aN×Int×Unit)=>letI a:=A.2.2.1;letI b:=a<Int.ofNat (List.length A.1);if decide b=true then M.ae (0<=a/\b) (M.ae (0<=a/\a<Int.ofNat (List.length A.2.1)) (if decide (List.getD A.1 (Int.toNat a) []≠List.getD A.2.1 (Int.toNat a) [])=true then M.bind (M.bind (M.pure false) (λr=>M.pure (V.done r))) λr=>M.pure (V.done r) else M.pure (V.next (A.1,A.2.1,IntKind.wrap .i64 (Add.add a 1),())))) else M.bind (M.pure (V.next ())) λr=>M.pure (V.done r)) (x.1,x.2,0,())) (V.bm (λ(A:Unit)=>M.pure true))
def HC{fX:Type}(c0:z2'->M (z2'))(c1:List (List (Int×z1'×Int×Int))->M (List (List (Int×z1'×Int×Int))))(c2:z2'->M (z2'))(c3:List (Int×z1'×Int×Int)×Unit->M (List (Int×z1'×Int×Int)×Unit))(c4:z1'->M (z1'))(c5:List c_->M (List c_))(lj:List dp->M (List dp))(n0:z3'->M (z3'))(x:bq)(fin:bq->M fX):M fX:=
 M.ae True (M.ae (c0 x.1.1).b4 (M.ae True (M.ae (c1 x.1.2.1).b4 (M.ae True (M.ae (c2 x.1.2.2.2).b4 (M.ae True (M.ae True (M.ae True (M.bind (M.ae True (M.loop (λ(A:Int×Int×Int×z1'×List c_×List dp×z3'×Int×Int×Int×z2'×List (List (Int×z1'×Int×Int))×z2'×Unit)=>letI g1:=A.2;letI s:=g1.2.2.2;letI h:=Int.toNat g1.1;letI f:=s.2.2.2;letI v:=f.2.2.2.2;if decide (g1.1<A.1)=true then M.bind (M.ae True (M.ae (0<=g1.1/\g1.1<Int.ofNat (List.length v.1)) (M.ae True (M.ae (h=h) (M.bind (c3 (List.getD v.1 h [],())) (λy=>M.ae True (M.ae (h=h) (M.ae True (M.ae (h=h) (M.loop (λ(A:Nat×Int×Int×Int×Int×Int×z1'×List c_×List dp×z3'×Int×Int×Int×z2'×(List (List (Int×z1'×Int×Int))×Nat)×z2'×List (Int×z1'×Int×Int)×Unit)=>letI g:=A.2.2.2.2;letI z:=g.2.2.2;letI a:=z.2.2.2;letI k:=a.2.2.2.2;letI u:=0<=g.1/\g.1<Int.ofNat (List.length k.2.2.1);letI e:=List.getD k.2.2.1 (Int.toNat g.1) (0,[],0,0);if decide (g.1<A.2.2.2.1)=true then M.ae True (M.ae (A.1=k.1.2) (M.ae True (M.ae (A.1=k.1.2) (M.ae u (M.ae (c4 e.2.1).b4 (M.ae u (M.pure (V.next (A.1,A.2.1,A.2.2.1,A.2.2.2.1,IntKind.wrap .i64 (Add.add g.1 1),g.2.1,g.2.2.1,z.1,z.2.1,z.2.2.1,a.1,a.2.1,a.2.2.1,a.2.2.2.1,k.1,k.2.1,List.set k.2.2.1 (Int.toNat g.1) (e.1,M.val (c4 e.2.1) [],e.2.2),()))))))))) else M.bind (M.pure (V.next (A.2.1,A.2.2.1,g.2.1,g.2.2.1,z.1,z.2.1,z.2.2.1,a.1,a.2.1,a.2.2.1,a.2.2.2.1,k.1,k.2.1,k.2.2.1,()))) λr=>M.pure (V.done r)) (h,A.1,g1.1,Int.ofNat (List.length y.1),0,g1.2.1,g1.2.2.1,s.1,s.2.1,s.2.2.1,f.1,f.2.1,f.2.2.1,f.2.2.2.1,(v.1,h),v.2.1,y.1,()))))))))))) (V.bm (λ(A:Int×Int×Int×z1'×List c_×List dp×z3'×Int×Int×Int×z2'×(List (List (Int×z1'×Int×Int))×Nat)×z2'×List (Int×z1'×Int×Int)×Unit)=>letI dr:=A.2.2.2.2;letI j:=dr.2.2.2;letI c1:=j.2.2.2.2;M.pure (V.next (A.1,IntKind.wrap .i64 (Add.add A.2.1 1),A.2.2.1,A.2.2.2.1,dr.1,dr.2.1,dr.2.2.1,j.1,j.2.1,j.2.2.1,j.2.2.2.1,List.set c1.1.1 c1.1.2 c1.2.2.1,c1.2.1,())))) else M.bind (M.pure (V.next (g1.2.1,g1.2.2.1,s.1,s.2.1,s.2.2.1,f.1,f.2.1,f.2.2.1,f.2.2.2.1,v.1,v.2.1,()))) λr=>M.pure (V.done r)) (Int.ofNat (List.length (M.val (c1 x.1.2.1) [])),0,x.1.2.2.1,x.2.1,x.2.2.1,x.2.2.2.1,x.2.2.2.2.1,x.2.2.2.2.2,0,0,M.val (c0 x.1.1) [],M.val (c1 x.1.2.1) [],M.val (c2 x.1.2.2.2) [],()))) (V.bm (λ(A:Int×z1'×List c_×List dp×z3'×Int×Int×Int×z2'×List (List (Int×z1'×Int×Int))×z2'×Unit)=>letI d1:=A.2.2;letI n:=d1.2.2;M.ae (c4 A.2.1).b4 (M.ae (c5 d1.1).b4 (M.ae (lj d1.2.1).b4 (M.ae (n0 n.1).b4 (M.bind (M.loop (λ(A:Int×Int×Int×Int×Int×Int×z2'×List (List (Int×z1'×Int×Int))×z2'×z1'×List c_×List dp×z3'×Unit)=>letI e1:=A.2;letI t:=e1.2.2.2;letI d:=t.2.2.2;letI w:=d.2.2.2;letI o:=0<=e1.1/\e1.1<Int.ofNat (List.length w.1);letI b:=List.getD w.1 (Int.toNat e1.1) (0,0,0,0,[]);if decide (e1.1<A.1)=true then M.ae o (M.ae (c4 b.2.2.2.2).b4 (M.ae o (M.pure (V.next (A.1,IntKind.wrap .i64 (Add.add e1.1 1),e1.2.1,e1.2.2.1,t.1,t.2.1,t.2.2.1,d.1,d.2.1,d.2.2.1,List.set w.1 (Int.toNat e1.1) (b.1,b.2.1,b.2.2.1,b.2.2.2.1,M.val (c4 b.2.2.2.2) []),w.2.1,w.2.2.1,()))))) else M.bind (M.pure (V.next (e1.2.1,e1.2.2.1,t.1,t.2.1,t.2.2.1,d.1,d.2.1,d.2.2.1,w.1,w.2.1,w.2.2.1,()))) λr=>M.pure (V.done r)) (Int.ofNat (List.length (M.val (c5 d1.1) [])),0,A.1,n.2.1,n.2.2.1,n.2.2.2.1,n.2.2.2.2.1,n.2.2.2.2.2.1,n.2.2.2.2.2.2.1,M.val (c4 A.2.1) [],M.val (c5 d1.1) [],M.val (lj d1.2.1) [],M.val (n0 n.1) [],())) (V.bm (λ(A:Int×Int×Int×Int×z2'×List (List (Int×z1'×Int×Int))×z2'×z1'×List c_×List dp×z3'×Unit)=>letI h1:=A.2.2.2;letI m:=h1.2.2.2;M.bind (M.loop (λ(A:Int×Int×Int×Int×Int×Int×z2'×List (List (Int×z1'×Int×Int))×z2'×z1'×List c_×List dp×z3'×Unit)=>letI f1:=A.2;letI l:=f1.2.2.2;letI c:=l.2.2.2.2;letI bT:=c.2.2.2;letI p:=0<=f1.1/\f1.1<Int.ofNat (List.length bT.1);letI i:=List.getD bT.1 (Int.toNat f1.1) ([],(0,0),0,0,0);if decide (f1.1<A.1)=true then M.ae p (M.ae (c4 i.1).b4 (M.ae p (M.pure (V.next (A.1,IntKind.wrap .i64 (Add.add f1.1 1),f1.2.1,f1.2.2.1,l.1,l.2.1,l.2.2.1,l.2.2.2.1,c.1,c.2.1,c.2.2.1,List.set bT.1 (Int.toNat f1.1) (M.val (c4 i.1) [],i.2),bT.2.1,()))))) else M.bind (M.pure (V.next (f1.2.1,f1.2.2.1,l.1,l.2.1,l.2.2.1,l.2.2.2.1,c.1,c.2.1,c.2.2.1,bT.1,bT.2.1,()))) λr=>M.pure (V.done r)) (Int.ofNat (List.length m.2.2.2.1),0,A.1,A.2.1,A.2.2.1,h1.1,h1.2.1,h1.2.2.1,m.1,m.2.1,m.2.2.1,m.2.2.2.1,m.2.2.2.2.1,())) (V.bm (λ(A:Int×Int×Int×Int×z2'×List (List (Int×z1'×Int×Int))×z2'×z1'×List c_×List dp×z3'×Unit)=>letI q:=A.2.2.2.2.2;fin ((A.2.2.2.2.1,q.1,A.1,q.2.1),q.2.2.1,q.2.2.2.1,q.2.2.2.2.1,q.2.2.2.2.2.1,A.2.1))))))))))))))))))))
def iz(s:bq):vu:=(s.1.1,s.1.2.1,s.1.2.2.1,s.2.2.2.2.2,s.1.2.2.2,s.2.1,s.2.2.1,s.2.2.2.1,s.2.2.2.2.1,())
def amN(c0:z2'->M (z2'))(c1:List (List (Int×z1'×Int×Int))->M (List (List (Int×z1'×Int×Int))))(c2:z2'->M (z2'))(c3:List (Int×z1'×Int×Int)×Unit->M (List (Int×z1'×Int×Int)×Unit))(c4:z1'->M (z1'))(c5:List c_->M (List c_))(lj:List dp->M (List dp))(n0:z3'->M (z3'))(x:bq):M bq:=HC c0 c1 c2 c3 c4 c5 lj n0 x M.pure
def amO(c0:z2'->M (z2'))(c1:List (List (Int×z1'×Int×Int))->M (List (List (Int×z1'×Int×Int))))(c2:z2'->M (z2'))(c3:List (Int×z1'×Int×Int)×Unit->M (List (Int×z1'×Int×Int)×Unit))(c4:z1'->M (z1'))(c5:List c_->M (List c_))(lj:List dp->M (List dp))(n0:z3'->M (z3'))(x:bq×Unit):M vu:=HC c0 c1 c2 c3 c4 c5 lj n0 x.1 λs=>M.pure (iz s)
def Ye(Om:bq->M Int)(amP:z2'×List (List (Int×z1'×Int×Int))×Int×z2'->M Bool)(x:bq):M Bool:=
 M.bind (amP x.1) λy=>if (y||decide (Int.ofNat (List.length x.2.1) > 40)||decide (Int.ofNat (List.length x.2.2.1) > 40)||decide (Int.ofNat (List.length x.2.2.2.1) > 40)||decide (Int.ofNat (List.length x.2.2.2.2.1) > 40))=true then M.pure true else M.bind (M.loop (λ(A:Int×bq×Unit)=>letI c:=A.1<Int.ofNat (List.length A.2.1.2.2.1);if decide c=true then M.ae (0<=A.1/\c) (if decide (Int.ofNat (List.length (List.getD A.2.1.2.2.1 (Int.toNat A.1) (0,0,0,0,[])).2.2.2.2) > 40)=true then M.bind (M.bind (M.pure true) (λr=>M.pure (V.done r))) λr=>M.pure (V.done r) else M.pure (V.next (IntKind.wrap .i64 (Add.add A.1 1),A.2.1,()))) else M.bind (M.pure (V.next (A.2.1,()))) λr=>M.pure (V.done r)) (0,x,())) (V.bm (λ(A:(bb×z1'×List c_×List dp×z3'×Int)×Unit)=>M.bind (M.loop (λ(A:Int×(bb×z1'×List (Int×Int×Int×Int×z1')×List dp×z3'×Int)×Unit)=>letI b:=A.1<Int.ofNat (List.length A.2.1.2.2.2.1);if decide b=true then M.ae (0<=A.1/\b) (if decide (Int.ofNat (List.length (List.getD A.2.1.2.2.2.1 (Int.toNat A.1) ([],(0,0),0,0,0)).1) > 40)=true then M.bind (M.bind (M.pure true) (λr=>M.pure (V.done r))) λr=>M.pure (V.done r) else M.pure (V.next (IntKind.wrap .i64 (Add.add A.1 1),A.2.1,()))) else M.bind (M.pure (V.next (A.2.1,()))) λr=>M.pure (V.done r)) (0,A.1,())) (V.bm (λ(A:(bb×z1'×List c_×List (z1'×(Int×Int)×Int×Int×Int)×z3'×Int)×Unit)=>M.bind (Om A.1) λy=>if decide (y≠0)=true then M.pure false else M.bind (M.loop (λ(A:Int×Int×(bb×z1'×List c_×List dp×z3'×Int)×Unit)=>letI d:=A.2.2.1;letI a:=A.2.1<Int.ofNat (List.length d.2.2.1);if decide a=true then M.ae (0<=A.2.1/\a) (M.pure (V.next (IntKind.wrap .i64 (Add.add A.1 (Int.ofNat (List.length (List.getD d.2.2.1 (Int.toNat A.2.1) (0,0,0,0,[])).2.2.2.2))),IntKind.wrap .i64 (Add.add A.2.1 1),d,()))) else M.bind (M.pure (V.next (A.1,d,()))) λr=>M.pure (V.done r)) (0,0,A.1,())) (V.bm (λ(A:Int×(bb×z1'×List c_×List (z1'×(Int×Int)×Int×Int×Int)×z3'×Int)×Unit)=>M.pure (decide (Int.ofNat (List.length A.2.1.2.2.2.1) > 3)||decide (Int.ofNat (List.length A.2.1.2.2.1) > 4)||decide (Int.ofNat (List.length A.2.1.2.2.2.2.1) > 3)||decide (A.1 > 4))))))))
def Yf(amQ:Unit->M bb)(x:Unit):M (bq):=
 M.bind (amQ ()) λy=>M.pure (y,[1,0,0,0],[(1,60,0,0,[0]),(1,60,7,0,[]),(2,65,0,1,[0]),(2,60,0,0,[0,1])],[([1],(55,65),7,3,500),([1,2],(60,60),0,5,400),([2],(60,70),9,8,700),([2],(65,65),0,5,300)],[(4,2,1),(6,3,1)],2)
abbrev tI:ad:=.int .i64
abbrev cP:ad:=.bool
abbrev fE:ad:=.slice tI
abbrev l9:ad:=.st (.aw tI tI)
abbrev kl:ad:=.st (.aw tI (.aw tI l9))
abbrev tSlot:ad:=.st (.aw tI (.aw fE l9))
abbrev kG:ad:=.st (.slice tSlot)
abbrev jH:ad:=.st (.aw tI (.aw tI (.aw tI tI)))
abbrev km:ad:=.st (.aw (.slice kl) (.aw (.slice kG) (.aw tI (.slice jH))))
attribute [simp] p_ UE u9 M.dj M.EC M.Qy M.gm M.fg M.nI M.iN M.ki M.bL M.o_ b8 j1 UD V.gQ
abbrev b5:aJ:=⟨.aw tI (.aw tI tI),cP,λ_=>True,λx=>decide (x.2.1<=x.1)&&decide (x.1<=x.2.2)⟩
theorem amR(x):M.le (ait x) (b5.sh x):=M.bj λ_=>rfl
abbrev ov:aJ:=⟨.aw fE tI,cP,λx=>x.1.length<2 ^ 63,λx=>x.1.contains x.2⟩
abbrev HD:Type:=Int×Int×Int×Int
abbrev vx:Type:=Int×z1'×Int×Int
abbrev mb:Type:=Int×Int×Int×Int
def gu(w:bb):Prop:=w.1.length<2 ^ 63/\w.2.1.length<2 ^ 63/\w.2.2.2.length<2 ^ 63/\∀ m∈w.2.1,m.length<2 ^ 63/\∀ s∈m,s.2.1.length<2 ^ 63
def gE(w:bb)(n:Int):Bool:=decide (0<=n)&&decide (n<(w.1.length:Int))
def nM(w:bb)(n:Int):Bool:=decide (0<=n)&&decide (n<(w.2.1.length:Int))
def jh(w:bb)(m:Int):List vx:=w.2.1.getD m.toNat []
def iB(w:bb)(m k:Int):Bool:=nM w m&&(decide (0<=k)&&decide (k<((jh w m).length:Int)))
theorem tY{w:bb}{n:Int}:gE w n=true<->0<=n/\n<(w.1.length:Int):=by simp[gE]
theorem HE{w:bb}{n:Int}:nM w n=true<->0<=n/\n<(w.2.1.length:Int):=by simp[nM]
theorem AE{w:bb}{m k:Int}:iB w m k=true<->(0<=m/\m<(w.2.1.length:Int))/\0<=k/\k<((jh w m).length:Int):=by simp[iB,nM]
theorem HF{w:bb}(hw:gu w)(m:Int):(jh w m).length<2 ^ 63:=by
 unfold jh;rw[List.getD_eq_getElem?_getD];cases h:w.2.1[m.toNat]? with
 | none=>simp
 | some x=>exact (hw.2.2.2 x (List.mem_of_getElem? h)).1
theorem re(n m:Int):decide (n<=m - 1)=decide (n<m):=by
 grind
abbrev po:aJ:=⟨.aw km tI,cP,λx=>gu x.1,λx=>gE x.1 x.2⟩
theorem Yg(w:bb)(n:Int)(h:gu w):MK b5.sh (w,n)=M.pure (gE w n):=by
 unfold MK;have ah:=h.1;have hw:=bo (n:=(w.1.length:Int) - 1) (by omega) (by omega);simp[aJ.sh,b5,hw,gE,re]
theorem amS(x):M.le (MK b5.sh x) (po.sh x):=M.bj λh=>Yg x.1 x.2 h
abbrev AF:aJ:=⟨.aw km tI,cP,λx=>gu x.1,λx=>nM x.1 x.2⟩
theorem amT(w:bb)(n:Int)(h:gu w):MN b5.sh (w,n)=M.pure (nM w n):=by
 unfold MN;have ah:=h.2.1;have hw:=bo (n:=(w.2.1.length:Int) - 1) (by omega) (by omega);simp[aJ.sh,b5,hw,nM,re]
theorem amU(x):M.le (MN b5.sh x) (AF.sh x):=M.bj λh=>amT x.1 x.2 h
abbrev rf:aJ:=⟨.aw km (.aw tI tI),cP,λx=>gu x.1,λx=>iB x.1 x.2.1 x.2.2⟩
theorem Yh(w:bb)(m k:Int)(h:gu w):GW b5.sh AF.sh (w,m,k)=M.pure (iB w m k):=by
 unfold GW;have ah:=HF h m;have hw:=bo (n:=((jh w m).length:Int) - 1) (by omega) (by omega);unfold jh at hw;simp only[aJ.sh,b5,AF,M.dj,M.iN,bH,hw,re,M.bn h];rw[M.bn,M.bn (by simp)]
 ·simp only[iB,jh];simp
 ·intro aj;exact⟨⟨aj,aj⟩,HE.1 aj,trivial⟩
theorem amV(x):M.le (GW b5.sh AF.sh x) (rf.sh x):=M.bj λh=>Yh x.1 x.2.1 x.2.2 h
def vy(s:Int×Int):Bool:=(decide (0<=s.1)&&decide (s.1<=s.2))&&decide (s.2<=999)
abbrev oB:aJ:=⟨l9,cP,λ_=>True,vy⟩
theorem Yi(s:Int×Int):MQ b5.sh s=M.pure (vy s):=by
 unfold MQ;simp[aJ.sh,b5,vy]
theorem amW(x):M.le (MQ b5.sh x) (oB.sh x):=M.bj λ_=>Yi x
def q_(l:z1'):Bool:=(List.range (l.length - 1)).all λi=>decide (l.getD i 0<l.getD (i+1) 0)
abbrev tZ:aJ:=⟨fE,cP,λx=>x.length<2 ^ 63,q_⟩
theorem Yj(l:z1')(h:l.length<2 ^ 63):MM l=M.pure (q_ l):=by
 unfold MM;rw[M.dm (List.range (l.length - 1)) (λi (_:Unit)=>(l,((i+1:Nat):Int),())) (λi b=>if (decide (l.getD i 0<l.getD (i+1) 0))=true then .next b else .done (.done false)) (λ_=>.next ()) () ?_ ?_ ?_]
 ·rw[GQ];unfold q_;cases (List.range (l.length - 1)).all λi=>decide (l.getD i 0<l.getD (i+1) 0)<;>simp
 ·simp
 ·intro i E b;have dn:i+1<l.length:=by grind
  have hw:=bo (n:=(i:Int)+1+1) (by omega) (by omega);have gA:=bo (n:=(i:Int)+1 - 1) (by omega) (by omega);have e1:((i:Int)+1).toNat=i+1:=by omega
  have e2:((i:Int)+1 - 1).toNat=i:=by omega
  have bY:(0:Int)<=(i:Int)+1/\(i:Int)+1<(l.length:Int):=by omega
  have cm:(0:Int)<=(i:Int)+1 - 1/\(i:Int)+1 - 1<(l.length:Int):=by omega
  simp only[bH,Int.natCast_add,Int.cast_ofNat_Int,hw,gA,bY,cm,M.bn,e1,e2,b8,List.getElem_range,decide_eq_true_eq,if_true,M.aE,decide_true,and_self,Int.natCast_one];generalize l.getD i 0=aH;generalize l.getD (i+1) 0=B;by_cases hc:aH<B
  ·simp[hc,Int.not_le.2 hc]
  ·simp[hc,Int.not_lt.1 hc]
 ·intro b;have:¬(((List.range (l.length - 1)).length:Int)+1<(l.length:Int)):=by grind
  simp[this];omega
theorem amX(x):M.le (MM x) (tZ.sh x):=M.bj λh=>Yj x h
def qg(n:Int):Bool:=decide (0<=n)&&decide (n<=9)
def pq(s:vx):Bool:=s.2.1.all qg&&(qg s.1&&decide ((s.2.1.length:Int)<=4)&&q_ s.2.1&&vy s.2.2)
def rh(s:HD):Bool:=qg s.1&&qg s.2.1&&vy s.2.2
def sv(w:bb)(t:mb):Bool:=gE w t.1&&iB w t.2.1 t.2.2.1&&(decide (0<=t.2.2.2)&&decide (t.2.2.2<=1))
def qh(m:List vx):Bool:=!decide ((m.length:Int) > 4)&&m.all pq
def vz(w:bb):Bool:=!(decide ((w.1.length:Int) > 10)||decide ((w.2.1.length:Int) > 6)||!(decide (0<=w.2.2.1)&&decide (w.2.2.1<=99))||decide ((w.2.2.2.length:Int) > 30))
def kH(w:bb):Bool:=vz w&&w.1.all rh&&w.2.1.all qh&&w.2.2.2.all (sv w)
abbrev sw:aJ:=⟨tSlot,cP,λx=>x.2.1.length<2 ^ 63,pq⟩
theorem amY(s:vx)(h:s.2.1.length<2 ^ 63):MR tZ.sh b5.sh oB.sh s=M.pure (pq s):=by
 unfold MR;rw[M.dm s.2.1 (λi (_:Unit)=>((i:Int),s,())) (λn b=>if qg n=true then .next b else .done (.done false)) (λ_=>.next (s,())) () ?_ ?_ ?_]
 ·rw[GQ];unfold pq;cases s.2.1.all qg with
  | false=>simp
  | true=>
   simp only[aJ.sh,b5,tZ,oB,M.bn h,qg,if_true,M.aE,M.bL,M.dj,M.iN,M.bf,bH,h,implies_true,Bool.true_and];simp
 ·rfl
 ·intro i E b;have hw:=bo (n:=(i:Int)+1) (by omega) (by omega);simp[aJ.sh,b5,E,hw,qg];grind
 simp
theorem amZ(x):M.le (MR tZ.sh b5.sh oB.sh x) (sw.sh x):=M.bj λh=>amY x h
abbrev sx:aJ:=⟨km,cP,gu,kH⟩
theorem am0(w:bb)(h:gu w):MO po.sh rf.sh b5.sh oB.sh sw.sh w=M.pure (kH w):=by
 have hs:=h;obtain⟨h1,h2,h3,aQ⟩:=h;unfold MO;simp only[aJ.sh,b5,M.iN,M.dj,implies_true,M.bf,bH,p_];split
 ·rename_i hc;have:vz w=false:=by unfold vz;grind
  simp[kH,this]
 ·rename_i hc;have cy:vz w=true:=by unfold vz;grind
  have aw3:w.2.1.length<=6:=by grind
  rw[M.dm w.1 (λi (_:Unit)=>((i:Int),w,())) (λn b=>if (!qg n.1||!qg n.2.1||!vy n.2.2)=true then .done (.done false) else .next b) (λ_=>.next (w,())) () ?_ ?_ ?_]
  ·rw[ky (q:=rh) _ _ (λt=>by simp only[rh,Bool.not_and])];cases h5:w.1.all rh with
   | false=>simp[kH,h5]
   | true=>
    simp only[M.aE,if_true,M.bL];rw[M.dm w.2.1 (λi (_:Unit)=>((i:Int),w,())) (λm b=>if qh m=true then .next b else .done (.done false)) (λ_=>.next (w,())) () ?_ ?_ ?_]
    ·rw[GQ];cases aL:w.2.1.all qh with
     | false=>simp[kH,aL]
     | true=>
      simp only[M.aE,if_true,M.bL];rw[M.dm w.2.2.2 (λi (_:Unit)=>((i:Int),w,())) (λt b=>if (!gE w t.1||!iB w t.2.1 t.2.2.1||!(decide (0<=t.2.2.2)&&decide (t.2.2.2<=1)))=true then .done (.done false) else .next b) (λ_=>.next ()) () ?_ ?_ ?_]
      ·rw[ky (q:=sv w) _ _ (λt=>by simp only[sv,Bool.not_and])];cases iY:w.2.2.2.all (sv w)<;>simp[kH,h5,aL,iY,cy]
      ·rfl
      ·intro i E b;have hw:=bo (n:=(i:Int)+1) (by omega) (by omega);simp only[bH,cH E,if_true,cZ E,cv E,M.bf,aJ.sh,po,rf,M.dj,M.iN,hs,implies_true,p_,M.aE,b8,hw];exact mH (mk:=λ_:Unit=>((i:Int)+1,w,()))
      simp
    ·rfl
    ·intro i E b;have hw:=bo (n:=(i:Int)+1) (by omega) (by omega);obtain⟨j0,o5⟩:=aQ w.2.1[i] (List.getElem_mem E);simp only[bH,Int.ofNat_lt,E,decide_true,if_true,cZ E,Int.natCast_nonneg,and_self,M.bf];by_cases hlen:(w.2.1[i].length:Int) > 4
     ·simp[hlen,qh]
     ·simp only[hlen,decide_false,Bool.false_eq_true,if_false];rw[M.dm w.2.1[i] (λk (_:Unit)=>((i:Int),(k:Int),w,())) (λs b=>if (!pq s)=true then .done (.done (.done (.done false))) else .next b) (λ_=>.next ((i:Int),w,())) () ?_ ?_ ?_]
      ·rw[ky (q:=pq) _ _ (λ_=>rfl)];cases hD:w.2.1[i].all pq<;>simp[qh,hD,hlen,hw]
      ·rfl
      ·intro k an b;have ma:=bo (n:=(k:Int)+1) (by omega) (by omega);have AG:=o5 w.2.1[i][k] (List.getElem_mem an);simp only[bH,cH an,cH E,if_true,cZ E,cZ an,cv E,cv an,M.bf,sw,M.dj,AG,M.bn AG,M.aE,b8,ma];exact mH (mk:=λ_:Unit=>((i:Int),(k:Int)+1,w,()))
      simp_all
    simp
  ·rfl
  ·intro i E b;have hw:=bo (n:=(i:Int)+1) (by omega) (by omega);simp only[bH,cH E,if_true,cZ E,cv E,M.bf,aJ.sh,oB,M.dj,M.iN,implies_true,p_,M.aE,b8,hw,Bool.not_not];exact mH (mk:=λ_:Unit=>((i:Int)+1,w,()))
  simp
theorem am1(x):M.le (MO po.sh rf.sh b5.sh oB.sh sw.sh x) (sx.sh x):=M.bj λh=>am0 x h
abbrev qi:mb:=(0,0,0,0)
def mP(a b:mb):Bool:=decide (a.1=b.1)&&decide (a.2.1=b.2.1)&&decide (a.2.2.1=b.2.2.1)&&decide (a.2.2.2≠b.2.2.2)
def nH(l:List mb):Bool:=(List.range l.length).all λi=>(List.range i).all λk=>!mP (l.getD k qi) (l.getD i qi)
def cr(w:bb):Int:=if kH w=true then (if nH w.2.2.2=true then 0 else 71) else 70
theorem Yk{a b:Nat}(h:a<b):((0:Int)<=(a:Int)/\(a:Int)<(b:Int))=True:=cv h
abbrev hH:aJ:=⟨km,tI,gu,cr⟩
theorem am2(w:bb)(h:gu w):ML sx.sh w=M.pure (cr w):=by
 have hs:=h;obtain⟨h1,h2,h3,aQ⟩:=h;unfold ML;simp only[aJ.sh,sx,M.dj,M.bn hs];unfold cr;cases hw:kH w with
 | false=>simp
 | true=>
  simp only[Bool.not_true,Bool.false_eq_true,if_false,if_true];rw[M.dm (List.range w.2.2.2.length) (λi (_:Unit)=>((i:Int),w,())) (λi b=>if (List.range i).any (λk=>mP (w.2.2.2.getD k qi) (w.2.2.2.getD i qi))=true then .done (.done (71:Int)) else .next b) (λ_=>.next ()) () ?_ ?_ ?_]
  ·rw[ky (q:=λi=>(List.range i).all λk=>!mP (w.2.2.2.getD k qi) (w.2.2.2.getD i qi)) _ _ (λi=>UG (λk=>by simp) _)];have e:((List.range w.2.2.2.length).all λi=>(List.range i).all λk=>!mP (w.2.2.2.getD k qi) (w.2.2.2.getD i qi))=nH w.2.2.2:=rfl;rw[e];cases nH w.2.2.2<;>simp
  ·rfl
  ·intro i E b;have E:i<w.2.2.2.length:=by grind
   have hJ:=bo (n:=(i:Int)+1) (by omega) (by omega);simp only[bH,cH E,if_true,List.getElem_range];rw[M.dm (List.range i) (λk (_:Unit)=>((i:Int),(k:Int),w,())) (λk b=>if mP (w.2.2.2.getD k qi) (w.2.2.2.getD i qi)=true then .done (.done (.done (.done (71:Int)))) else .next b) (λ_=>.next ((i:Int),w,())) () ?_ ?_ ?_]
   ·rw[q6];cases (List.range i).any (λk=>mP (w.2.2.2.getD k qi) (w.2.2.2.getD i qi))<;>simp[hJ]
   ·rfl
   ·intro k an b;have an:k<i:=by grind
    have vj:k<w.2.2.2.length:=by omega
    have ma:=bo (n:=(k:Int)+1) (by omega) (by omega);simp only[cH an,if_true,List.getElem_range,Yk vj,Yk E,M.bf,Int.toNat_natCast,M.aE,b8,ma];exact mH (mk:=λ_:Unit=>((i:Int),(k:Int)+1,w,()))
   simp
  simp
theorem am3(x):M.le (ML sx.sh x) (hH.sh x):=M.bj λh=>am2 x h
def gf(w:bb)(i:Int):HD:=w.1.getD i.toNat (0,0,0,0)
def t_(w:bb)(m k:Int):vx:=(jh w m).getD k.toNat (0,[],0,0)
theorem am4{w:bb}{i:Int}(h:gE w i=true):gf w i∈w.1:=by
 rw[tY]at h;exact xA h.1 h.2
theorem Ow{w:bb}{m k:Int}(h:iB w m k=true):jh w m∈w.2.1:=by
 rw[AE]at h;exact xA h.1.1 h.1.2
theorem Yl{w:bb}{m k:Int}(h:iB w m k=true):t_ w m k∈jh w m:=by
 rw[AE]at h;exact xA h.2.1 h.2.2
theorem AH{w:bb}(h:kH w=true):vz w=true/\(∀ s∈w.1,rh s=true)/\(∀ m∈w.2.1,qh m=true)/\∀ t∈w.2.2.2,sv w t=true:=by
 simp only[kH,Bool.and_eq_true,List.all_eq_true]at h;grind
theorem DT{w:bb}(h:kH w=true):w.1.length<=10/\w.2.1.length<=6/\(0<=w.2.2.1/\w.2.2.1<=99)/\w.2.2.2.length<=30:=by
 have:=(AH h).1;simp[vz]at this;omega
theorem am5{w:bb}(h:kH w=true){m k:Int}(aj:iB w m k=true):(jh w m).length<=4:=by
 have:=(AH h).2.2.1 _ (Ow aj);simp[qh]at this;omega
theorem am6{w:bb}(h:kH w=true){m k:Int}(aj:iB w m k=true):pq (t_ w m k)=true:=by
 have:=(AH h).2.2.1 _ (Ow aj);simp only[qh,Bool.and_eq_true,List.all_eq_true]at this;exact this.2 _ (Yl aj)
theorem am7{s:vx}(h:pq s=true):0<=s.2.2.1/\s.2.2.1<=s.2.2.2/\s.2.2.2<=999:=by
 simp only[pq,vy,Bool.and_eq_true,decide_eq_true_eq]at h;omega
theorem Ym{w:bb}(h:kH w=true){i:Int}(E:gE w i=true):0<=(gf w i).2.2.1/\(gf w i).2.2.1<=(gf w i).2.2.2/\(gf w i).2.2.2<=999:=by
 have:=(AH h).2.1 _ (am4 E);simp only[rh,vy,Bool.and_eq_true,decide_eq_true_eq]at this;omega
theorem am8{w:bb}(h:kH w=true){t:mb}(aF:t∈w.2.2.2):gE w t.1=true/\iB w t.2.1 t.2.2.1=true:=by
 have:=(AH h).2.2.2 _ aF;simp only[sv,Bool.and_eq_true]at this;grind
def vA(w:bb)(i n m k:Int):Bool:=
 decide ((gf w i).1=(t_ w m k).1)&&(t_ w m k).2.1.contains (gf w i).2.1&&(decide ((t_ w m k).2.2.1<=n)&&decide (n<=(t_ w m k).2.2.2+w.2.2.1))
def qj(w:bb):Prop:=gu w/\kH w=true
abbrev fcFitsAt:aJ:=⟨.aw km (.aw tI (.aw tI (.aw tI tI))),cP,λx=>qj x.1/\gE x.1 x.2.1=true/\iB x.1 x.2.2.2.1 x.2.2.2.2=true,λx=>vA x.1 x.2.1 x.2.2.1 x.2.2.2.1 x.2.2.2.2⟩
theorem am9(w:bb)(i n m k:Int)(hw:qj w)(E:gE w i=true)(aj:iB w m k=true):UP ov.sh b5.sh (w,i,n,m,k)=M.pure (vA w i n m k):=by
 unfold UP;have bY:=tY.1 E;have cm:=AE.1 aj;have hsl:=am7 (am6 hw.2 aj);have Rl:=(DT hw.2).2.2.1;have AG:(t_ w m k).2.1.length<2 ^ 63:=(hw.1.2.2.2 _ (Ow aj)).2 _ (Yl aj);have hJ:=bo (n:=(t_ w m k).2.2.2+w.2.2.1) (by omega) (by omega);unfold vA;simp only[t_,jh,gf]at *
 simp only[aJ.sh,ov,b5,M.iN,M.dj,bH,bY,cm,and_self,M.bf,implies_true,b8,hJ,u9,M.bn (λ_=>AG),AG];rfl
def t'(w:bb)(i n:Int)(t:mb):Bool:=!(decide (t.1=i)&&!decide (vA w i n t.2.1 t.2.2.1=decide (t.2.2.2=1)))
def Ox(w:bb)(i n:Int):Bool:=w.2.2.2.all (t' w i n)&&(decide ((gf w i).2.2.1<=n)&&decide (n<=(gf w i).2.2.2))
def gF(w:bb)(i:Int):z1':=(dR (gf w i).2.2.1 (gf w i).2.2.2).filter (Ox w i)
theorem Yn{w:bb}{i:Int}(hw:qj w)(E:gE w i=true):(gF w i).length<=1000:=by
 have:=Ym hw.2 E;have h2:=List.length_filter_le (Ox w i) (dR (gf w i).2.2.1 (gf w i).2.2.2);rw[xB]at h2;unfold gF;omega
theorem am_{w:bb}{i:Nat}(h:i<w.1.length):gE w (i:Int)=true:=by rw[tY];omega
def vC(w:bb):Bool:=(List.range w.1.length).all λi=>!decide (((gF w (i:Int)).length:Int)=0)
def ef(w:bb)(bR:Bool):Int:=if cr w≠0 then cr w else if bR=false then 1 else if vC w=true then 0 else 3
theorem Oy{w:bb}(h:cr w=0):kH w=true:=by
 unfold cr at h;grind
theorem DU{w:bb}{bR:Bool}(h:ef w bR=0):cr w=0/\bR=true/\vC w=true:=by
 unfold ef at h;grind
theorem Yo{w:bb}{bR:Bool}(hs:gu w)(h:ef w bR=0):qj w:=⟨hs,Oy (DU h).1⟩
theorem am'{w:bb}(h:vC w=true){i:Int}(E:gE w i=true):0<(gF w i).length:=by
 rw[tY]at E;have:=List.all_eq_true.1 h i.toNat (by grind);grind
def vD(w:bb)(i:Int):(Int×Int)×Int:=if ef w (gE w i)≠0 then ((0,0),ef w (gE w i)) else (((gF w i).getD 0 0,(gF w i).getD ((gF w i).length - 1) 0),0)
abbrev xY:aJ:=⟨.aw km tI,.aw l9 tI,λx=>gu x.1,λx=>vD x.1 x.2⟩
def HG(some many:Int):Int:=if some=many then 1 else if some=0 then 2 else 3
abbrev HH:aJ:=⟨.aw tI tI,tI,λ_=>True,λx=>HG x.1 x.2⟩
theorem Yp{ai:Type}{p:ai->Bool}:∀ (l:List ai) (n:Int),l.foldl (λn x=>if p x=true then n+1 else n) n=n+(l.countP p:Int)
 | [],n=>by simp
 | x::l,n=>by
  simp only[List.foldl_cons,List.countP_cons];rw[Yp l];grind
def ua(w:bb)(i m k:Int):Int:=HG ((gF w i).countP λn=>vA w i n m k:Int) ((gF w i).length:Int)
def qk(w:bb)(i m k:Int):Int×Int:=if ef w (gE w i&&iB w m k)≠0 then (0,ef w (gE w i&&iB w m k)) else (ua w i m k,0)
abbrev AI:aJ:=⟨.aw km (.aw tI (.aw tI tI)),.aw tI tI,λx=>gu x.1,λx=>qk x.1 x.2.1 x.2.2.1 x.2.2.2⟩
section
variable {ai:Type}
def xI(d:ai)(x:List ai×(ai->M Bool)):M Int:=
 M.bind (M.loop (λ(A:List ai×(ai->M Bool)×Int×Int×Unit)=>if decide (A.2.2.2.1<A.2.2.1)=true then M.ae (0<=A.2.2.2.1/\
 A.2.2.2.1<Int.ofNat (List.length A.1)) (M.bind (A.2.1 (List.getD A.1 (Int.toNat A.2.2.2.1) d)) λy=>if y=true then M.bind (M.bind (M.pure
 A.2.2.2.1) λr=>M.pure (V.done r)) λr=>M.pure (V.done r) else M.pure (V.next (A.1,A.2.1,A.2.2.1,IntKind.wrap .i64 (Add.add
 A.2.2.2.1 1),()))) else M.bind (M.pure (V.next ())) λr=>M.pure (V.done r)) (x.1,x.2,Int.ofNat (List.length x.1),0,())) (V.bm λ(A
 : Unit)=>M.pure (-1))
def Dv(c:List ai×(ai->M Bool)->M Int)(x:List ai×(ai->M Bool)):M Bool:=M.bind (c x) λy=>M.pure (decide (y>=0))
def Yq(c:List ai×(ai->M Bool)->M Bool)(c1:ai×Option (ai->M Bool)->M Bool)(x:List ai×(ai->M Bool)):M Bool:=
 M.bind (c (x.1,λgZ=>c1 (gZ,some x.2))) λy=>M.pure !y
def Yr(x:ai×Option (ai->M Bool)):M Bool:=M.bind (Option.getD x.2 (λx=>{ b4:=False,bB:=λx=>False }) x.1) λy=>M.pure !y
def hq(p:ai->Bool):List ai->Int->Int
 | [],_=>-1
 | x::l,i=>if p x=true then i else hq p l (i+1)
theorem z6(p:ai->Bool):∀ (l:List ai) (i:Int),0<=i->(decide (hq p l i>=0))=l.any p
 | [],i,_=>by rfl
 | x::l,i,h=>by
  simp only[hq,List.any_cons];by_cases hx:p x=true
  ·grind
  ·have:=z6 p l (i+1) (by omega);grind
theorem z7(p:ai->Bool):∀ (l:List ai) (i:Int),eB (λx (i:Int)=>if p x=true then (.done (.done i):V Int (V Unit Int)) else .next (i+1)) (λ_=>.next ()) l i=if l.any p=true then .done (hq p l i) else .next ()
 | [],i=>by rfl
 | x::l,i=>by
  simp only[eB,List.any_cons,hq];by_cases hx:p x=true
  ·grind
  ·have:=z7 p l (i+1);grind
theorem Dw{p:ai->Bool}:∀ (l:List ai) (i:Int),¬l.any p=true->hq p l i=-1
 | [],_,_=>rfl
 | x::l,i,ax=>by
  simp only[List.any_cons,Bool.or_eq_true,not_or]at ax;simp only[hq,ax.1,Bool.false_eq_true,if_false];exact Dw l _ ax.2
theorem Nz(d:ai)(l:List ai)(f:ai->M Bool)(h:l.length<2 ^ 63)(aq:∀ y∈l,∃ b,f y=M.pure b):xI d (l,f)=M.pure (hq (λy=>(f y).val false) l 0):=by
 unfold xI;rw[M.gn l (λi (b:Int)=>(l,f,(l.length:Int),b,())) (λy (i:Int)=>if (f y).val false=true then (.done (.done i):V Int (V Unit Int)) else .next (i+1)) (λ_=>.next ()) (λi b=>b=(i:Int)) 0 ?_ ?_ ?_ ?_]
 ·rw[z7 (λy=>(f y).val false)];by_cases aU:(l.any λy=>(f y).val false)=true
  ·simp[aU]
  ·have:hq (λy=>(f y).val false) l 0=-1:=by
    have:∀ (l:List ai) (i:Int),¬(l.any λy=>(f y).val false)=true->hq (λy=>(f y).val false) l i=-1:=by
     intro l;induction l with
     | nil=>intro i _;rfl
     | cons x l aG=>
      intro i ax;simp only[List.any_cons,Bool.or_eq_true,not_or]at ax;simp only[hq,ax.1,Bool.false_eq_true,if_false];grind
    grind
   simp[aU,this]
 ·rfl
 ·rfl
 ·intro i E b aa;subst aa;have hw:=bo (n:=(i:Int)+1) (by omega) (by omega);refine⟨?_,λaZ cY=>?_⟩
  ·obtain⟨b,aa⟩:=aq _ (List.getElem_mem E);simp only[bH,cH E,if_true,cZ E,cv E,M.bf,aa,M.fg,M.aE,b8,hw];split<;>rfl
  grind
 simp
end
abbrev kD(e:ad):aJ:=⟨.aw (.slice e) (.fn e .bool),tI,λx=>x.1.length<2 ^ 63/\∀ y∈x.1,∃ b,x.2 y=M.pure b,λx=>hq (λy=>(x.2 y).val false) x.1 0⟩
theorem sd(e:ad)(x):M.le (xI e.cM x) ((kD e).sh x):=M.bj λh=>Nz e.cM x.1 x.2 h.1 h.2
abbrev iO(e:ad):aJ:=⟨.aw (.slice e) (.fn e .bool),cP,λx=>x.1.length<2 ^ 63/\∀ y∈x.1,∃ b,x.2 y=M.pure b,λx=>x.1.any λy=>(x.2 y).val false⟩
theorem se(e:ad)(x):M.le (Dv (kD e).sh x) ((iO e).sh x):=M.bj λh=>by
 unfold Dv;simp only[aJ.sh,kD,M.dj];rw[M.bn (by exact h)];exact congrArg M.pure (z6 (λy=>(x.2 y).val false) x.1 0 (by omega))
abbrev vF(e:ad):aJ:=⟨.aw e (.bp (.fn e .bool)),cP,λx=>∃ f,x.2=some f/\∃ b,f x.1=M.pure b,λx=>!((x.2.getD λ_=>M.fail) x.1).val false⟩
theorem DV(e:ad)(x):M.le (Yr x) ((vF e).sh x):=M.bj λh=>by
 obtain⟨y,o⟩:=x;obtain⟨f,aq,b,aa⟩:=h;change o=some f at aq;subst aq;change f y=M.pure b at aa;unfold Yr;simp_all
abbrev fcAllF(e:ad):aJ:=⟨.aw (.slice e) (.fn e .bool),cP,λx=>x.1.length<2 ^ 63/\∀ y∈x.1,∃ b,x.2 y=M.pure b,λx=>x.1.all λy=>(x.2 y).val false⟩
theorem DW(e:ad)(x):M.le (Yq (iO e).sh (vF e).sh x) ((fcAllF e).sh x):=M.bj λh=>by
 obtain⟨l,f⟩:=x;obtain⟨h1,h2⟩:=h;unfold Yq;have hc:∀ y∈l,(vF e).sh (y,some f)=M.pure (!(f y).val false):=λy aK=>by
  obtain⟨b,aa⟩:=h2 y aK;exact M.bE ⟨f,rfl,b,aa⟩ _
 simp only[aJ.sh,iO,M.dj];rw[M.bn ⟨h1,λy aK=>⟨_,hc y aK⟩⟩];refine congrArg M.pure ?_;rw[List.not_any_eq_all_not];simp
end Go.Fer
