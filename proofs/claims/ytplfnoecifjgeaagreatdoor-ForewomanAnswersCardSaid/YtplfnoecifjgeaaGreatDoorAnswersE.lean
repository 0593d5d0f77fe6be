/- Part 5 of the proof of Answers: shallow programs of Go functions, and what they compute. No condition. -/
import Derived.Test.YtplfnoecifjgeaaGreatDoorAnswersD
noncomputable section
set_option linter.unusedVariables false
set_option linter.unusedSimpArgs false
namespace Go.Fer.H
open A (V)
abbrev bq:ab:=.int .i64
abbrev dj:ab:=.bool
abbrev fO:ab:=.slice bq
abbrev l7:ab:=.st (.az bq bq)
abbrev OP:ab:=.st (.az bq (.az bq (.az bq (.az bq (.az bq (.az bq bq))))))
abbrev kp:ab:=.st (.az (.slice l7) (.az (.slice hq) (.az fO (.az (.slice l7) OP))))
abbrev Ik:ab:=.st (.az hq bq)
abbrev ym:ab:=.st (.az fO (.array 10 (.slice Ik)))
abbrev s6:ab:=.st (.az kp (.az (.slice hq) (.slice (.bG ym))))
attribute [simp] qR Vw vV A.dG A.FN A.Rr A.gQ A.e4 A.od A.jd A.kn A.b2 A.pS cn gY Vv V.ho
section
variable {ak:Type}
def yn(d:ak)(x:List ak×(ak->A Bool)):A Int:=
 A.bind (A.loop (λ(D:List ak×(ak->A Bool)×Int×Int×Unit)=>if decide (D.2.2.2.1<D.2.2.1)=true then A.ad (0<=D.2.2.2.1/\
 D.2.2.2.1<Int.ofNat (List.length D.1)) (A.bind (D.2.1 (List.getD D.1 (Int.toNat D.2.2.2.1) d)) λy=>if y=true then A.bind (A.bind (A.pure
 D.2.2.2.1) λr=>A.pure (V.done r)) λr=>A.pure (V.done r) else A.pure (V.next (D.1,D.2.1,D.2.2.1,IntKind.wrap .i64 (Add.add
 D.2.2.2.1 1),()))) else A.bind (A.pure (V.next ())) λr=>A.pure (V.done r)) (x.1,x.2,Int.ofNat (List.length x.1),0,())) (V.bD λ(D
 : Unit)=>A.pure (-1))
def Er(c:List ak×(ak->A Bool)->A Int)(x:List ak×(ak->A Bool)):A Bool:=A.bind (c x) λy=>A.pure (decide (y>=0))
def hP(p:ak->Bool):List ak->Int->Int
 | [],_=>-1
 | x::l,i=>if p x=true then i else hP p l (i+1)
theorem AZ(p:ak->Bool):∀ (l:List ak) (i:Int),0<=i->(decide (hP p l i>=0))=l.any p
 | [],i,_=>by rfl
 | x::l,i,h=>by
  simp only[hP,List.any_cons];by_cases ah:p x=true
  ·grind
  ·have:=AZ p l (i+1) (by omega);grind
theorem A0(p:ak->Bool):∀ (l:List ak) (i:Int),eX (λx (i:Int)=>if p x=true then (.done (.done i):V Int (V Unit Int)) else .next (i+1)) (λ_=>.next ()) l i=if l.any p=true then .done (hP p l i) else .next ()
 | [],i=>by rfl
 | x::l,i=>by
  simp only[eX,List.any_cons,hP];by_cases ah:p x=true
  ·grind
  ·have:=A0 p l (i+1);grind
theorem Es{p:ak->Bool}:∀ (l:List ak) (i:Int),¬l.any p=true->hP p l i=-1
 | [],_,_=>rfl
 | x::l,i,au=>by
  simp only[List.any_cons,Bool.or_eq_true,not_or]at au;simp only[hP,au.1,Bool.false_eq_true,if_false];exact Es l _ au.2
theorem OQ(d:ak)(l:List ak)(f:ak->A Bool)(h:l.length<2 ^ 63)(ar:∀ y∈l,∃ b,f y=A.pure b):yn d (l,f)=A.pure (hP (λy=>(f y).val false) l 0):=by
 unfold yn;rw[A.gv l (λi (b:Int)=>(l,f,(l.length:Int),b,())) (λy (i:Int)=>if (f y).val false=true then (.done (.done i):V Int (V Unit Int)) else .next (i+1)) (λ_=>.next ()) (λi b=>b=(i:Int)) 0 ?_ ?_ ?_ ?_]
 ·rw[A0 (λy=>(f y).val false)];by_cases a8:(l.any λy=>(f y).val false)=true
  ·simp[a8]
  ·have:hP (λy=>(f y).val false) l 0=-1:=by
    have:∀ (l:List ak) (i:Int),¬(l.any λy=>(f y).val false)=true->hP (λy=>(f y).val false) l i=-1:=by
     intro l;induction l with
     | nil=>intro i _;rfl
     | cons x l aH=>
      intro i au;simp only[List.any_cons,Bool.or_eq_true,not_or]at au;simp only[hP,au.1,Bool.false_eq_true,if_false];grind
    grind
   simp[a8,this]
 ·rfl
 ·rfl
 ·intro i G b W;subst W;have hw:=bF (n:=(i:Int)+1) (by omega) (by omega);refine⟨?_,λbd dd=>?_⟩
  ·obtain⟨b,W⟩:=ar _ (List.getElem_mem G);simp only[bW,cX G,if_true,dk G,cH G,A.bn,W,A.e4,A.aF,cn,hw];split<;>rfl
  grind
 simp
end
abbrev k5(e:ab):aM:=⟨.az (.slice e) (.fn e .bool),bq,λx=>x.1.length<2 ^ 63/\∀ y∈x.1,∃ b,x.2 y=A.pure b,λx=>hP (λy=>(x.2 y).val false) x.1 0⟩
theorem s7(e:ab)(x):A.le (yn e.de x) ((k5 e).sh x):=A.bu λh=>OQ e.de x.1 x.2 h.1 h.2
abbrev je(e:ab):aM:=⟨.az (.slice e) (.fn e .bool),dj,λx=>x.1.length<2 ^ 63/\∀ y∈x.1,∃ b,x.2 y=A.pure b,λx=>x.1.any λy=>(x.2 y).val false⟩
theorem s8(e:ab)(x):A.le (Er (k5 e).sh x) ((je e).sh x):=A.bu λh=>by
 unfold Er;simp only[aM.sh,k5,A.dG];rw[A.bt (by exact h)];exact congrArg A.pure (AZ (λy=>(x.2 y).val false) x.1 0 (by omega))
abbrev jW(s:a7):Int:=s.1
abbrev pZ(s:a7):Int:=s.2.1
abbrev yo(s:a7):Int:=s.2.2.1
abbrev ea(s:a7):Int:=s.2.2.2.1
abbrev uI(s:a7):Int:=s.2.2.2.2.1
abbrev ih(s:a7):Int:=s.2.2.2.2.2
def j6(c:a1):Prop:=c.1.length<2 ^ 63/\c.2.1.length<2 ^ 63/\c.2.2.1.length<2 ^ 63/\c.2.2.2.1.length<2 ^ 63
def bZ(n aX G:Int):Bool:=decide (aX<=n)&&decide (n<=G)
theorem og{n aX G:Int}:bZ n aX G=true<->aX<=n/\n<=G:=by simp[bZ]
def o6(t:pX):Bool:=bZ t.1 0 9999&&bZ t.2.1 1 9999&&bZ t.2.2.2.2.1 1 9999&&bZ t.2.2.1 0 100000&&bZ t.2.2.2.1 0 100000&&bZ t.2.2.2.2.2.1 0 100000&&bZ t.2.2.2.2.2.2 0 100000
def lA(n:Nat)(s:a7):Bool:=bZ (jW s) 0 99&&bZ (pZ s) 0 ((n:Int) - 1)&&bZ (yo s) 0 9999&&bZ (uI s) 0 9&&bZ (ih s) 0 99&&(decide (ea s=1)||decide (ea s=2)&&decide (ih s=0))
abbrev cp:aM:=⟨.az bq (.az bq bq),dj,λ_=>True,λx=>bZ x.1 x.2.1 x.2.2⟩
theorem alk(x):A.le (WL cp.sh x) (cp.sh x):=A.bu λ_=>by
 unfold WL;simp[aM.sh,cp]
theorem alm(x):A.le (akP x) (cp.sh x):=A.bu λ_=>rfl
abbrev yp:aM:=⟨bq,dj,λ_=>True,λx=>bZ x 0 9999⟩
theorem aln(x):A.le (Wu cp.sh x) (yp.sh x):=A.bu λ_=>by
 unfold Wu;simp[aM.sh,cp]
abbrev v8:aM:=⟨bq,dj,λ_=>True,λx=>bZ x 0 99⟩
theorem alo(x):A.le (WE cp.sh x) (v8.sh x):=A.bu λ_=>by
 unfold WE;simp[aM.sh,cp]
abbrev v_:aM:=⟨OP,dj,λ_=>True,λx=>o6 x⟩
theorem alp(x):A.le (WW cp.sh x) (v_.sh x):=A.bu λ_=>by
 unfold WW;show _=A.pure (o6 x);unfold o6;simp only[aM.sh,cp,A.nQ,A.aF,A.kn];simp
theorem alq(x):A.le (WS cp.sh x) (v_.sh x):=A.bu λ_=>by
 unfold WS;rw[A.et [x.2.2.1,x.2.2.2.1,x.2.2.2.2.2.1,x.2.2.2.2.2.2] (λi (_:Unit)=>(4,(i:Int),x,[x.2.2.1,x.2.2.2.1,x.2.2.2.2.2.1,x.2.2.2.2.2.2],())) (λy b=>if (!bZ y 0 100000)=true then .done (.done false) else .next b) (λ_=>.next (x,())) () ?_ ?_ ?_]
 ·rw[k0 (q:=λy=>bZ y 0 100000) _ _ (λ_=>rfl)];show _=A.pure (o6 x);unfold o6;simp only[List.all_cons,List.all_nil,Bool.and_true,aM.sh,cp,A.nQ,A.aF,A.kn];cases E:bZ x.1 0 9999<;>cases U:bZ x.2.1 1 9999<;>cases ag:bZ x.2.2.2.2.1 1 9999<;>cases bZ x.2.2.1 0 100000<;>cases bZ x.2.2.2.1 0 100000<;>cases bZ x.2.2.2.2.2.1 0 100000<;>cases bZ x.2.2.2.2.2.2 0 100000<;>simp[E,U,ag]
 ·rfl
 ·intro i G b;have dI:i<4:=by omega
  have hw:=bF (n:=(i:Int)+1) (by omega) (by omega);have E:decide ((i:Int)<4)=true:=by grind
  simp only[E,if_true,bW,dk G,cH G,A.bn,aM.sh,cp,A.nQ,A.aF,cn,hw];exact nj (mk:=λ(_:Unit)=>((4:Int),((i+1:Nat):Int),x,[x.2.2.1,x.2.2.2.1,x.2.2.2.2.2.1,x.2.2.2.2.2.2],()))
 simp
abbrev v':aM:=⟨.az kp hq,dj,λx=>x.1.1.length<2 ^ 63,λx=>lA x.1.1.length x.2⟩
theorem alr(x):A.le (WX cp.sh x) (v'.sh x):=A.bu λh=>by
 have hw:=bF (n:=(x.1.1.length:Int) - 1) (by omega) (by omega);unfold WX;show _=A.pure (lA x.1.1.length x.2);unfold lA;simp only[aM.sh,cp,A.nQ,A.aF,A.kn,bW,hw];grind
theorem als(x):A.le (WU cp.sh v8.sh x) (v'.sh x):=A.bu λh=>by
 have hw:=bF (n:=(x.1.1.length:Int) - 1) (by omega) (by omega);unfold WU;show _=A.pure (lA x.1.1.length x.2);unfold lA;simp only[aM.sh,cp,v8,A.nQ,A.aF,A.kn,bW,hw];grind
abbrev Et:aM:=⟨.az hq (.bG kp),dj,λx=>∃ c:a1,x.2=some c/\c.1.length<2 ^ 63,λx=>!lA (x.2.getD ([],[],[],[],0,0,0,0,0,0,0)).1.length x.1⟩
theorem alu(x):A.le (WT v'.sh x) (Et.sh x):=A.bu λh=>by
 obtain⟨s,o⟩:=x;obtain⟨c,hc,h⟩:=h;change o=some c at hc;subst hc;unfold WT;simp only[Option.getD_some,aM.sh,v',A.dG];simp_all
abbrev A1:aM:=⟨bq,dj,λ_=>True,λx=>!bZ x 0 99⟩
theorem alv(x):A.le (WV v8.sh x) (A1.sh x):=A.bu λ_=>by
 unfold WV;simp[aM.sh,v8]
theorem Xe(a b:a7):(decide (a.1=b.1)&&(decide (a.2.1=b.2.1)&&(decide (a.2.2.1=b.2.2.1)&&(decide (a.2.2.2.1=b.2.2.2.1)&&(decide (a.2.2.2.2.1=b.2.2.2.2.1)&&decide (a.2.2.2.2.2=b.2.2.2.2.2))))))=decide (a=b):=by
 grind
def uJ(a b:a7):Bool:=decide (jW a=jW b)&&!decide (a=b)
abbrev Il:aM:=⟨.az hq hq,dj,λ_=>True,λx=>uJ x.1 x.2⟩
theorem alw(x):A.le (WK x) (Il.sh x):=A.bu λ_=>by
 have h:=Xe x.1 x.2;unfold WK;show _=A.pure (uJ x.1 x.2);unfold uJ;grind
abbrev o7:aM:=⟨.az fO bq,dj,λx=>x.1.length<2 ^ 63,λx=>x.1.contains x.2⟩
theorem alx(x):A.le (ak' x) ((k5 hq).sh x):=s7 hq x
theorem aly(x):A.le (ak5 (k5 hq).sh x) ((je hq).sh x):=s8 hq x
abbrev o8:aM:=⟨fO,fO,λx=>x.length<=3000000,λx=>x⟩
theorem fs{n:Nat}(h:n<65536):b9 n:=by unfold b9;omega
theorem alz(x):A.le (WZ x) (o8.sh x):=A.sX λh=>by
 unfold WZ;rw[A.fY];refine⟨⟨false,by simp⟩,λb W=>?_⟩;change b=true->x=[]at W;cases b with
 | true=>rw[W rfl];exact A.d_.2 rfl
 | false=>
  simp only[Bool.false_eq_true,if_false];exact A.kR.2 ⟨by change List.length x<=3000000 at h;simp only[gY,b9];omega,A.d_.2 (by simp)⟩
abbrev alA(c:a1):Prop:=c.1.length<=20/\c.2.1.length<=40/\c.2.2.1.length<=60/\c.2.2.2.1.length<=40
abbrev Im:aM:=⟨bq,dj,λ_=>True,λ_=>false⟩
theorem alB(x):A.le (W3 x) (Im.sh x):=A.bu λ_=>by simp[W3]
abbrev Io:aM:=⟨.az bq bq,bq,λ_=>True,λx=>if x.1<x.2 then -1 else if x.1 > x.2 then 1 else 0⟩
theorem alC(x):A.le (W1 Im.sh x) (Io.sh x):=A.bu λ_=>by
 unfold W1;simp only[aM.sh,Im,A.nQ,A.aF,Bool.false_eq_true,if_false,decide_eq_true_eq];grind
abbrev l8:aM:=⟨.az Ik Ik,bq,λ_=>True,λx=>if x.1.2<x.2.2 then -1 else if x.1.2 > x.2.2 then 1 else 0⟩
theorem alD(x):A.le (W0 Io.sh x) (l8.sh x):=A.bu λ_=>by
 unfold W0;simp only[aM.sh,Io,A.nQ,A.aF]
abbrev OR:aM:=⟨.int .u64,bq,λx=>0<=x/\x<=12,λx=>(Eo x).val 0⟩
theorem alE(x):A.le (Eo x) (OR.sh x):=A.bu λh=>by
 have key:∃ v,Eo x=A.pure v:=by
  change Int at x;change (0:Int)<=x/\x<=12 at h;unfold Eo;have ax:¬(x>=4294967296):=by omega
  have aO:¬(x>=65536):=by omega
  have cv:¬(x>=256):=by omega
  have ec:IntKind.wrap .u8 x=x:=by
   show (if (false&&decide (x % 2 ^ 8>=(2 ^ (8 - 1):Int)))=true then x % 2 ^ 8 - 2 ^ 8 else x % 2 ^ 8)=x;grind
  have j7:0<=x/\x<Int.ofNat 256:=⟨h.1,by grind⟩
  simp only[decide_eq_true_eq,ax,aO,cv,if_false,A.aF,A.b2,ec,A.bt j7];grind
 obtain⟨v,ae⟩:=key;simp_all
abbrev OS:aM:=⟨.int .u64,bq,λx=>0<=x/\x<=12,λx=>(Eo x).val 0⟩
theorem alF(f)(x):A.le (WY f OR.sh x) (OS.sh x):=A.bu λh=>by
 unfold WY;simp only[aM.sh,A.dG];simp_all
end Go.Fer.H
namespace Go.Fer.H
open A (V)
section
variable {ak:Type} (d:ak) (lt:ak->ak->Bool)
def wa(l:List ak):Nat->List ak
 | 0=>l
 | k+1=>if lt (l.getD (k+1) d) (l.getD k d)=true then wa ((l.set (k+1) (l.getD k d)).set k (l.getD (k+1) d)) k else l
def p0(e:ak):List ak->List ak
 | []=>[e]
 | a::r=>if lt e a=true then a::p0 e r else e::a::r
def uK(l:List ak):List ak:=l.foldl (λr e=>p0 lt e r) []
def ft(l:List ak):List ak:=(uK lt l).reverse
theorem Xf:∀ (r:List ak) (e:ak) (R:List ak),wa d lt (r.reverse++e::R) r.length=(p0 lt e r).reverse++R
 | [],e,R=>rfl
 | a::r,e,R=>by
  have ax:((a::r).reverse++e::R).getD (r.length+1) d=e:=by
   simp
  have aO:((a::r).reverse++e::R).getD r.length d=a:=by
   simp
  show wa d lt ((a::r).reverse++e::R) (r.length+1)=_;unfold wa;rw[ax,aO];unfold p0;split
  ·have cv:(((a::r).reverse++e::R).set (r.length+1) a).set r.length e=r.reverse++e::(a::R):=by
    simp
   rw[cv,Xf r e (a::R)];simp
  ·simp
theorem OT(e:ak):∀ r:List ak,(p0 lt e r).Perm (e::r)
 | []=>.refl _
 | a::r=>by
  unfold p0;split
  ·exact ((OT e r).cons a).trans (List.Perm.swap e a r)
  rfl
theorem Xg:∀ (l r:List ak),(l.foldl (λr e=>p0 lt e r) r).Perm (l++r)
 | [],r=>.refl _
 | x::l,r=>by
  simp only[List.foldl_cons];refine (Xg l _).trans ?_;refine ((OT lt x r).append_left l).trans ?_;simp
theorem Xh(l:List ak):(uK lt l).Perm l:=by
 have:=Xg lt l [];rwa [List.append_nil]at this
theorem Eu(l:List ak):(ft lt l).Perm l:=(List.reverse_perm _).trans (Xh lt l)
theorem Xi(l:List ak):(uK lt l).length=l.length:=(Xh lt l).length_eq
theorem Ip(l:List ak):(ft lt l).length=l.length:=(Eu lt l).length_eq
theorem Xj{l:List ak}{x:ak}:x∈ft lt l<->x∈l:=(Eu lt l).mem_iff
theorem alG(l:List ak)(e:ak):uK lt (l++[e])=p0 lt e (uK lt l):=by simp[uK]
def qU(l:List ak)(n:Nat):List ak:=(uK lt (l.take n)).reverse++l.drop n
theorem alH(l:List ak):qU lt l 1=l:=by
 cases l with
 | nil=>rfl
 | cons x l=>rfl
theorem alI(l:List ak):qU lt l l.length=ft lt l:=by simp[qU,ft]
theorem alJ(l:List ak)(n:Nat)(h:n<=l.length):(qU lt l n).length=l.length:=by
 simp[qU,Xi,Nat.min_eq_left h];omega
theorem alK{l:List ak}{n:Nat}(h:n<l.length):wa d lt (qU lt l n) n=qU lt l (n+1):=by
 have ax:(uK lt (l.take n)).length=n:=by rw[Xi];grind
 have:=Xf d lt (uK lt (l.take n)) l[n] (l.drop (n+1));rw[ax]at this;unfold qU;rw[List.drop_eq_getElem_cons h,this,List.take_add_one,List.getElem?_eq_getElem h,Option.toList_some,alG]
theorem OU(cj:∀ a b,lt a b=false->lt b a=true\/lt b a=false)(aW:∀ a b c:ak,lt a b=false->lt b c=false->lt a c=false)(Xk:∀ a b,lt a b=true->lt b a=false)(e:ak):∀ r:List ak,r.Pairwise (λa b=>lt a b=false)->(p0 lt e r).Pairwise (λa b=>lt a b=false)
 | [],_=>by simp[p0]
 | a::r,h=>by
  rw[List.pairwise_cons]at h;unfold p0;split
  ·rename_i he;refine List.pairwise_cons.2 ⟨λx ah=>?_,OU cj aW Xk e r h.2⟩;rcases List.mem_cons.1 ((OT lt e r).mem_iff.1 ah) with rfl | ah
   ·exact Xk _ _ he
   ·exact h.1 x ah
  ·rename_i he;have he:lt e a=false:=by grind
   refine List.pairwise_cons.2 ⟨λx ah=>?_,List.pairwise_cons.2 h⟩;grind
end
def hs(a b:Int):Bool:=decide (a<b)
def h1(a b:bw):Bool:=decide (a.2<b.2)
theorem Xl:∀ (l r:z1'),r.Pairwise (λa b=>hs a b=false)->(l.foldl (λr e=>p0 hs e r) r).Pairwise (λa b=>hs a b=false)
 | [],r,h=>h
 | x::l,r,h=>Xl l _ (OU hs (λa b _=>by simp) (λa b c E U=>by simp[hs]at *;omega) (λa b h=>by simp[hs]at *;omega) x r h)
theorem OV(l:z1'):(ft hs l).Pairwise (·<=·):=by
 have:=Xl l [] .nil;unfold ft;rw[List.pairwise_reverse];exact this.imp λh=>by simp[hs]at h;exact h
theorem Xm:∀ (l r:List bw),r.Pairwise (λa b=>h1 a b=false)->(l.foldl (λr e=>p0 h1 e r) r).Pairwise (λa b=>h1 a b=false)
 | [],r,h=>h
 | x::l,r,h=>Xm l _ (OU h1 (λa b _=>by simp) (λa b c E U=>by simp[h1]at *;omega) (λa b h=>by simp[h1]at *;omega) x r h)
theorem alL(l:List bw):(ft h1 l).Pairwise λa b=>a.2<=b.2:=by
 have:=Xm l [] .nil;unfold ft;rw[List.pairwise_reverse];exact this.imp λh=>by simp[h1]at h;exact h
theorem A2{l m:z1'}(h:m.Pairwise (·<=·))(an:l.Perm m):ft hs l=m:=
 List.Perm.eq_of_pairwise (λa b _ _ E U=>by omega) (OV l) h ((Eu hs l).trans an)
theorem Xn{l m:z1'}(an:l.Perm m):ft hs l=ft hs m:=A2 (OV m) (an.trans (Eu hs m).symm)
theorem alM{ak:Type}{d:ak}{lt:ak->ak->Bool}{D aI:Type}{body:D->A (V D aI)}{s0:D}(mk:Nat->List ak->D)(fin:List ak->aI)(hn:Nat)(ff:List ak)(nh:s0=mk hn ff)(m':hn<ff.length)
  (aD:∀ k l,l.length=ff.length->k<ff.length->body (mk k l)=A.pure (if 0<k/\lt (l.getD k d) (l.getD (k - 1) d)=true then .next (mk (k - 1) ((l.set k (l.getD (k - 1) d)).set (k - 1) (l.getD k d))) else .done (fin l))) :
  A.loop body s0=A.pure (fin (wa d lt ff hn)):=by
 subst nh;have key:∀ k l,l.length=ff.length->k<ff.length->A.loop body (mk k l)=A.pure (fin (wa d lt l k)):=by
  intro k;induction k with
  | zero=>
   intro l ai al;exact A.sc (by rw[aD 0 l ai al,if_neg (by simp)];rfl)
  | succ k aH=>
   intro l ai al;unfold wa;by_cases h:lt (l.getD (k+1) d) (l.getD k d)=true
   ·rw[if_pos h,A.zo (s':=mk k ((l.set (k+1) (l.getD k d)).set k (l.getD (k+1) d)))]
    ·exact aH _ (by simpa using ai) (by omega)
    ·rw[aD (k+1) l ai al,if_pos ⟨by omega,h⟩];rfl
   ·rw[if_neg h];exact A.sc (by grind)
 grind
theorem OW{ak:Type}{l:List ak}{d:ak}{k:Nat}:l.getD ((k:Int) - 1).toNat d=l.getD (k - 1) d:=by
 simp
theorem Xo{ak:Type}{l:List ak}{d:ak}{k:Nat}:l.getD ((k:Int)).toNat d=l.getD k d:=by rfl
theorem alN{D aI:Type}{c:Bool}{p:Prop}[Decidable p](h:c=decide p){x y:A (V D aI)}{a b:V D aI}(E:p->x=A.pure a)(U:¬p->y=A.pure b):(if c=true then x else y)=A.pure (if p then a else b):=by
 grind
def Iq(x:Int×Int×(bw×a7×Int->A Int)×List bw×Unit):A (List bw×Unit):=A.dP (x.1=0/\x.2.1=(x.2.2.2.1.length:Int)/\x.2.2.2.1.length<=12/\x.2.2.1=l8.sh) (ft h1 x.2.2.2.1,())
theorem alO(x):A.le (W7 x) (Iq x):=A.bu λh=>by
 obtain⟨a,b,f,l,u⟩:=x;obtain⟨E,U,ag,a6⟩:=h;change a=0 at E;change b=(l.length:Int) at U;change l.length<=12 at ag;change f=l8.sh at a6;subst E;subst U;subst a6;unfold W7;rw[A.et (List.range (l.length - 1)) (λi (_:Unit)=>(0,(l.length:Int),l8.sh,((i+1:Nat):Int),qU h1 l (i+1),())) (λ_ _=>.next ()) (λ_=>(ft h1 l,())) () ?_ ?_ ?_]
 ·rw[fr]
 ·show (0,(l.length:Int),l8.sh,IntKind.wrap .i64 (Add.add 0 1),l,())=(0,(l.length:Int),l8.sh,((0+1:Nat):Int),qU h1 l (0+1),())
  rw[alH];rfl
 ·intro i G _;have G:i+1<l.length:=by grind
  have ai:=alJ h1 l (i+1) (by omega);have hw:=bF (n:=((i+1:Nat):Int)+1) (by omega) (by omega);have aq:decide (((i+1:Nat):Int)<(l.length:Int))=true:=by grind
  simp only[aq,if_true];rw[alM (d:=((0,0,0,0,0,0),0)) (lt:=h1) (λk m=>(0,(l.length:Int),l8.sh,((i+1:Nat):Int),(k:Int),m,())) (λm=>.next (0,(l.length:Int),l8.sh,((i+1:Nat):Int),m,())) (i+1) (qU h1 l (i+1)) rfl (by omega) ?_]
  ·simp only[A.aF,A.b2,cn,hw,alK ((0,0,0,0,0,0),0) h1 G];rfl
  ·intro k m hm al;have gX:0<k->IntKind.wrap .i64 ((k:Int) - 1)=(k:Int) - 1:=λ_=>bF (by omega) (by omega);by_cases m':0<k
   ·have an:decide ((k:Int) > 0)=true:=by grind
    have cf:(0:Int)<=(k:Int)/\(k:Int)<Int.ofNat m.length:=⟨by omega,by grind⟩
    have cI:(0:Int)<=(k:Int) - 1/\(k:Int) - 1<Int.ofNat m.length:=⟨by omega,by omega⟩
    have er:(0:Int)<=(k:Int) - 1/\(k:Int) - 1<Int.ofNat (m.set k (m.getD (k - 1) ((0,0,0,0,0,0),0))).length:=⟨by omega,by grind⟩
    have Ir:((k:Int) - 1)=((k - 1:Nat):Int):=by omega
    simp only[an,gX m',cf,cI,forall_const,and_self,true_and,A.bn,aM.sh,l8,A.nQ,A.kn,A.aF,if_true,Bool.true_and,OW,Xo,Int.toNat_natCast,er];rw[show ((k:Int) - 1).toNat=k - 1 from by omega];refine alN (p:=0<k/\h1 (m.getD k ((0,0,0,0,0,0),0)) (m.getD (k - 1) ((0,0,0,0,0,0),0))=true) ?_ (λ_=>?_) (λ_=>rfl)
    ·rw[Bool.eq_iff_iff];simp only[h1,m',true_and,decide_eq_true_eq];grind
    rw[Ir]
   ·have Xp:k=0:=by omega
    subst Xp;simp[ct]
 ·intro _;have e:qU h1 l (l.length - 1+1)=ft h1 l:=by
   cases l with
   | nil=>rfl
   | cons x r=>exact alI h1 (x::r)
  have aq:decide (((l.length - 1+1:Nat):Int)<(l.length:Int))=false:=by grind
  simp only[List.length_range,aq,Bool.false_eq_true,if_false,e,A.aF]
def Is(x:Int×Int×Int×(bw×a7×Int->A Int)×List bw×Unit):A (List bw×Unit):=A.dP (x.1=0/\x.2.1=(x.2.2.2.2.1.length:Int)/\x.2.2.2.2.1.length<=12/\x.2.2.2.1=l8.sh) (ft h1 x.2.2.2.2.1,())
theorem alP(x):A.le (Xb Iq x) (Is x):=A.bu λh=>by
 obtain⟨a,b,c,f,l,u⟩:=x;obtain⟨E,U,ag,a6⟩:=h;change a=0 at E;change b=(l.length:Int) at U;change l.length<=12 at ag;change f=l8.sh at a6;subst E;subst U;subst a6;unfold Xb;refine A.sc ?_;have hw:=bF (n:=(l.length:Int) - 0) (by omega) (by omega);have aq:decide ((l.length:Int) - 0<=12)=true:=by grind
 simp only[hw,aq,if_true];unfold Iq;simp_all
theorem alQ{n:Int}(h:0<=n)(U:n<=12):IntKind.wrap .u64 n=n:=by
 show (if (false&&decide (n % 2 ^ 64>=(2 ^ (64 - 1):Int)))=true then n % 2 ^ 64 - 2 ^ 64 else n % 2 ^ 64)=n;grind
def yq(x:z1'×Unit):A (z1'×Unit):=A.dP (x.1.length<4611686018427387904) (ft hs x.1,())
def A3(x:(bw×a7×Int->A Int)×List bw×Unit):A (List bw×Unit):=A.dP (x.2.1.length<=12/\x.1=l8.sh) (ft h1 x.2.1,())
theorem alR(x):A.le (Xd OS.sh Is x) (A3 x):=A.bu λh=>by
 obtain⟨f,l,u⟩:=x;obtain⟨h,a6⟩:=h;change l.length<=12 at h;change f=l8.sh at a6;subst a6;unfold Xd;have hw:=alQ (n:=(l.length:Int)) (by omega) (by omega);show A.bind (A.dP (0<=IntKind.wrap .u64 (l.length:Int)/\IntKind.wrap .u64 (l.length:Int)<=12) _) _=_;rw[A.dG,A.bt (by omega)];unfold Is;simp_all
def A4(x:(z1'->Prop)×Unit):A (z1'×Unit):=⟨(∃ L,x.1 L)/\∀ L,x.1 L->L.length<60000,λy=>x.1 y.1⟩
theorem Xq:∀ (L acc:z1'),L.length+acc.length<60000->jQ (λ(D:z1'×Unit) (y:Int)=>A.bind (A.ad (b9 (Add.add (List.length D.1) (Add.add 0 1))) (A.pure (di.normal,D.1++[y],()))) λp=>A.pure (p.1,p.2.1,())) L (acc,())=A.pure (.normal,acc++L,())
 | [],acc,_=>by simp[jQ]
 | x::L,acc,h=>by
  simp only[List.length_cons]at h;unfold jQ;rw[A.bt (fs (by grind))];simp only[A.aF];rw[Xq L (acc++[x]) (by grind)];simp
theorem alS(x):A.le (W4 x) (A4 x):=λh=>by
 obtain⟨S,u⟩:=x;obtain⟨E,U⟩:=h;show A.cu _ _;unfold W4;rw[A.fY];refine⟨E,λL iO=>?_⟩;have iO:S L:=iO;show A.cu (A.bind (jQ _ L ([],())) _) _;rw[Xq L [] (by grind)];simp only[A.aF,sI,List.nil_append];exact A.d_.2 iO
theorem alT(x):A.le (W5 A4 x) (A4 x):=λh=>by
 obtain⟨S,u⟩:=x;show A.cu _ _;unfold W5;rw[A.fY];exact⟨h,λy aR=>A.d_.2 aR⟩
open Classical in
def A5(S:z1'->Prop):z1':=if h:∃ L,S L then ft hs h.choose else []
abbrev s9:aM:=⟨.cq bq,fO,λS=>(∃ L,S L)/\(∀ L e3,S L->S e3->L.Perm e3)/\∀ L,S L->L.length<60000,λS=>A5 S⟩
theorem alU(x):A.le (Ww yq A4 x) (s9.sh x):=A.sX λh=>by
 obtain⟨E,U,ag⟩:=h;unfold Ww;rw[A.fY];refine⟨⟨E,λL iO=>by grind⟩,λy aR=>?_⟩;have aR:x y.1:=aR;unfold yq;show A.cu (A.bind (A.dP _ _) _) _;rw[A.dG,A.kR];refine⟨Nat.lt_trans (ag _ aR) (by decide),A.d_.2 ?_⟩;show ft hs y.1=A5 x;unfold A5;rw[dif_pos E];exact Xn (U _ _ aR E.choose_spec)
theorem alV{S:z1'->Prop}{L:z1'}(h:S L)(U:∀ L e3,S L->S e3->L.Perm e3):A5 S=ft hs L:=by
 have E:∃ L,S L:=⟨L,h⟩
 unfold A5;rw[dif_pos E];exact Xn (U _ _ E.choose_spec h)
def jX{ak:Type}(x:Option (List (Int×ak)))(L:z1'):Prop:=∃ m,x=some m/\(m.map (·.1)).Perm L
abbrev It:aM:=⟨.map bq bq,.cq bq,λ_=>True,λx=>jX (some x)⟩
theorem alW(x):A.le (akR jX x) (It.sh x):=A.bu λ_=>rfl
abbrev yr:aM:=⟨.map bq hq,.cq bq,λ_=>True,λx=>jX (some x)⟩
theorem alX(x):A.le (ak8 jX x) (yr.sh x):=A.bu λ_=>rfl
theorem uL{ak:Type}{m:List (Int×ak)}{L:z1'}:jX (some m) L<->(m.map (·.1)).Perm L:=⟨λ⟨dw,h,k⟩=>by grind,λh=>⟨m,rfl,h⟩⟩
theorem Xr{ak:Type}{m:List (Int×ak)}(h:m.length<60000):s9.pre (jX (some m)):=
 ⟨⟨_,uL.2 (.refl _)⟩,λL e3 E U=>(uL.1 E).symm.trans (uL.1 U),λL iO=>by rw[<-(uL.1 iO).length_eq];grind⟩
theorem Xs{ak:Type}{m:List (Int×ak)}:A5 (jX (some m))=ft hs (m.map (·.1)):=
 alV (uL.2 (.refl _)) λL e3 E U=>(uL.1 E).symm.trans (uL.1 U)
end Go.Fer.H
namespace Go.Fer.H
open A (V)
def s_(s:Int×Int):Bool:=bZ s.1 (-30) s.2&&!decide (s.2 > 30)
def iR(l:z4')(i:Nat):Bool:=bZ (l.getD i (0,0)).1 0 (l.getD i (0,0)).2&&!decide ((l.getD i (0,0)).2 > 9999)&&!(decide (0<i)&&decide ((l.getD i (0,0)).1<=(l.getD (i - 1) (0,0)).2))
def A6(l:z4'):Bool:=(List.range l.length).all (iR l)
def ta(c:a1):Bool:=!(decide ((c.1.length:Int) > 3)||decide ((c.2.1.length:Int) > 12)||decide ((c.2.2.1.length:Int) > 12)||decide ((c.2.2.2.1.length:Int) > 4))&&o6 c.2.2.2.2
def jY(c:a1):Bool:=ta c&&c.1.all s_&&c.2.1.all (lA c.1.length)&&c.2.2.1.all (λn=>bZ n 0 99)&&A6 c.2.2.2.1
abbrev wb:aM:=⟨kp,dj,j6,λc=>jY c⟩
theorem Iu{D aI β:Type}{mk:β->D}{b:β}{q:Bool}{r:aI}{m:A (V D aI)}(E:q=true->m=A.pure (.next (mk b)))(U:q=false->m=A.pure (.done r)):m=A.pure (V.ho mk (if (!q)=true then .done r else .next b)):=by
 cases q
 ·exact U rfl
 ·exact E rfl
theorem Xt{ak:Type}{a t:Bool}{m n:ak}:(if (a||!(if (!a)=true then t else false))=true then m else n)=if (!a&&t)=true then n else m:=by grind
theorem alY(x):A.le (WI cp.sh v_.sh v'.sh x) (wb.sh x):=A.bu λh=>by
 obtain⟨aQ,aV,bK,fz⟩:=h;unfold WI;show _=A.pure (jY x);simp only[aM.sh,v_,A.nQ,A.kn,A.aF,bW,Xt];unfold jY;rw[show (!(decide ((x.1.length:Int) > 3)||decide ((x.2.1.length:Int) > 12)||decide ((x.2.2.1.length:Int) > 12)||decide ((x.2.2.2.1.length:Int) > 4))&&o6 x.2.2.2.2)=ta x from rfl];cases W:ta x with
 | false=>rfl
 | true=>
  rw[if_pos rfl];rw[A.et x.1 (λi (_:Unit)=>((i:Int),x,())) (λy b=>if (!s_ y)=true then .done (.done false) else .next b) (λ_=>.next (x,())) () ?_ ?_ ?_]
  ·rw[k0 (q:=s_) _ _ (λ_=>rfl)];cases hc:x.1.all s_ with
   | false=>simp
   | true=>
    simp only[if_true,A.aF,A.b2];rw[A.et x.2.1 (λi (_:Unit)=>((i:Int),x,())) (λy b=>if (!lA x.1.length y)=true then .done (.done false) else .next b) (λ_=>.next (x,())) () ?_ ?_ ?_]
    ·rw[k0 (q:=lA x.1.length) _ _ (λ_=>rfl)];cases aq:x.2.1.all (lA x.1.length) with
     | false=>simp
     | true=>
      simp only[if_true,A.aF,A.b2];rw[A.et x.2.2.1 (λi (_:Unit)=>((i:Int),x,())) (λy b=>if (!bZ y 0 99)=true then .done (.done false) else .next b) (λ_=>.next (x,())) () ?_ ?_ ?_]
      ·rw[k0 (q:=λn=>bZ n 0 99) _ _ (λ_=>rfl)];cases he:x.2.2.1.all (λn=>bZ n 0 99) with
       | false=>simp
       | true=>
        simp only[if_true,A.aF,A.b2];rw[A.et (List.range x.2.2.2.1.length) (λi (_:Unit)=>((i:Int),x,())) (λy b=>if (!iR x.2.2.2.1 y)=true then .done (.done false) else .next b) (λ_=>.next ()) () ?_ ?_ ?_]
        ·rw[k0 (q:=iR x.2.2.2.1) _ _ (λ_=>rfl)];unfold A6;cases (List.range x.2.2.2.1.length).all (iR x.2.2.2.1)<;>simp
        ·rfl
        ·intro i G b;have G:i<x.2.2.2.1.length:=by grind
         have hw:=bF (n:=(i:Int)+1) (by omega) (by omega);have gX:=bF (n:=(i:Int) - 1) (by omega) (by omega);have jx:x.2.2.2.1.getD i (0,0)=x.2.2.2.1[i]:=by grind
         have tb:(decide ((i:Int) > 0))=decide (0<i):=by simp
         have M:decide (0<i)=true->((0:Int)<=(i:Int) - 1/\(i:Int) - 1<(x.2.2.2.1.length:Int)):=λh=>by grind
         refine Iu (mk:=λ(_:Unit)=>(((i+1:Nat):Int),x,())) (b:=b) ?_ ?_<;>intro bp<;>
         ·simp only[List.getElem_range,iR,jx]at bp;simp only[bW,cX G,if_true,dk G,cH G,A.bn,aM.sh,cp,A.nQ,A.hQ,A.e4,cn,hw,gX,tb,OW,List.getElem_range];revert bp;generalize bZ x.2.2.2.1[i].1 0 x.2.2.2.1[i].2=dr;generalize decide (x.2.2.2.1[i].2 > 9999)=eb;generalize decide (x.2.2.2.1[i].1<=(x.2.2.2.1.getD (i - 1) (0,0)).2)=lH;revert M;generalize decide (0<i)=qj;intro M;cases qj
          ·cases dr<;>cases eb<;>cases lH<;>simp
          ·have M:=M rfl;cases dr<;>cases eb<;>cases lH<;>simp[M,(by omega:(1:Int)<=(i:Int))]
        simp
      ·rfl
      ·intro i G b;have hw:=bF (n:=(i:Int)+1) (by omega) (by omega);simp only[bW,cX G,if_true,dk G,cH G,A.bn,aM.sh,cp,A.nQ,A.aF,cn,hw];exact nj (mk:=λ(_:Unit)=>(((i+1:Nat):Int),x,()))
      simp
    ·rfl
    ·intro i G b;have hw:=bF (n:=(i:Int)+1) (by omega) (by omega);simp only[bW,cX G,if_true,dk G,cH G,A.bn,aM.sh,v',A.od,A.gQ,A.aF,cn,hw];rw[A.bt aQ];exact nj (mk:=λ(_:Unit)=>(((i+1:Nat):Int),x,()))
    simp
  ·rfl
  ·intro i G b;have hw:=bF (n:=(i:Int)+1) (by omega) (by omega);refine Iu (mk:=λ(_:Unit)=>(((i+1:Nat):Int),x,())) (b:=b) ?_ ?_<;>intro bp<;>
   ·simp only[s_]at bp;simp only[bW,cX G,if_true,dk G,cH G,A.bn,aM.sh,cp,A.nQ,A.hQ,A.e4,cn,hw];revert bp;generalize bZ x.1[i].1 (-30) x.1[i].2=dr;generalize decide (x.1[i].2 > 30)=eb;simp_all
  simp
theorem Xu{ak:Type}{p:ak->Bool}(l:List ak):(l.any λy=>!p y)=!l.all p:=by grind
theorem alZ(x):A.le (WH cp.sh (je hq).sh v_.sh (je bq).sh Et.sh A1.sh x) (wb.sh x):=A.bu λh=>by
 obtain⟨aQ,aV,bK,fz⟩:=h;unfold WH;show _=A.pure (jY x);simp only[show v_.sh x.2.2.2.2=A.pure (o6 x.2.2.2.2) from rfl,A.kn,A.aF,bW,Xt];unfold jY;rw[show (!(decide ((x.1.length:Int) > 3)||decide ((x.2.1.length:Int) > 12)||decide ((x.2.2.1.length:Int) > 12)||decide ((x.2.2.2.1.length:Int) > 4))&&o6 x.2.2.2.2)=ta x from rfl];cases W:ta x with
 | false=>rfl
 | true=>
  rw[if_pos rfl];rw[A.et x.1 (λi (_:Unit)=>(x.1,(x.1.length:Int),(i:Int),x,())) (λy b=>if (!s_ y)=true then .done (.done false) else .next b) (λ_=>.next (x,())) () ?_ ?_ ?_]
  ·rw[k0 (q:=s_) _ _ (λ_=>rfl)];cases hc:x.1.all s_ with
   | false=>simp
   | true=>
    simp only[if_true,A.aF,A.b2];rw[A.et (List.range x.2.2.2.1.length) (λi (_:Unit)=>(x.2.2.2.1,(x.2.2.2.1.length:Int),(i:Int),x,())) (λy b=>if (!iR x.2.2.2.1 y)=true then .done (.done false) else .next b) (λ_=>.next (x,())) () ?_ ?_ ?_]
    ·rw[k0 (q:=iR x.2.2.2.1) _ _ (λ_=>rfl)];unfold A6;cases aq:(List.range x.2.2.2.1.length).all (iR x.2.2.2.1) with
     | false=>simp
     | true=>
      simp only[if_true,A.aF,A.b2];have ax:(je hq).sh (x.2.1,λy=>Et.sh (y,some x))=A.pure (!x.2.1.all (lA x.1.length)):=by
       have ar:∀ y,Et.sh (y,some x)=A.pure (!lA x.1.length y):=λy=>A.bO ⟨x,rfl,aQ⟩ _;refine (A.bO ⟨aV,λy _=>⟨_,ar y⟩⟩ _).trans ?_;refine congrArg A.pure ?_;rw[<-Xu];simp_all
      have aO:(je bq).sh (x.2.2.1,A1.sh)=A.pure (!x.2.2.1.all (λn=>bZ n 0 99)):=by
       refine (A.bO ⟨bK,λy _=>⟨_,rfl⟩⟩ _).trans ?_;refine congrArg A.pure ?_;rw[<-Xu];show (x.2.2.1.any λy=>(A1.sh y).val false)=_;simp only[show ∀ y,A1.sh y=A.pure (!bZ y 0 99) from λ_=>rfl,A.e4]
      rw[ax,aO];simp only[A.aF,A.kn];grind
    ·rfl
    ·intro i G b;have G:i<x.2.2.2.1.length:=by grind
     have hw:=bF (n:=(i:Int)+1) (by omega) (by omega);have gX:=bF (n:=(i:Int) - 1) (by omega) (by omega);have jx:x.2.2.2.1.getD i (0,0)=x.2.2.2.1[i]:=by grind
     have tb:(decide ((i:Int) > 0))=decide (0<i):=by simp
     have M:decide (0<i)=true->((0:Int)<=(i:Int) - 1/\(i:Int) - 1<(x.2.2.2.1.length:Int)):=λh=>by grind
     refine Iu (mk:=λ(_:Unit)=>(x.2.2.2.1,(x.2.2.2.1.length:Int),((i+1:Nat):Int),x,())) (b:=b) ?_ ?_<;>intro bp<;>
     ·simp only[List.getElem_range,iR,jx]at bp;simp only[bW,cX G,if_true,dk G,cH G,A.bn,aM.sh,cp,A.nQ,A.hQ,A.e4,cn,hw,gX,tb,OW,List.getElem_range];revert bp;generalize bZ x.2.2.2.1[i].1 0 x.2.2.2.1[i].2=dr;generalize decide (x.2.2.2.1[i].2 > 9999)=eb;generalize decide (x.2.2.2.1[i].1<=(x.2.2.2.1.getD (i - 1) (0,0)).2)=lH;revert M;generalize decide (0<i)=qj;intro M;cases qj
      ·cases dr<;>cases eb<;>cases lH<;>simp
      ·have M:=M rfl;cases dr<;>cases eb<;>cases lH<;>simp[M,(by omega:(1:Int)<=(i:Int))]
    simp
  ·rfl
  ·intro i G b;have hw:=bF (n:=(i:Int)+1) (by omega) (by omega);refine Iu (mk:=λ(_:Unit)=>(x.1,(x.1.length:Int),((i+1:Nat):Int),x,())) (b:=b) ?_ ?_<;>intro bp<;>
   ·simp only[s_]at bp;simp only[bW,cX G,if_true,dk G,cH G,A.bn,aM.sh,cp,A.nQ,A.aF,cn,hw];grind
  simp
abbrev iS:a7:=(0,0,0,0,0,0)
def k6(l:List a7):Bool:=(List.range l.length).any λi=>(List.range i).any λk=>uJ (l.getD k iS) (l.getD i iS)
def cN(c:a1):Int:=if jY c=true then (if k6 c.2.1=true then 91 else 0) else 90
abbrev h2:aM:=⟨kp,bq,j6,λc=>cN c⟩
theorem tc{ak:Type}{l:List ak}{i:Nat}{d:ak}(h:i<l.length):l.getD i d=l[i]:=by grind
theorem al0(x):A.le (Wp wb.sh Il.sh x) (h2.sh x):=A.bu λh=>by
 obtain⟨aQ,aV,bK,fz⟩:=id h;unfold Wp;show _=A.pure (cN x);rw[show wb.sh x=A.pure (jY x) from A.bO h _];unfold cN;cases jY x with
 | false=>simp
 | true=>
  simp only[A.aF,Bool.not_true,Bool.false_eq_true,if_false,if_true];rw[A.et (List.range x.2.1.length) (λi (_:Unit)=>((i:Int),x,())) (λi b=>if ((List.range i).any λk=>uJ (x.2.1.getD k iS) (x.2.1.getD i iS))=true then .done (.done 91) else .next b) (λ_=>.next ()) () ?_ ?_ ?_]
  ·rw[rU];unfold k6;cases (List.range x.2.1.length).any λi=>(List.range i).any λk=>uJ (x.2.1.getD k iS) (x.2.1.getD i iS)<;>simp
  ·rfl
  ·intro i G b;have G:i<x.2.1.length:=by grind
   have hw:=bF (n:=(i:Int)+1) (by omega) (by omega);have aq:decide ((i:Int)<Int.ofNat x.2.1.length)=true:=cX G;simp only[aq,if_true,List.getElem_range];rw[A.et (List.range i) (λk (_:Unit)=>((i:Int),(k:Int),x,())) (λk b=>if uJ (x.2.1.getD k iS) (x.2.1.getD i iS)=true then .done (.done (.done (.done 91))) else .next b) (λ_=>(.next ((i:Int),x,()):V (Int×a1×Unit) (V (Int×a1×Unit) (V Unit Int)))) () ?_ ?_ ?_]
   ·rw[rU];cases (List.range i).any λk=>uJ (x.2.1.getD k iS) (x.2.1.getD i iS)<;>simp[hw]
   ·rfl
   ·intro k al b;have al:k<i:=by grind
    have wc:k<x.2.1.length:=by omega
    have hw:=bF (n:=(k:Int)+1) (by omega) (by omega);have aq:decide ((k:Int)<(i:Int))=true:=by grind
    simp only[aq,if_true,bW,cH wc,cH G,A.bn,aM.sh,Il,A.nQ,A.hQ,A.e4,A.aF,cn,hw,List.getElem_range,Xo];exact nj (mk:=λ(_:Unit)=>((i:Int),((k+1:Nat):Int),x,()))
   simp
  simp
def gZ(l:List a7):List a7:=(ee 0 99).filterMap λid=>l.find? λs=>s.1 == id
def fk(c:a1):List a7:=(gZ c.2.1).filter λs=>!c.2.2.1.contains s.1
theorem al1(l:List a7):(gZ l).length<=100:=by
 refine Nat.le_trans (List.length_filterMap_le _ _) ?_;rw[show (ee 0 99).length=100 from by decide];omega
def jy(m:List (Int×a7))(k:Int):Option a7:=(m.find? λp=>decide (k=p.1)).map (·.2)
def jf(m:List (Int×a7)):z1':=m.map (·.1)
theorem OX(p:Int×a7)(m:List (Int×a7))(k:Int)(v:a7):k2 (p::m) k v=if decide (k=p.1)=true then (p.1,v)::m else p::k2 m k v:=rfl
theorem OY(k:Int)(v:a7):k2 [] k v=[(k,v)]:=rfl
theorem Xv(k:Int)(v:a7):∀ m:List (Int×a7),(k2 m k v).length<=m.length+1
 | []=>by rw[OY];simp
 | p::m=>by
  rw[OX];split
  ·simp
  ·simp;exact Xv k v m
theorem OZ(k:Int)(v:a7)(x:Int):∀ m:List (Int×a7),jy (k2 m k v) x=if x=k then some v else jy m x
 | []=>by
  rw[OY];by_cases h:x=k<;>simp[jy,h]
 | p::m=>by
  rw[OX];have aH:=OZ k v x m;unfold jy at aH ⊢;grind
theorem Ev(k:Int)(v:a7):∀ m:List (Int×a7),((jf m).Nodup->(jf (k2 m k v)).Nodup)/\∀ x,x∈jf (k2 m k v)<->x∈jf m\/x=k
 | []=>by rw[OY];simp[jf]
 | p::m=>by
  obtain⟨E,U⟩:=Ev k v m;rw[OX];by_cases h:k=p.1
  ·subst h;simp only[decide_true,if_true];refine⟨λh=>h,λx=>?_⟩;show x∈p.1::jf m<->x∈p.1::jf m\/x=p.1;grind
  ·simp only[h,decide_false,Bool.false_eq_true,if_false];refine⟨λau=>?_,λx=>?_⟩
   ·show (p.1::jf (k2 m k v)).Nodup;have C2:(p.1::jf m).Nodup:=au;grind
   ·show x∈p.1::jf (k2 m k v)<->x∈p.1::jf m\/x=k;grind
theorem Xw{m:List (Int×a7)}{k:Int}:k∈jf m<->(jy m k).isSome=true:=by
 unfold jy jf;simp
def A7(l:List a7):Prop:=∀ a∈l,∀ b∈l,a.1=b.1->a=b
def qV(l:List a7)(k:Int):Option a7:=l.find? λs=>s.1 == k
def rX:List a7->List (Int×a7)->Option (List (Int×a7))
 | [],m=>some m
 | s::l,m=>if ((jy m s.1).isSome&&!decide ((jy m s.1).getD iS=s))=true then none else rX l (k2 m s.1 s)
structure uM(P:List a7)(m:List (Int×a7)):Prop where
 o2:∀ k,jy m k=qV P k
 mE:(jf m).Nodup
 A8:A7 P
 Ew:m.length<=P.length
theorem Xx{l:List a7}{k:Int}{s:a7}(h:qV l k=some s):s∈l/\s.1=k:=by
 unfold qV at h;grind
theorem al2{l:List a7}{k:Int}(h:qV l k=none):∀ s∈l,s.1≠k:=by
 unfold qV at h;grind
theorem uM.nil:uM [] []:=⟨λ_=>rfl,.nil,λa h=>by simp,Nat.le_refl _⟩
theorem A9:∀ (l P:List a7) (m:List (Int×a7)),uM P m->(A7 (P++l)->∃ dw,rX l m=some dw/\uM (P++l) dw)/\(¬A7 (P++l)->rX l m=none)
 | [],P,m,h=>by simp only[List.append_nil];exact⟨λ_=>⟨m,rfl,h⟩,λau=>absurd h.A8 au⟩
 | s::l,P,m,h=>by
  unfold rX;rw[h.o2];cases ar:qV P s.1 with
  | some o=>
   obtain⟨af,G⟩:=Xx ar;by_cases he:o=s
   ·subst he;simp only[Option.isSome_some,Option.getD_some,decide_true,Bool.not_true,Bool.and_false,Bool.false_eq_true,if_false];have:=A9 l (P++[o]) (k2 m o.1 o) ⟨λk=>?_,(Ev _ _ _).1 h.mE,?_,?_⟩
    ·grind
    ·rw[OZ,h.o2];unfold qV at ar ⊢;grind
    ·intro a a8 b W we;simp only[List.mem_append,List.mem_singleton]at a8 W;exact h.A8 a (a8.elim id λe=>e ▸ af) b (W.elim id λe=>e ▸ af) we
    ·have hm:o.1∈jf m:=Xw.2 (by rw[h.o2,ar];rfl);have ai:(jf (k2 m o.1 o)).length<=(jf m).length:=by
      have E:=(Ev o.1 o m).1 h.mE;have U:jf (k2 m o.1 o) ⊆ jf m:=λx ah=>by
       rcases ((Ev o.1 o m).2 x).1 ah with ah | ah
       ·exact ah
       ·exact ah ▸ hm
      exact E.length_le_of_subset U
     have:=h.Ew;simp only[jf,List.length_map]at ai;grind
   ·simp only[Option.isSome_some,Option.getD_some,he,decide_false,Bool.not_false,Bool.and_self,if_true];refine⟨λau=>absurd (au o (by grind) s (by simp) G) he,λ_=>trivial⟩
  | none=>
   simp only[Option.isSome_none,Bool.false_and,Bool.false_eq_true,if_false];have:=A9 l (P++[s]) (k2 m s.1 s) ⟨λk=>?_,(Ev _ _ _).1 h.mE,?_,?_⟩
   ·grind
   ·rw[OZ,h.o2];have rL:=ar;unfold qV at ar ⊢;grind
   ·have ar:=al2 ar;intro a a8 b W we;simp only[List.mem_append,List.mem_singleton]at a8 W;rcases a8 with a8 | rfl<;>rcases W with W | rfl
    ·exact h.A8 a a8 b W we
    ·exact absurd we (ar a a8)
    ·exact absurd we.symm (ar b W)
    ·rfl
   ·have:=Xv s.1 s m;have:=h.Ew;grind
theorem A_(l:List a7):k6 l=false<->A7 l:=by
 unfold k6 uJ;rw[<-Bool.not_eq_true,List.any_eq_true];constructor
 ·intro h a a8 b W we;obtain⟨i,G,rfl⟩:=List.mem_iff_getElem.1 a8;obtain⟨k,al,rfl⟩:=List.mem_iff_getElem.1 W;by_cases he:l[i]=l[k]
  ·exact he
  ·exfalso;have eB:i≠k:=λe=>he (by grind);rcases Nat.lt_or_gt_of_ne eB with cj | cj
   ·refine h ⟨k,by grind,List.any_eq_true.2 ⟨i,by grind,?_⟩⟩;grind
   ·refine h ⟨i,by grind,List.any_eq_true.2 ⟨k,by grind,?_⟩⟩;grind
 ·rintro h ⟨i,G,al⟩;obtain⟨k,al,hc⟩:=List.any_eq_true.1 al;simp only[List.mem_range]at G al;rw[tc G,tc (by omega:k<l.length)]at hc;simp only[Bool.and_eq_true,decide_eq_true_eq,Bool.not_eq_true',decide_eq_false_iff_not]at hc;exact hc.2 (h _ (List.getElem_mem _) _ (List.getElem_mem _) hc.1)
theorem al3{l:List a7}:k6 l=true<->¬A7 l:=by rw[<-A_];simp
theorem Xy{l:List a7}{m:List (Int×a7)}(h:uM l m)(hid:∀ s∈l,bZ s.1 0 99=true):(ft hs (jf m)).map (λk=>(jy m k).getD iS)=gZ l:=by
 have ax:ft hs (jf m)=(ee 0 99).filter λk=>(qV l k).isSome:=by
  refine A2 ?_ ?_
  ·refine List.Pairwise.filter _ ?_;unfold ee;rw[List.pairwise_map];exact (List.pairwise_lt_range).imp λh=>by omega
  ·refine (List.perm_ext_iff_of_nodup h.mE ?_).2 λk=>?_
   ·refine List.Pairwise.filter _ ?_;unfold ee;rw[List.pairwise_map];exact (List.pairwise_lt_range).imp λh=>by omega
   ·rw[Xw,h.o2,List.mem_filter,pT];refine⟨λaD=>⟨?_,aD⟩,λaD=>aD.2⟩;obtain⟨s,aD⟩:=Option.isSome_iff_exists.1 aD;obtain⟨E,U⟩:=Xx aD;exact U ▸ og.1 (hid s E)
 rw[ax];unfold gZ;have:∀ L:z1',(L.filter λk=>(qV l k).isSome).map (λk=>(jy m k).getD iS)=L.filterMap λid=>l.find? λs=>s.1 == id:=by
  intro L;induction L with
  | nil=>rfl
  | cons k L aH=>
   rw[List.filter_cons,List.filterMap_cons];have e:(l.find? λs=>s.1 == k)=qV l k:=rfl;rw[e];cases ar:qV l k with
   | none=>grind
   | some s=>
    have ij:(jy m k).getD iS=s:=by rw[h.o2,ar];rfl
    grind
 grind
theorem al4{l:List a7}{m:List (Int×a7)}(h:uM l m)(hid:∀ s∈l,bZ s.1 0 99=true):(gZ l).length<=l.length:=by
 rw[<-Xy h hid,List.length_map,Ip,jf,List.length_map];exact h.Ew
theorem Xz{aI:Type}{r:aI}{fin:List (Int×a7)->aI}:∀ (l:List a7) (m:List (Int×a7)),eX (λs m=>if ((jy m s.1).isSome&&!decide ((jy m s.1).getD iS=s))=true then .done r else .next (k2 m s.1 s)) fin l m=match rX l m with | none=>r | some dw=>fin dw
 | [],m=>rfl
 | s::l,m=>by
  simp only[eX,rX];by_cases h:((jy m s.1).isSome&&!decide ((jy m s.1).getD iS=s))=true
  ·grind
  ·simp only[h,Bool.false_eq_true,if_false];exact Xz l _
def wg(l:List a7):Prop:=l.length<=24/\∀ s∈l,bZ s.1 0 99=true
abbrev A':aM:=⟨.slice hq,.az (.slice hq) .bool,wg,λl=>if k6 l=true then ([],false) else (gZ l,true)⟩
theorem al5{m:List (Int×a7)}{yt:z1'}{aI:Type}(h:yt.length<=24) :
 A.loop (λ(D:z1'×Int×Int×List a7×List (Int×a7)×Unit)=>if decide (D.2.2.1<D.2.1)=true then A.ad (0<=D.2.2.1/\D.2.2.1<Int.ofNat (List.length D.1)) (A.ad (b9
 (Add.add (List.length D.2.2.2.1) (Add.add 0 1))) (A.pure (V.next (D.1,D.2.1,IntKind.wrap .i64 (Add.add D.2.2.1 1),D.2.2.2.1++[Option.getD
 (Option.map (λx=>x.2) (List.find? (λp=>decide (List.getD D.1 (Int.toNat D.2.2.1) 0=p.1)) D.2.2.2.2.1)) (0,0,0,0,0,0)],D.2.2.2.2.1,())))) else A.bind (A.pure (V.next (D.2.2.2.1,()))) λr=>A.pure (V.done r)) (yt,Int.ofNat (List.length yt),0,[],m,())=A.pure (V.next (yt.map (λk=>(jy m k).getD iS),()):V (List a7×Unit) aI):=by
 rw[A.gv yt (λi (b:List a7)=>(yt,(yt.length:Int),(i:Int),b,m,())) (λk b=>.next (b++[(jy m k).getD iS])) (λb=>.next (b,())) (λi b=>b.length=i) [] ?_ ?_ ?_ ?_]
 ·rw[fr,yf];rfl
 ·rfl
 ·rfl
 ·intro i G b W;have hw:=bF (n:=(i:Int)+1) (by omega) (by omega);refine⟨?_,λbd dd=>?_⟩
  ·simp only[bW,cX G,if_true,dk G,cH G,A.bn,cn,hw];rw[A.bt (fs (by grind))];rfl
  grind
 simp
def td{gA:Type}(R:A gA):List a7×Int×Int×List (Int×a7)×Unit->A (V (List a7×Int×Int×List (Int×a7)×Unit) (V (List (Int×a7)×Unit) gA)):=λ(D:List a7×Int×Int×List (Int×a7)×Unit)=>if decide (D.2.2.1<D.2.1)=true then A.ad (0<=D.2.2.1/\D.2.2.1 <
 Int.ofNat (List.length D.1)) (if (Option.isSome (Option.map (λx=>x.2) (List.find? (λp=>decide ((List.getD D.1 (Int.toNat D.2.2.1) (0,0,0,0,0,0)).1=p.1)) D.2.2.2.1))&&!(decide ((Option.getD (Option.map (λx=>x.2) (List.find? (λp=>decide ((List.getD D.1 (Int.toNat D.2.2.1)
 (0,0,0,0,0,0)).1=p.1)) D.2.2.2.1)) (0,0,0,0,0,0)).1=(List.getD D.1 (Int.toNat D.2.2.1) (0,0,0,0,0,0)).1)&&(decide ((Option.getD
 (Option.map (λx=>x.2) (List.find? (λp=>decide ((List.getD D.1 (Int.toNat D.2.2.1) (0,0,0,0,0,0)).1=p.1)) D.2.2.2.1)) (0,0,0,0,0,0)).2.1=(List.getD D.1 (Int.toNat D.2.2.1) (0,0,0,0,0,0)).2.1)&&(decide ((Option.getD (Option.map (λx=>x.2) (List.find? (λp=>
 decide ((List.getD D.1 (Int.toNat D.2.2.1) (0,0,0,0,0,0)).1=p.1)) D.2.2.2.1)) (0,0,0,0,0,0)).2.2.1=(List.getD D.1 (Int.toNat D.2.2.1)
 (0,0,0,0,0,0)).2.2.1)&&(decide ((Option.getD (Option.map (λx=>x.2) (List.find? (λp=>decide ((List.getD D.1 (Int.toNat D.2.2.1) (0,0,0,0,0,0)).1=p.1)) D.2.2.2.1)) (0,0,0,0,0,0)).2.2.2.1=(List.getD D.1 (Int.toNat D.2.2.1) (0,0,0,0,0,0)).2.2.2.1)&&(decide
 ((Option.getD (Option.map (λx=>x.2) (List.find? (λp=>decide ((List.getD D.1 (Int.toNat D.2.2.1) (0,0,0,0,0,0)).1=p.1)) D.2.2.2.1))
 (0,0,0,0,0,0)).2.2.2.2.1=(List.getD D.1 (Int.toNat D.2.2.1) (0,0,0,0,0,0)).2.2.2.2.1)&&decide ((Option.getD (Option.map (λx=>x.2)
 (List.find? (λp=>decide ((List.getD D.1 (Int.toNat D.2.2.1) (0,0,0,0,0,0)).1=p.1)) D.2.2.2.1)) (0,0,0,0,0,0)).2.2.2.2.2=(List.getD
 D.1 (Int.toNat D.2.2.1) (0,0,0,0,0,0)).2.2.2.2.2)))))))=true then A.bind (A.bind R λr=>A.pure (V.done r)) λr=>
 A.pure (V.done r) else A.pure (V.next (D.1,D.2.1,IntKind.wrap .i64 (Add.add D.2.2.1 1),k2 D.2.2.2.1 (List.getD D.1 (Int.toNat D.2.2.1)
 (0,0,0,0,0,0)).1 (List.getD D.1 (Int.toNat D.2.2.1) (0,0,0,0,0,0)),()))) else A.bind (A.pure (V.next (D.2.2.2.1,()))) λr=>A.pure
 (V.done r)
theorem XA{gA:Type}{R:A gA}{l:List a7}(ai:l.length<=24){i:Nat}(G:i<l.length)(m:List (Int×a7)):td R (l,(l.length:Int),(i:Int),m,())=if ((jy m l[i].1).isSome&&!decide ((jy m l[i].1).getD iS=l[i]))=true then A.bind (A.bind R λr=>A.pure (V.done r)) λr=>A.pure (V.done r) else A.pure (.next (l,(l.length:Int),((i+1:Nat):Int),k2 m l[i].1 l[i],())):=by
 have hw:=bF (n:=(i:Int)+1) (by omega) (by omega);have es:=Xe ((jy m l[i].1).getD iS) l[i];unfold td;simp only[bW,cX G,if_true,dk G,cH G,A.bn,cn,hw];rw[show (Option.map (λx=>x.2) (List.find? (λp=>decide (l[i].1=p.1)) m))=jy m l[i].1 from rfl];grind
theorem XB{gA:Type}{R:A gA}{l:List a7}(m:List (Int×a7)):td R (l,(l.length:Int),(l.length:Int),m,())=A.pure (.done (.next (m,()))):=by
 unfold td;simp
def Ba{gA:Type}(k:List a7->A gA):List (Int×a7)×Unit->A gA:=λ(D:List (Int×a7)×Unit)=>A.bind (A.bind
 (yr.sh D.1) λy=>A.bind (s9.sh y) λy=>A.loop (λ(D:z1'×Int×Int×List a7×
 List (Int×a7)×Unit)=>if decide (D.2.2.1<D.2.1)=true then A.ad (0<=D.2.2.1/\D.2.2.1<Int.ofNat (List.length D.1)) (A.ad (b9
 (Add.add (List.length D.2.2.2.1) (Add.add 0 1))) (A.pure (V.next (D.1,D.2.1,IntKind.wrap .i64 (Add.add D.2.2.1 1),D.2.2.2.1++[Option.getD
 (Option.map (λx=>x.2) (List.find? (λp=>decide (List.getD D.1 (Int.toNat D.2.2.1) 0=p.1)) D.2.2.2.2.1)) (0,0,0,0,0,0)],D.2.2.2.2.1,())))) else A.bind (A.pure (V.next (D.2.2.2.1,()))) λr=>A.pure (V.done r)) (y,Int.ofNat (List.length y),0,[],D.1,())) (V.bD λ(D
 : List a7×Unit)=>k D.1)
theorem al6{l:List a7}{m:List (Int×a7)}(ez:uM l m)(hid:wg l){gA:Type}(k:List a7->A gA):Ba k (m,())=k (gZ l):=by
 obtain⟨ai,hid⟩:=hid;have an:s9.pre (jX (some m)):=Xr (by have:=ez.Ew;omega);have e:s9.sh (jX (some m))=A.pure (ft hs (jf m)):=by
  refine (A.bO an _).trans (congrArg A.pure ?_);exact Xs
 unfold Ba;show A.bind (A.bind (yr.sh m) _) _=_;rw[show yr.sh m=A.pure (jX (some m)) from rfl,A.aF,e,A.aF,al5 (by rw[Ip,jf,List.length_map];have:=ez.Ew;omega),A.aF,A.b2,Xy ez hid]
theorem XC(l:List a7)(h:wg l)(hc:k6 l=false){gA:Type}(k:List a7->A gA)(R:A gA) :
  A.bind (A.loop (td R) (l,Int.ofNat (List.length l),0,[],())) (V.bD (Ba k))=k (gZ l):=by
 have au:=(A_ l).1 hc;obtain⟨E,_⟩:=A9 l [] [] .nil;rw[List.nil_append]at E;obtain⟨m,hm,ez⟩:=E au;have key:A.loop (td R) (l,Int.ofNat (List.length l),0,[],())=A.pure (.next (m,())):=by
  have gen:∀ (k:Nat) (i:Nat) (dw:List (Int×a7)),l.length - i=k->i<=l.length->rX (l.drop i) dw=some m->uM (l.take i) dw->A.loop (td R) (l,(l.length:Int),(i:Int),dw,())=A.pure (.next (m,())):=by
   intro k;induction k with
   | zero=>
    intro i dw al G af _;have:i=l.length:=by omega
    subst this;rw[List.drop_length]at af;simp only[rX,Option.some.injEq]at af;subst af;exact A.sc (XB _)
   | succ k aH=>
    intro i dw al G af NH;have G:i<l.length:=by omega
    rw[List.drop_eq_getElem_cons G]at af;unfold rX at af;split at af
    ·cases af
    ·rename_i Gr;refine (A.zo ((XA h.1 G dw).trans (if_neg Gr))).trans ?_;refine aH (i+1) _ (by omega) G af ?_;obtain⟨g1,_⟩:=A9 [l[i]] (l.take i) dw NH;have p1:l.take i++[l[i]]=l.take (i+1):=by simp
     rw[p1]at g1;obtain⟨ayK,ax,aO⟩:=g1 λa a8 b W=>au a (List.mem_of_mem_take a8) b (List.mem_of_mem_take W);unfold rX at ax;rw[if_neg Gr]at ax;simp only[rX,Option.some.injEq]at ax;grind
  exact gen l.length 0 [] rfl (Nat.zero_le _) hm .nil
 rw[key,A.aF,A.b2,al6 ez h]
theorem al7(l:List a7)(h:wg l)(hc:k6 l=true){gA:Type}(k:List a7->A gA)(r:gA) :
  A.bind (A.loop (td (A.pure r)) (l,Int.ofNat (List.length l),0,[],())) (V.bD (Ba k))=A.pure r:=by
 rw[A.et l (λi (m:List (Int×a7))=>(l,(l.length:Int),(i:Int),m,())) (λs m=>if ((jy m s.1).isSome&&!decide ((jy m s.1).getD iS=s))=true then (.done (.done r):V (List (Int×a7)) (V (List (Int×a7)×Unit) _)) else .next (k2 m s.1 s)) (λm=>.next (m,())) [] ?_ ?_ ?_]
 ·rw[Xz];obtain⟨_,U⟩:=A9 l [] [] .nil;rw[U (al3.1 hc)];simp
 ·rfl
 ·intro i G m;rw[XA h.1 G m,A.aF,A.aF];exact Vz (mk:=λ(m:List (Int×a7))=>(l,(l.length:Int),((i+1:Nat):Int),m,()))
 ·intro m;exact XB m
theorem al8(x):A.le (ak1 s9.sh yr.sh x) (A'.sh x):=A.bu λh=>by
 show A.bind (A.loop (td (A.pure ([],false))) (x,Int.ofNat (List.length x),0,[],())) (V.bD (Ba λa=>A.pure (a,true)))=A.pure (if k6 x=true then ([],false) else (gZ x,true));cases hc:k6 x with
 | true=>exact al7 x h hc _ _
 | false=>exact XC x h hc _ _
def Iv(x:List a7×Unit):A (Bool×List a7×Unit):=A.dP (wg x.1/\k6 x.1=false) (true,gZ x.1,())
theorem al9(x):A.le (alc s9.sh yr.sh x) (Iv x):=A.bu λh=>by
 show A.bind (A.loop (td (A.pure (false,[],()))) (x.1,Int.ofNat (List.length x.1),0,[],())) (V.bD (Ba λa=>A.pure (true,a,())))=_;exact XC x.1 h.1 h.2 _ _
theorem Iw{c:a1}(h:jY c=true):wg c.2.1:=by
 unfold jY ta at h;simp only[Bool.and_eq_true,List.all_eq_true,Bool.not_eq_true',Bool.or_eq_false_iff,decide_eq_false_iff_not]at h;obtain⟨⟨⟨⟨⟨bj,_⟩,_⟩,U⟩,_⟩,_⟩:=h;refine⟨by omega,λs aD=>?_⟩;have:=U s aD;unfold lA at this;grind
theorem al_(x):A.le (Wo wb.sh A'.sh x) (h2.sh x):=A.bu λh=>by
 unfold Wo;show _=A.pure (cN x);rw[show wb.sh x=A.pure (jY x) from A.bO h _];unfold cN;cases hc:jY x with
 | false=>simp
 | true=>
  simp only[A.aF,Bool.not_true,Bool.false_eq_true,if_false,if_true];rw[show A'.sh x.2.1=A.pure (if k6 x.2.1=true then ([],false) else (gZ x.2.1,true)) from A.bO (Iw hc) _];cases k6 x.2.1<;>simp
def Ix(x:(a7->A Bool)×List a7×Unit):A ((Nat×Nat)×List a7×Unit):=A.dP (x.2.1.length<2 ^ 63/\∀ y∈x.2.1,∃ b,x.1 y=A.pure b)
 ((0,(x.2.1.filter λs=>!(x.1 s).val false).length),(x.2.1.filter λs=>!(x.1 s).val false)++List.replicate (x.2.1.length - (x.2.1.filter λs=>!(x.1 s).val false).length) iS,())
theorem XD{ak:Type}(p:ak->Bool):∀ (l:List ak) (i:Int),(l.any p=true->∃ k:Nat,∃ h:k<l.length,hP p l i=i+k/\p l[k]=true/\(∀ y∈l.take k,p y=false))
 | [],i,h=>by grind
 | x::l,i,h=>by
  unfold hP;by_cases ah:p x=true
  ·grind
  ·have nW:p x=false:=by grind
   simp only[List.any_cons,nW,Bool.false_or]at h;obtain⟨k,al,E,U,ag⟩:=XD p l (i+1) h;refine⟨k+1,by grind,by grind,by grind,?_⟩;grind
theorem al'(x):A.le (W6 (k5 hq).sh x) (Ix x):=A.bu λh=>by
 obtain⟨f,l,u⟩:=x;obtain⟨E,U⟩:=h;change l.length<2 ^ 63 at E;change ∀ y∈l,∃ b,f y=A.pure b at U;unfold W6;rw[show (k5 hq).sh (l,f)=A.pure (hP (λy=>(f y).val false) l 0) from A.bO ⟨E,U⟩ _];rw[A.aF];by_cases a8:(l.any λy=>(f y).val false)=true
 ·obtain⟨k,al,ax,aO,cv⟩:=XD (λy=>(f y).val false) l 0 a8;have hw:=bF (n:=(k:Int)+1) (by omega) (by omega);have eB:¬(decide ((0:Int)+k=-1)=true):=by simp
  rw[ax,if_neg eB];generalize bp:(λs=>!(f s).val false)=q at *
  have ama:∀ s,(!(f s).val false)=q s:=λs=>by grind
  have p1:l.take k=(l.take k).filter q:=by
   rw[List.filter_eq_self.2];grind
  have Ir:(l.take (k+1)).filter q=l.take k:=by
   rw[List.take_add_one,List.getElem?_eq_getElem al,Option.toList_some,List.filter_append,<-p1];grind
  rw[A.et (l.drop (k+1)) (λi (_:Unit)=>(f,(((l.take (k+1+i)).filter q).length:Int),((k+1+i:Nat):Int),(l.take (k+1+i)).filter q++l.drop ((l.take (k+1+i)).filter q).length,())) (λ_ u=>.next u) (λ_=>.next (((l.filter q).length:Int),l.filter q++l.drop (l.filter q).length,())) () ?_ ?_ ?_]
  ·rw[fr];have hlen:(l.filter q).length<=l.length:=List.length_filter_le _ _;have gq:(l.filter q++l.drop (l.filter q).length).length=l.length:=by grind
   simp only[A.aF,A.b2,bW,gq];rw[A.bt (by omega)];simp only[A.bn,Int.toNat_natCast];have Ex:List.take (l.filter q).length (l.filter q++l.drop (l.filter q).length)=l.filter q:=List.take_left;rw[Ex];refine (A.bt ⟨by omega,by omega,by grind⟩ _).trans ?_;refine congrArg A.pure (Prod.ext rfl (Prod.ext ?_ rfl));show (_++_++_:List a7)=_;exact (congrArg (λz=>_++z) (List.drop_eq_nil_iff.2 (by simp))).trans (List.append_nil _)
  ·show (f,(0:Int)+k,IntKind.wrap .i64 (Add.add ((0:Int)+k) 1),l,())=_;rw[Int.zero_add,cn,hw];refine Prod.ext rfl (Prod.ext ?_ (Prod.ext ?_ (Prod.ext ?_ rfl)))
   ·grind
   ·rfl
   ·show l=(l.take (k+1+0)).filter q++l.drop ((l.take (k+1+0)).filter q).length;rw[Nat.add_zero,Ir,List.length_take,Nat.min_eq_left (by omega),List.take_append_drop]
  ·intro i G _;have G:k+1+i<l.length:=by grind
   have hle:((l.take (k+1+i)).filter q).length<=k+i:=by
    have E:=List.length_filter_le q (l.drop (k+1) |>.take i);rw[List.take_add,List.filter_append,List.length_append,Ir];grind
   have cj:((l.take (k+1+i)).filter q).length<l.length:=by omega
   have lT:((l.take (k+1+i)).filter q++l.drop ((l.take (k+1+i)).filter q).length).length=l.length:=by grind
   have hw:=bF (n:=((k+1+i:Nat):Int)+1) (by omega) (by omega);have gX:=bF (n:=(((l.take (k+1+i)).filter q).length:Int)+1) (by omega) (by omega);have dz:k+1+i<((l.take (k+1+i)).filter q++l.drop ((l.take (k+1+i)).filter q).length).length:=by omega
   have CK:((l.take (k+1+i)).filter q).length<((l.take (k+1+i)).filter q++l.drop ((l.take (k+1+i)).filter q).length).length:=by omega
   have jx:((l.take (k+1+i)).filter q++l.drop ((l.take (k+1+i)).filter q).length)[k+1+i]=l[k+1+i]:=by
    rw[List.getElem_append_right (by omega),List.getElem_drop];congr 1;omega
   obtain⟨b,W⟩:=U _ (List.getElem_mem G);have ae:q l[k+1+i]=!b:=by rw[<-ama,W,A.e4]
   have p1:(l.take (k+1+(i+1))).filter q=(l.take (k+1+i)).filter q++(if (!b)=true then [l[k+1+i]] else []):=by
    rw[show k+1+(i+1)=k+1+i+1 from rfl,List.take_add_one,List.getElem?_eq_getElem G,Option.toList_some,List.filter_append,List.filter_cons,ae,List.filter_nil]
   simp only[bW,cX dz,if_true,dk dz,cH dz,cH CK,A.bn,jx,W,A.aF,cn,gX];simp only[Int.toNat_natCast];cases b with
   | true=>
    simp only[Bool.not_true,Bool.false_eq_true,if_false,A.aF,A.b2,hw,V.ho,List.append_nil]at p1 ⊢;grind
   | false=>
    simp only[Bool.not_false,if_true,A.aF,A.b2,hw,V.ho]at p1 ⊢;have es:(List.filter q (List.take (k+1+i) l)++List.drop (List.filter q (List.take (k+1+i) l)).length l).set (List.filter q (List.take (k+1+i) l)).length l[k+1+i]=(l.take (k+1+(i+1))).filter q++l.drop ((l.take (k+1+(i+1))).filter q).length:=by
     rw[p1,List.set_append_right _ _ (Nat.le_refl _),Nat.sub_self,List.drop_eq_getElem_cons cj,List.set_cons_zero];simp
    rw[es];have M8:(((l.take (k+1+i)).filter q).length:Int)+1=(((l.take (k+1+(i+1))).filter q).length:Int):=by grind
    grind
  ·intro _;have ai:(l.drop (k+1)).length=l.length - (k+1):=by simp
   have bE:k+1+(l.drop (k+1)).length=l.length:=by omega
   have hle:(l.filter q).length<=l.length:=List.length_filter_le _ _;simp only[bE,List.take_length];rw[if_neg (by grind),A.aF]
 ·rw[Es _ _ a8];have:(l.filter λs=>!(f s).val false)=l:=by
   simp_all
  simp only[decide_true,if_true,this,Nat.sub_self,List.replicate_zero,List.append_nil]
abbrev bE:bw:=((0,0,0,0,0,0),0)
def o9(c:a1)(w:z1')(u:Int):List bw:=((fk c).filter λs=>decide (uI s=u)).map λs=>(s,yo s+w.getD (pZ s).toNat 0)
def b6(c:a1)(w:z1')(u:Int):List bw:=ft h1 (o9 c w u)
def qW(l:List bw)(i:Nat):Bool:=!(decide (0<i)&&decide ((l.getD i bE).2=(l.getD (i - 1) bE).2))&&decide (ea (l.getD i bE).1=1+((i % 2:Nat):Int))
def eD(l:List bw):Bool:=(List.range l.length).all (qW l)
structure g_(c:a1):Prop where
 O0:cN c=0
 dN:c.1.length<=3
 ei:c.2.1.length<=12
 jL:c.2.2.1.length<=12
 n4:c.2.2.2.1.length<=4
 i_:jY c=true
 A8:A7 c.2.1
 Ey:o6 c.2.2.2.2=true
 clk:∀ s∈c.1,-30<=s.1/\s.1<=s.2/\s.2<=30
 jg:∀ s∈c.2.1,lA c.1.length s=true
 iB:A6 c.2.2.2.1=true
theorem l9{c:a1}(h:cN c=0):g_ c:=by
 have aT:=h;unfold cN at h;split at h
 ·rename_i hc;split at h
  ·omega
  ·rename_i au;have lW:=hc;unfold jY ta at hc;simp only[Bool.and_eq_true,List.all_eq_true,Bool.not_eq_true',Bool.or_eq_false_iff,decide_eq_false_iff_not]at hc;obtain⟨⟨⟨⟨⟨⟨⟨⟨b',a2⟩,a3⟩,a4⟩,a5⟩,fX⟩,gz⟩,h3⟩,a9⟩:=hc;refine⟨aT,by omega,by omega,by omega,by omega,lW,(A_ _).1 (by grind),a5,λs aD=>?_,gz,a9⟩;have:=fX s aD;unfold s_ at this;simp only[Bool.and_eq_true,Bool.not_eq_true',decide_eq_false_iff_not,og]at this;omega
 omega
theorem Bb{n:Nat}{s:a7}:lA n s=true<->(0<=jW s/\jW s<=99)/\(0<=pZ s/\pZ s<=(n:Int) - 1)/\(0<=yo s/\yo s<=9999)/\(0<=uI s/\uI s<=9)/\(0<=ih s/\ih s<=99)/\(ea s=1\/ea s=2/\ih s=0):=by
 unfold lA;simp only[Bool.and_eq_true,og,Bool.or_eq_true,decide_eq_true_eq,and_assoc]
theorem g_.amb{c:a1}(h:g_ c):∃ m,uM c.2.1 m:=by
 obtain⟨E,_⟩:=A9 c.2.1 [] [] .nil;rw[List.nil_append]at E;obtain⟨m,_,ez⟩:=E h.A8;grind
theorem g_.Iy{c:a1}(h:g_ c):(fk c).length<=12:=by
 obtain⟨m,ez⟩:=h.amb;have E:=al4 ez (Iw h.i_).2;have U:=List.length_filter_le (λs:a7=>!c.2.2.1.contains s.1) (gZ c.2.1);have:=h.ei;unfold fk;omega
theorem Ez{l:List a7}{s:a7}(h:s∈gZ l):s∈l:=by
 unfold gZ at h;grind
theorem amc{c:a1}{s:a7}(h:s∈fk c):s∈c.2.1:=Ez (List.mem_filter.1 h).1
theorem g_.Bc{c:a1}(h:g_ c){s:a7}(aD:s∈fk c):lA c.1.length s=true:=h.jg s (amc aD)
def oh(c:a1)(w:z1'):Prop:=w.length=c.1.length/\∀ n∈w,-30<=n/\n<=30
theorem oh.at{c:a1}{w:z1'}(h:oh c w)(aB:g_ c){s:a7}(aD:s∈fk c):0<=pZ s/\pZ s<(w.length:Int)/\-30<=w.getD (pZ s).toNat 0/\w.getD (pZ s).toNat 0<=30:=by
 have E:=(Bb.1 (aB.Bc aD)).2.1;have ai:pZ s<(w.length:Int):=by rw[h.1];omega
 exact⟨E.1,ai,h.2 _ (yg E.1 ai)⟩
theorem EA{c:a1}(h:g_ c)(w:z1')(u:Int):(b6 c w u).length<=12:=by
 unfold b6 o9;rw[Ip,List.length_map];exact Nat.le_trans (List.length_filter_le _ _) h.Iy
theorem EB{c:a1}{w:z1'}{u:Int}{e:bw}(h:e∈b6 c w u):e.1∈fk c/\uI e.1=u/\e.2=yo e.1+w.getD (pZ e.1).toNat 0:=by
 unfold b6 at h;rw[Xj]at h;unfold o9 at h;grind
theorem XE(i:Nat):Int.tmod (i:Int) 2=((i % 2:Nat):Int):=by
 rfl
theorem amd(l:List bw)(i:Nat):(decide ((i:Int) > 0)&&decide ((l.getD i bE).2=(l.getD (i - 1) bE).2)||decide (ea (l.getD i bE).1≠1+((i % 2:Nat):Int)))=!qW l i:=by
 unfold qW;simp
def kq(a b:Int)(s:Int×Int):Int:=max 0 (min (b - 1) s.2 - max a s.1+1)
def l_(cl:z4')(a b:Int):Int:=cl.foldl (λn s=>n - kq a b s) (b - a)
def XF(cl:z4'):Prop:=cl.length<=4/\∀ s∈cl,0<=s.1/\s.1<=s.2/\s.2<=9999
theorem g_.O1{c:a1}(h:g_ c):XF c.2.2.2.1:=by
 refine⟨h.n4,λs aD=>?_⟩;have:=h.iB;unfold A6 at this;rw[List.all_eq_true]at this;obtain⟨i,G,rfl⟩:=List.mem_iff_getElem.1 aD;have:=this i (by grind);unfold iR at this;rw[tc G]at this;simp only[Bool.and_eq_true,og,Bool.not_eq_true',decide_eq_false_iff_not]at this;omega
abbrev Bd(x:a1×Int×Int):Prop:=XF x.1.2.2.2.1/\-100<=x.2.1/\x.2.1<=x.2.2/\x.2.2<=11000
theorem ame{a b:Int}{s:Int×Int}(a8:-100<=a)(W:b<=11000)(aD:0<=s.1/\s.1<=s.2/\s.2<=9999):0<=kq a b s/\kq a b s<=20000:=by
 unfold kq;omega
theorem XG{n:Int}:(if n > 0 then n else 0)=max 0 n:=by omega
theorem XH{a b:Int}:(if a<b then a else b)=min b a:=by omega
theorem amf{a b:Int}:(if a<b then a else b)=min a b:=by omega
theorem amg{a b:Int}:(if a > b then a else b)=max b a:=by omega
theorem amh{a b:Int}:(if a > b then a else b)=max a b:=by omega
abbrev wh:aM:=⟨.az kp (.az bq bq),bq,Bd,λx=>l_ x.1.2.2.2.1 x.2.1 x.2.2⟩
theorem ami(x):A.le (WM x) (wh.sh x):=A.bu λh=>by
 obtain⟨c,a,b⟩:=x;obtain⟨⟨E,U⟩,ag,a6,bM⟩:=h;change -100<=a at ag;change a<=b at a6;change b<=11000 at bM;change c.2.2.2.1.length<=4 at E;change ∀ s∈c.2.2.2.1,_ at U;unfold WM;have AK:=bF (n:=b - a) (by omega) (by omega);rw[A.gv c.2.2.2.1 (λi (n:Int)=>(a,b,n,c.2.2.2.1,(c.2.2.2.1.length:Int),(i:Int),())) (λs n=>.next (n - kq a b s)) (λn=>.next (n,())) (λi n=>-(20000*(i:Int))<=n/\n<=20000) (b - a) ?_ ?_ ?_ ?_]
 ·rw[fr,A.aF];rfl
 ·grind
 ·omega
 ·intro i G n au;have aD:=U _ (List.getElem_mem G);have hc:=ame (a:=a) (b:=b) ag bM aD;have hw:=bF (n:=(i:Int)+1) (by omega) (by omega);refine⟨?_,λbd dd=>?_⟩
  ·simp only[Prod.cY,bW,cX G,if_true,dk G,cH G,A.bn,cn,hw];have b_:=bF (n:=b - 1) (by omega) (by omega);have c7:=bF (n:=min (b - 1) c.2.2.2.1[i].2 - max a c.2.2.2.1[i].1) (by omega) (by omega);have eV:=bF (n:=min (b - 1) c.2.2.2.1[i].2 - max a c.2.2.2.1[i].1+1) (by omega) (by omega);have Be:=bF (n:=n - kq a b c.2.2.2.1[i]) (by omega) (by omega);simp only[b_,amf,amh,c7,eV,XG];rw[show max (min (b - 1) c.2.2.2.1[i].2 - max a c.2.2.2.1[i].1+1) 0=kq a b c.2.2.2.1[i] from Int.max_comm _ _,Be];rfl
  grind
 simp
def jz(t:pX)(m:Int):Int:=if m>=t.2.2.2.2.1 then t.2.2.2.2.2.1 else min t.2.2.2.1 ((max 0 (m - t.1)+t.2.1 - 1) / t.2.1*t.2.2.1)
abbrev yu(x:pX×Int):Prop:=o6 x.1=true/\-100000<=x.2/\x.2<=20000
abbrev wi:aM:=⟨.az OP bq,bq,yu,λx=>jz x.1 x.2⟩
theorem Iz{t:pX}:o6 t=true<->(0<=t.1/\t.1<=9999)/\(1<=t.2.1/\t.2.1<=9999)/\(1<=t.2.2.2.2.1/\t.2.2.2.2.1<=9999)/\(0<=t.2.2.1/\t.2.2.1<=100000)/\(0<=t.2.2.2.1/\t.2.2.2.1<=100000)/\(0<=t.2.2.2.2.2.1/\t.2.2.2.2.2.1<=100000)/\(0<=t.2.2.2.2.2.2/\t.2.2.2.2.2.2<=100000):=by
 unfold o6;simp only[Bool.and_eq_true,og,and_assoc]
theorem XI{t:pX}{m:Int}(h:yu (t,m)):0<=(max 0 (m - t.1)+t.2.1 - 1) / t.2.1/\(max 0 (m - t.1)+t.2.1 - 1) / t.2.1<=30000/\0<=(max 0 (m - t.1)+t.2.1 - 1) / t.2.1*t.2.2.1/\(max 0 (m - t.1)+t.2.1 - 1) / t.2.1*t.2.2.1<=3000000000:=by
 obtain⟨E,U,ag⟩:=h;change -100000<=m at U;change m<=20000 at ag;obtain⟨b',a2,a3,a4,a5,fX,gz⟩:=(Iz (t:=t)).1 E;have dr:0<=(max 0 (m - t.1)+t.2.1 - 1) / t.2.1:=Int.ediv_nonneg (by omega) (by omega);have eb:(max 0 (m - t.1)+t.2.1 - 1) / t.2.1<=max 0 (m - t.1)+t.2.1 - 1:=Int.ediv_le_self _ (by omega);have lH:(max 0 (m - t.1)+t.2.1 - 1) / t.2.1<=30000:=by omega
 refine⟨dr,lH,Int.mul_nonneg dr a4.1,?_⟩;calc (max 0 (m - t.1)+t.2.1 - 1) / t.2.1*t.2.2.1<=30000*100000:=Int.mul_le_mul lH a4.2 a4.1 (by omega)
  _=3000000000:=by decide
theorem XJ{t:pX}{m:Int}(h:yu (t,m)):0<=jz t m/\jz t m<=100000:=by
 have:=XI h;obtain⟨E,U,ag⟩:=h;obtain⟨b',a2,a3,a4,a5,fX,gz⟩:=(Iz (t:=t)).1 E;unfold jz;omega
theorem amj(x):A.le (Wz x) (wi.sh x):=A.bu λh=>by
 obtain⟨t,m⟩:=x;have hu:=XI h;obtain⟨E,U,ag⟩:=h;change -100000<=m at U;change m<=20000 at ag;obtain⟨b',a2,a3,a4,a5,fX,gz⟩:=(Iz (t:=t)).1 E;have b_:=bF (n:=m - t.1) (by omega) (by omega);have c7:=bF (n:=max 0 (m - t.1)+t.2.1) (by omega) (by omega);have eV:=bF (n:=max 0 (m - t.1)+t.2.1 - 1) (by omega) (by omega);have Be:=bF (n:=(max 0 (m - t.1)+t.2.1 - 1) / t.2.1) (by omega) (by omega);have amk:=bF (n:=(max 0 (m - t.1)+t.2.1 - 1) / t.2.1*t.2.2.1) (by omega) (by omega);have EC:Int.tdiv (max 0 (m - t.1)+t.2.1 - 1) t.2.1=(max 0 (m - t.1)+t.2.1 - 1) / t.2.1:=Int.tdiv_eq_ediv_of_nonneg (by omega);unfold Wz;show _=A.pure (jz t m);unfold jz;simp only[Prod.cY,b_,XG,cn,c7,eV,EC,Be,Int.mul_comm t.2.2.1,amk,XH,decide_eq_true_eq];rw[A.bt (show t.2.1≠0 from by omega)];grind
def gH(c:a1)(w:z1')(u:Int):List bw:=if eD (b6 c w u)=true then b6 c w u else []
def l'(l:List bw)(minute:Int):Int×Int:=l.foldl (λb e=>if e.2<=minute then (if ea e.1=2 then (-1,e.2) else (ih e.1,e.2)) else b) (-1,0)
def yv(c:a1)(w:z1')(minute:Int):Int:=((ee 0 9).foldl (λn u=>if (l' (gH c w u) minute).1>=0 then n+1 else n) (0:Int))
theorem aml(c:a1)(w:z1')(t:Int):0<=yv c w t/\yv c w t<=10:=by
 have key:∀ (l:z1') (n:Int),0<=n->0<=l.foldl (λn u=>if (l' (gH c w u) t).1>=0 then n+1 else n) n/\l.foldl (λn u=>if (l' (gH c w u) t).1>=0 then n+1 else n) n<=n+l.length:=by
  intro l;induction l with
  | nil=>simp
  | cons u l aH=>
   grind
 have:=key (ee 0 9) 0 (by omega);rw[show (ee 0 9).length=10 from by decide]at this;unfold yv;omega
def uN(l:List bw):List (bw×bw):=l.zip (l.drop 1)
def ED(cl:z4')(jg:Int)(l:List bw):Option Int:=((uN l).find? λp=>jW p.1.1 == jg&&ea p.1.1 == 1).map λp=>l_ cl p.1.2 p.2.2
def ix(c:a1)(w:z1')(jg:Int):Option Int:=(ee 0 9).findSome? λu=>ED c.2.2.2.1 jg (gH c w u)
theorem amm{l:List bw}{i:Nat}(h:i+1<(ft h1 l).length):(ft h1 l)[i].2<=(ft h1 l)[i+1].2:=by
 have:=List.pairwise_iff_getElem.1 (alL l) i (i+1) (by omega) h (by omega);omega
theorem EE{c:a1}(aB:g_ c){w:z1'}(U:oh c w){u:Int}{e:bw}(he:e∈b6 c w u):-30<=e.2/\e.2<=10029:=by
 obtain⟨E,_,ag⟩:=EB he;have aQ:=(U.at aB E).2.2;have aV:=(Bb.1 (aB.Bc E)).2.2.1;omega
theorem Bf{c:a1}{w:z1'}{u:Int}{e:bw}(he:e∈gH c w u):e∈b6 c w u:=by
 unfold gH at he;grind
theorem amn{c:a1}{w:z1'}{u:Int}{i:Nat}(h:i+1<(gH c w u).length):(gH c w u)[i].2<=(gH c w u)[i+1].2:=by
 have key:∀ l,gH c w u=l->∀ (h:i+1<l.length),l[i].2<=l[i+1].2:=by
  intro l ai h;unfold gH at ai;split at ai
  ·subst ai;exact amm h
  grind
 grind
theorem XK{c:a1}(aB:g_ c){w:z1'}(U:oh c w){u:Int}{i:Nat}(h:i+1<(gH c w u).length):Bd (c,(gH c w u)[i].2,(gH c w u)[i+1].2):=by
 have ag:=EE aB U (Bf (List.getElem_mem (by omega:i<(gH c w u).length)));have a6:=EE aB U (Bf (List.getElem_mem h));exact⟨aB.O1,show -100<=(gH c w u)[i].2 by omega,amn h,show (gH c w u)[i+1].2<=11000 by omega⟩
theorem amo{l:List bw}{i:Nat}(h:i<(uN l).length):∃ U:i+1<l.length,(uN l)[i]=(l[i],l[i+1]):=by
 unfold uN at h ⊢;grind
theorem amp{a b:Int}{s:Int×Int}(h:b<=s.1):kq a b s=0:=by unfold kq;omega
def rY:z4'->Prop
 | []=>True
 | s::r=>s.1<=s.2/\(∀ t∈r,s.2<t.1)/\rY r
theorem O2:∀ (cl:z4') (a b n:Int),cl.foldl (λn s=>n - kq a b s) n=n - (cl.map (kq a b)).sum
 | [],a,b,n=>by simp
 | s::r,a,b,n=>by simp only[List.foldl_cons,List.map_cons,List.sum_cons];rw[O2 r];omega
theorem XL:∀ (cl:z4') (a b:Int),rY cl->a<=b->(cl.map (kq a b)).sum<=b - a
 | [],a,b,_,h=>by grind
 | s::r,a,b,⟨E,U,ag⟩,h=>by
  simp only[List.map_cons,List.sum_cons];by_cases W:s.2+1<=b
  ·have aH:=XL r (max a (s.2+1)) b ag (by omega);have e:r.map (kq a b)=r.map (kq (max a (s.2+1)) b):=by
    refine List.map_congr_left λt aL=>?_;have:=U t aL;unfold kq;omega
   rw[e];have:kq a b s<=max a (s.2+1) - a:=by unfold kq;omega
   omega
  ·have e:∀ l:z4',(∀ t∈l,b<=t.1)->(l.map (kq a b)).sum=0:=by
    intro l;induction l with
    | nil=>simp
    | cons t l aH=>
     intro ai;simp only[List.map_cons,List.sum_cons];rw[amp (ai t (by simp)),aH λx ah=>ai x (by grind)];rfl
   rw[e r λt aL=>by grind];unfold kq;omega
theorem XM:∀ (cl:z4'),(∀ i,(h:i+1<cl.length)->cl[i].2<cl[i+1].1)->(∀ s∈cl,s.1<=s.2)->rY cl
 | [],_,_=>trivial
 | s::r,h,U=>by
  have M:rY r:=XM r (λi G=>by have:=h (i+1) (by grind);grind) λt aL=>U t (by grind);refine⟨U s (by simp),?_,M⟩;cases r with
  | nil=>simp
  | cons t r=>
   have aT:=h 0 (by simp);simp at aT;intro u hu;rcases List.mem_cons.1 hu with rfl | hu
   ·exact aT
   ·have:=M.2.1 u hu;grind
theorem g_.amq{c:a1}(h:g_ c):rY c.2.2.2.1:=by
 have hc:=h.iB;unfold A6 at hc;rw[List.all_eq_true]at hc;refine XM _ (λi G=>?_) λs aD=>(h.O1.2 s aD).2.1;have:=hc (i+1) (by grind);unfold iR at this;grind
theorem amr{cl:z4'}{a b:Int}(h:rY cl)(we:a<=b):0<=l_ cl a b:=by
 unfold l_;rw[O2];have:=XL cl a b h we;omega
theorem XN:∀ (cl:z4') (a b:Int),0<=(cl.map (kq a b)).sum
 | [],_,_=>by simp
 | s::r,a,b=>by
  simp only[List.map_cons,List.sum_cons];have:=XN r a b;have:0<=kq a b s:=by unfold kq;omega
  omega
theorem ams{cl:z4'}{a b:Int}:l_ cl a b<=b - a:=by
 unfold l_;rw[O2];have:=XN cl a b;omega
theorem amt{cl:z4'}{jg:Int}{l:List bw}{m:Int}(h:ED cl jg l=some m):∃ i,∃ G:i+1<l.length,l[i].1.1=jg/\ea l[i].1=1/\m=l_ cl l[i].2 l[i+1].2:=by
 unfold ED at h;rw[Option.map_eq_some_iff]at h;obtain⟨p,an,rfl⟩:=h;have U:=List.find?_some an;obtain⟨i,G,rfl⟩:=List.mem_iff_getElem.1 (List.mem_of_find?_eq_some an);obtain⟨dz,e⟩:=amo G;grind
theorem IA{c:a1}(aB:g_ c){w:z1'}(U:oh c w){jg m:Int}(h:ix c w jg=some m):0<=m/\m<=11000:=by
 unfold ix at h;obtain⟨u,_,hu⟩:=List.exists_of_findSome?_eq_some h;obtain⟨i,G,_,_,rfl⟩:=amt hu;have an:=XK aB U G;have hm:=amr aB.amq an.2.2.1;have ag:=EE aB U (Bf (List.getElem_mem (by omega:i<(gH c w u).length)));have a6:=EE aB U (Bf (List.getElem_mem G));have bM:=@ams c.2.2.2.1 (gH c w u)[i].2 (gH c w u)[i+1].2;grind
def yw(c:a1)(w:z1')(amu:Int):Int:=(fk c).foldl (λn s=>if (ea s=1/\ih s=amu)/\(ix c w (jW s)).isSome=true then n+jz c.2.2.2.2 ((ix c w (jW s)).getD 0) else n) 0
def Bg(c:a1)(jg:Int):Bool:=(fk c).any λs=>jW s == jg&&ea s == 1
def te(c:a1)(w:z1'):Bool:=(List.range w.length).all λi=>bZ (w.getD i 0) (c.1.getD i (0,0)).1 (c.1.getD i (0,0)).2
def iy(c:a1)(w:z1'):Bool:=decide (w.length=c.1.length)&&te c w&&(ee 0 9).all λu=>eD (b6 c w u)
theorem XO{c:a1}(aB:g_ c){w:z1'}(ai:w.length=c.1.length)(h:te c w=true):oh c w:=by
 refine⟨ai,λn au=>?_⟩;obtain⟨i,G,rfl⟩:=List.mem_iff_getElem.1 au;unfold te at h;rw[List.all_eq_true]at h;have E:=h i (by grind);rw[tc G,tc (by omega:i<c.1.length),og]at E;have:=aB.clk _ (List.getElem_mem (by omega:i<c.1.length));omega
def kr:z4'->Nat
 | []=>1
 | s::r=>(s.2 - s.1+1).toNat*kr r
def nm(c:a1):z4'->z1'->List (z1')
 | [],w=>if iy c w=true then [w] else []
 | s::r,w=>(ee s.1 s.2).flatMap λn=>nm c r (w++[n])
theorem O3{ak β:Type}(f:ak->List β)(k:Nat):∀ (l:List ak),(∀ x∈l,(f x).length<=k)->(l.flatMap f).length<=l.length*k
 | [],_=>by simp
 | x::l,h=>by
  simp only[List.flatMap_cons,List.length_append,List.length_cons];have:=O3 f k l λy aR=>h y (by grind);grind
theorem O4(c:a1):∀ (r:z4') (w:z1'),(nm c r w).length<=kr r
 | [],w=>by unfold nm kr;grind
 | s::r,w=>by
  unfold nm kr;have:=O3 (λn=>nm c r (w++[n])) (kr r) (ee s.1 s.2) λn _=>O4 c r _;rw[yh]at this;omega
theorem XP{ak β:Type}(f:ak->List β):∀ (l:List ak) (b:List β),l.foldl (λb x=>b++f x) b=b++l.flatMap f
 | [],b=>by simp
 | x::l,b=>by simp only[List.foldl_cons,List.flatMap_cons];rw[XP f l,List.append_assoc]
abbrev cO(c:a1):List (z1'):=nm c c.1 []
def amv(c:a1):Prop:=cN c=0->kr c.1<=60
def fD(c:a1):Prop:=alA c/\amv c
theorem fD.gp{c:a1}(h:fD c):j6 c:=by
 obtain⟨⟨E,U,ag,a6⟩,_⟩:=h;exact⟨by omega,by omega,by omega,by omega⟩
def eE(c:a1)(b:Bool):List (z1')×Int:=if cN c≠0 then ([],cN c) else if b=false then ([],1) else if cO c=[] then ([],3) else (cO c,0)
theorem O5(c:a1):∀ (r:z4') (w x:z1'),x∈nm c r w->iy c x=true
 | [],w,x,h=>by
  unfold nm at h;grind
 | s::r,w,x,h=>by
  unfold nm at h;rw[List.mem_flatMap]at h;obtain⟨n,_,au⟩:=h;exact O5 c r _ x au
theorem Bh{c:a1}(h:cN c=0){w:z1'}(hw:iy c w=true):oh c w:=by
 unfold iy at hw;simp only[Bool.and_eq_true,decide_eq_true_eq]at hw;exact XO (l9 h) hw.1.1 hw.1.2
theorem IB{c:a1}{w:z1'}(hw:iy c w=true){u:Int}(hu:0<=u/\u<=9):eD (b6 c w u)=true:=by
 unfold iy at hw;simp only[Bool.and_eq_true,List.all_eq_true]at hw;exact hw.2 u (pT.2 hu)
theorem amw{c:a1}{b:Bool}{w:z1'}(h:w∈(eE c b).1):cN c=0/\w∈cO c/\iy c w=true/\oh c w:=by
 unfold eE at h;split at h
 ·grind
 ·rename_i hc;have hc:cN c=0:=by omega
  split at h
  ·grind
  ·split at h
   ·grind
   ·have:=O5 c _ _ _ h;exact⟨hc,h,this,Bh hc this⟩
def Bi:Option (Int×Int)->Int->Int×Int
 | none,n=>(n,n)
 | some s,n=>(min s.1 n,max s.2 n)
def yx(l:z1'):Option (Int×Int):=l.foldl (λo n=>some (Bi o n)) none
def tf(l:z1'):Int×Int:=(yx l).getD (0,0)
theorem amx(a b c:Int):cp.sh (a,b,c)=A.pure (bZ a b c):=rfl
def kM(c:a1)(jg:Int):z1'×Int:=if (eE c (Bg c jg)).2≠0 then ([],(eE c (Bg c jg)).2) else if (eE c (Bg c jg)).1.filterMap (λw=>ix c w jg)=[] then ([],3) else ((eE c (Bg c jg)).1.filterMap (λw=>ix c w jg),0)
def qX(c:a1)(n:Int):(Int×Int)×Int:=(tf (kM c n).1,(kM c n).2)
abbrev yy:aM:=⟨.az kp bq,.az l7 bq,λx=>fD x.1,λx=>qX x.1 x.2⟩
def qY(c:a1)(n:Int):(Int×Int)×Int:=(tf ((kM c n).1.map λm=>jz c.2.2.2.2 m),(kM c n).2)
abbrev yz:aM:=⟨.az kp bq,.az l7 bq,λx=>fD x.1,λx=>qY x.1 x.2⟩
def qZ(c:a1)(g:Int):(Int×Int)×Int:=(tf ((eE c (bZ g 0 99)).1.map λw=>yw c w g),(eE c (bZ g 0 99)).2)
abbrev yA:aM:=⟨.az kp bq,.az l7 bq,λx=>fD x.1,λx=>qZ x.1 x.2⟩
def q0(c:a1)(t:Int):(Int×Int)×Int:=(tf ((eE c (bZ t 0 9999)).1.map λw=>yv c w t*c.2.2.2.2.2.2.2.2.2.2),(eE c (bZ t 0 9999)).2)
abbrev yB:aM:=⟨.az kp bq,.az l7 bq,λx=>fD x.1,λx=>q0 x.1 x.2⟩
def wj(u t:Int):Bool:=bZ u 0 9&&bZ t 0 9999
def O6(c:a1)(u t:Int):z1':=(eE c (wj u t)).1.map λw=>(l' (gH c w u) t).1
def nn(c:a1)(u t:Int):z1'×Int:=((ee (-1) 99).filter λg=>(O6 c u t).contains g,(eE c (wj u t)).2)
abbrev yC:aM:=⟨.az kp (.az bq bq),.az fO bq,λx=>fD x.1,λx=>nn x.1 x.2.1 x.2.2⟩
def EF(c:a1)(w:z1')(u t:Int):Bool:=decide ((l' (gH c w u) t).1>=0)&&decide (l_ c.2.2.2.1 (l' (gH c w u) t).2 t>=c.2.2.2.2.2.2.2.2.1)
def o_(c:a1)(l:List (z1'))(u t:Int):Nat:=(l.filter λw=>EF c w u t).length
def np(c:a1)(t:Int):z1'×z1'×Int:=
 if (eE c (bZ t 0 9999)).2≠0 then ([],[],(eE c (bZ t 0 9999)).2)
 else ((ee 0 9).filter (λu=>decide (o_ c (eE c (bZ t 0 9999)).1 u t=(eE c (bZ t 0 9999)).1.length)),(ee 0 9).filter (λu=>decide (o_ c (eE c (bZ t 0 9999)).1 u t > 0)),0)
abbrev yD:aM:=⟨.az kp bq,.az fO (.az fO bq),λx=>fD x.1,λx=>np x.1 x.2⟩
theorem O7:∀ (l:List bw) (t:Int) (b:Int×Int),(∀ e∈l,(0<=ih e.1))->(l.foldl (λb e=>if e.2<=t then (if ea e.1=2 then (-1,e.2) else (ih e.1,e.2)) else b) b=b\/∃ e∈l,e.2<=t/\l.foldl (λb e=>if e.2<=t then (if ea e.1=2 then (-1,e.2) else (ih e.1,e.2)) else b) b=(if ea e.1=2 then (-1,e.2) else (ih e.1,e.2)))
 | [],t,b,_=>.inl rfl
 | x::l,t,b,h=>by
  simp only[List.foldl_cons];by_cases ah:x.2<=t
  ·rw[if_pos ah];rcases O7 l t (if ea x.1=2 then (-1,x.2) else (ih x.1,x.2)) λe he=>h e (by grind) with E | ⟨e,he,E,U⟩
   ·exact .inr ⟨x,by simp,ah,E⟩
   ·exact .inr ⟨e,by simp[he],E,U⟩
  ·rw[if_neg ah];rcases O7 l t b λe he=>h e (by grind) with E | ⟨e,he,E,U⟩
   ·exact .inl E
   ·exact .inr ⟨e,by simp[he],E,U⟩
theorem amy{c:a1}(aB:g_ c){w:z1'}(U:oh c w){u t:Int}(aL:t<=9999)(h:(l' (gH c w u) t).1>=0):Bd (c,(l' (gH c w u) t).2,t):=by
 rcases O7 (gH c w u) t (-1,0) (λe he=>((Bb.1 (aB.Bc (EB (Bf he)).1)).2.2.2.2.1).1) with E | ⟨e,he,E,ag⟩
 ·unfold l' at h;grind
 ·have:=EE aB U (Bf he);have aO:(l' (gH c w u) t).2=e.2:=by
   unfold l';grind
  exact⟨aB.O1,by grind,by grind,show t<=11000 by omega⟩
abbrev kN(z:hp):a1:=(z.1,z.2.1,z.2.2.1,z.2.2.2.1,z.2.2.2.2.1,z.cY,z.fa,z.gw,z.h0,z.jV,z.k3)
abbrev O8(z:hp):List a7:=z.hO
abbrev XQ(z:hp):List (Option dO):=z.nk
abbrev EG(c:a1)(l:List a7)(t:List (Option dO)):hp:=(c.1,c.2.1,c.2.2.1,c.2.2.2.1,c.2.2.2.2.1,c.2.2.2.2.2.1,c.2.2.2.2.2.2.1,c.2.2.2.2.2.2.2.1,c.2.2.2.2.2.2.2.2.1,c.2.2.2.2.2.2.2.2.2.1,c.2.2.2.2.2.2.2.2.2.2,l,t,())
def uO(l:List a7)(w:z1')(u:Int):List bw:=(l.filter λs=>decide (uI s=u)).map λs=>(s,yo s+w.getD (pZ s).toNat 0)
theorem amz{l:List a7}{w:z1'}{i:Nat}(h:i<l.length)(u:Int):uO (l.take (i+1)) w u=if l[i].2.2.2.2.1=u then uO (l.take i) w u++[(l[i],yo l[i]+w.getD (pZ l[i]).toNat 0)] else uO (l.take i) w u:=by
 unfold uO;rw[List.take_add_one,List.getElem?_eq_getElem h,Option.toList_some,List.filter_append,List.map_append];grind
theorem XR(l:List a7)(w:z1')(u:Int):(uO l w u).length<=l.length:=by
 unfold uO;grind
abbrev nq(c:a1)(w:z1'):List (List bw):=[b6 c w 0,b6 c w 1,b6 c w 2,b6 c w 3,b6 c w 4,b6 c w 5,b6 c w 6,b6 c w 7,b6 c w 8,b6 c w 9]
def th(c:a1)(w:z1'):Bool:=(ee 0 9).all λu=>eD (b6 c w u)
theorem amA(c:a1)(w:z1'):th c w=(eD (b6 c w 0)&&(eD (b6 c w 1)&&(eD (b6 c w 2)&&(eD (b6 c w 3)&&(eD (b6 c w 4)&&(eD (b6 c w 5)&&(eD (b6 c w 6)&&(eD (b6 c w 7)&&(eD (b6 c w 8)&&eD (b6 c w 9)))))))))):=by
 unfold th;rw[show ee 0 9=[0,1,2,3,4,5,6,7,8,9] from by decide];simp
abbrev amB(x:z1'×hp):Prop:=cN (kN x.2)=0/\oh (kN x.2) x.1/\O8 x.2=fk (kN x.2)
def uP(x:z1'×hp):A (Option dO×Bool×hp):=A.dP (amB x) (if th (kN x.2) x.1=true then (some (x.1,nq (kN x.2) x.1),true,x.2) else (none,false,x.2))
theorem amC{bl aI:Type}{body:Int×Int×Int×bl->A (V (Int×Int×Int×bl) aI)}(l:List bw){a n:Int}{z:bl}(bad ti:aI)
  (W:∀ i,i<l.length->body (a,n,(i:Int),z)=A.pure (if (!qW l i)=true then .done bad else .next (a,n,((i+1:Nat):Int),z)))
  (he:body (a,n,(l.length:Int),z)=A.pure (.done ti)):A.loop body (a,n,0,z)=A.pure (if eD l=true then ti else bad):=by
 rw[A.et (List.range l.length) (λi (_:Unit)=>(a,n,(i:Int),z)) (λi b=>if (!qW l i)=true then .done bad else .next b) (λ_=>ti) () ?_ ?_ ?_]
 ·rw[k0 (q:=qW l) _ _ (λ_=>rfl)];rfl
 ·rfl
 ·intro i G b;have G:i<l.length:=by grind
  rw[W i G,List.getElem_range];cases qW l i<;>rfl
 grind
theorem XS{X:Type}{l:List bw}(ai:l.length<=12){i:Nat}(G:i<l.length){k:Int}(al:k=1+((i % 2:Nat):Int))(aJ B:A X):OO l l[i] i k aJ B=if (!qW l i)=true then aJ else B:=by
 unfold OO;have z6:=amd l i;rw[Bool.or_comm,tc G]at z6;have ax:(decide (l[i].1.2.2.2.1≠k)||decide ((i:Int) > 0)&&decide (l[i].2=(List.getD l (Int.toNat (IntKind.wrap .i64 ((i:Int) - 1))) ((0,0,0,0,0,0),0)).2))=!qW l i:=by
  rw[<-z6,al];rcases Nat.eq_zero_or_pos i with aT | aT
  ·simp_all
  ·rw[bF (n:=(i:Int) - 1) (by omega) (by omega),show ((i:Int) - 1).toNat=i - 1 from by omega]
 rw[ax];have bM:decide ((i:Int) > 0)=true->(0<=IntKind.wrap .i64 ((i:Int) - 1)/\IntKind.wrap .i64 ((i:Int) - 1)<Int.ofNat (List.length l)):=λh=>by
  have h:=of_decide_eq_true h;rw[bF (n:=(i:Int) - 1) (by omega) (by omega),bW];omega
 simp_all
theorem amD{l:List bw}(h:l.length<=12):A3 (l8.sh,l,())=A.pure (ft h1 l,()):=A.bO ⟨h,rfl⟩ _
theorem amE{l:List a7}{w:z1'}{c:a1}(ai:l.length<=12)(aD:∀ s∈l,lA c.1.length s=true)(hw:oh c w){i:Nat}(G:i<l.length):0<=l[i].2.2.2.2.1/\l[i].2.2.2.2.1<=9/\(0<=l[i].2.1/\l[i].2.1<(w.length:Int))/\IntKind.wrap .i64 (l[i].2.2.1+w.getD l[i].2.1.toNat 0)=l[i].2.2.1+w.getD l[i].2.1.toNat 0:=by
 have h:=Bb.1 (aD _ (List.getElem_mem G));have E:pZ l[i]<(w.length:Int):=by rw[hw.1];omega
 have U:=hw.2 _ (yg (d:=0) h.2.1.1 E);have ag:=h.2.2.1;have a6:=h.2.2.2.1;exact⟨a6.1,a6.2,⟨h.2.1.1,E⟩,bF (by grind) (by grind)⟩
abbrev oi(f:Nat->List bw)(c:hp):lz:=(f 0,f 1,f 2,f 3,f 4,f 5,f 6,f 7,f 8,f 9,c)
theorem O9{f g:Nat->List bw}(h:∀ u,u<10->f u=g u)(c:hp):oi f c=oi g c:=by
 simp only[oi,h 0 (by decide),h 1 (by decide),h 2 (by decide),h 3 (by decide),h 4 (by decide),h 5 (by decide),h 6 (by decide),h 7 (by decide),h 8 (by decide),h 9 (by decide)]
theorem O_(f:Nat->List bw)(c:hp):∀ k,k<10->mI k (oi f c)=f k
 | 0,_ | 1,_ | 2,_ | 3,_ | 4,_ | 5,_ | 6,_ | 7,_ | 8,_ | 9,_=>rfl
 | k+10,h=>by omega
theorem XT(f:Nat->List bw)(c:hp)(v:List bw):∀ k,k<10->Ih k v (oi f c)=oi (λj=>if j=k then v else f j) c
 | 0,_ | 1,_ | 2,_ | 3,_ | 4,_ | 5,_ | 6,_ | 7,_ | 8,_ | 9,_=>rfl
 | k+10,h=>by omega
theorem XU{X:Type}(f:Nat->A X){v:Int}{u:Nat}(h:v=(u:Int)):∀ {n:Nat},u<=n->Ij f v n=f u
 | 0,hu=>by
  obtain rfl:u=0:=by omega
  rfl
 | n+1,hu=>by
  unfold Ij;simp only[gY,bW,h];by_cases e:u=n+1
  ·rw[if_pos (by omega),e]
  ·rw[if_neg (by omega)];exact XU f rfl (by omega)
theorem amF{c:a1}{w:z1'}(ki:∀ u,(b6 c w u).length<=12){z:hp}{g:Nat->List bw}{k:Nat}(al:k<10)(aB:g k=b6 c w k) :
  A.loop (Ii k) (Int.ofNat k,Int.ofNat (List.length (b6 c w k)),0,w,oi g z)=A.pure (if eD (b6 c w k)=true then .next (Int.ofNat k,w,oi g z) else .done (.done (none,false,z))):=by
 have ax:mI k (oi g z)=b6 c w k:=(O_ g z k al).trans aB;refine amC (b6 c w k) _ _ (λi G=>?_) ?_
 ·have hw:=bF (n:=(i:Int)+1) (by omega) (by have:=ki k;omega);unfold Ii;simp only[bW,cX G,if_true,ax,cH G,dk G,A.bn];rcases Nat.mod_two_eq_zero_or_one i with hm | hm
  ·have aq:decide (Int.tmod (i:Int) 2=1)=false:=by rw[XE,hm];rfl
   simp only[aq,Bool.false_eq_true,if_false,A.FN,A.aF,A.b2];rw[A.bt (by decide),ax];refine (XS (ki k) G (by rw[hm];rfl) _ _).trans ?_;simp only[cn,hw];cases qW (b6 c w k) i<;>rfl
  ·have aq:decide (Int.tmod (i:Int) 2=1)=true:=by rw[XE,hm];rfl
   simp only[aq,if_true,A.FN,A.aF,A.b2];rw[A.bt (by decide),ax];refine (XS (ki k) G (by rw[hm];rfl) _ _).trans ?_;simp only[cn,hw];cases qW (b6 c w k) i<;>rfl
 ·unfold Ii;simp
theorem XV{c:a1}{w:z1'}(hlen:∀ u,(o9 c w u).length<=12)(ki:∀ u,(b6 c w u).length<=12){z:hp}:∀ n k,k+n=10->
  Ep A3 l8.sh n k (w,oi (λu=>if u<k then b6 c w u else o9 c w u) z)=A.pure (if ((List.range' k n).all λu=>eD (b6 c w u))=true then .next (w,oi (λu=>b6 c w u) z) else .done (none,false,z))
 | 0,k,h=>by
  unfold Ep;rw[O9 (g:=λu=>b6 c w u) λu hu=>if_pos (by omega)];rfl
 | n+1,k,h=>by
  have al:k<10:=by omega
  have aD:A3 (l8.sh,o9 c w k,())=A.pure (b6 c w k,()):=amD (hlen k);have hw:=bF (n:=(k:Int)+1) (by omega) (by omega);have aO:Ih k (b6 c w k) (oi (λu=>if u<k then b6 c w u else o9 c w u) z)=oi (λu=>if u<k+1 then b6 c w u else o9 c w u) z:=by
   rw[XT _ _ _ _ al];exact O9 (λu hu=>by
    by_cases e:u=k
    ·subst e;simp
    ·by_cases aO:u<k
     ·simp[e,aO,show u<k+1 by omega]
     ·simp[e,aO,show ¬u<k+1 by omega]) _
  unfold Ep;dsimp only;rw[A.bt (by simp only[bW];omega),O_ _ _ _ al,if_neg (Nat.lt_irrefl k),aD,A.aF];simp only[aO];rw[amF ki al (if_pos (Nat.lt_succ_self k)),A.aF,List.range'_succ,List.all_cons];cases eD (b6 c w k) with
  | false=>rfl
  | true=>
   simp only[if_true,Bool.true_and,A.b2];rw[A.bt (by simp only[bW,cn,hw];omega)];exact XV hlen ki n (k+1) (by omega)
theorem O'(x):A.le (Xa o8.sh A3 l8.sh x) (uP x):=A.bu λh=>by
 obtain⟨w,z⟩:=x;obtain⟨E,U,ag⟩:=h;change cN (kN z)=0 at E;change oh (kN z) w at U;change z.hO=fk (kN z) at ag;show _=A.pure (if th (kN z) w=true then (some (w,nq (kN z) w),true,z) else (none,false,z));generalize uu:kN z=c at *
 have aB:=l9 E;have ai:=aB.Iy;have px:∀ s∈fk c,lA c.1.length s=true:=λs aD=>aB.Bc aD;have au:=aB.dN;have hlen:∀ u,(o9 c w u).length<=12:=λu=>Nat.le_trans (XR (fk c) w u) ai;have ki:∀ u,(b6 c w u).length<=12:=λu=>EA aB w u;have p2:∀ u,uO z.hO w u=o9 c w u:=λu=>by rw[ag];rfl
 rw[<-ag]at ai px;clear ag;unfold Xa;rw[show o8.sh w=A.pure w from A.bO (show w.length<=3000000 by have:=U.1;omega) _];simp only[A.aF,A.b2,A.bn];refine (congrArg (λm=>A.bind m _) (A.et z.hO (λi (_:Unit)=>(w,z.hO,(z.hO.length:Int),(i:Int),w,oi (λu=>uO (z.hO.take i) w u) z)) (λ_ b=>.next b) (λ_=>.next (w,oi (λu=>o9 c w u) z)) () ?_ ?_ ?_)).trans ?_
 ·simp only[bW,List.take_zero];rfl
 ·intro i G b;obtain⟨aQ,aV,bK,fz⟩:=amE (c:=c) ai px U G;have hw:=bF (n:=(i:Int)+1) (by omega) (by omega);have iG:∀ u,b9 (Add.add (uO (z.hO.take i) w u).length (Add.add 0 1)):=λu=>fs (by have:=XR (z.hO.take i) w u;rw[List.length_take]at this;simp only[gY];omega);obtain⟨u,hu⟩:∃ u:Nat,z.hO[i].2.2.2.2.1=(u:Int):=⟨z.hO[i].2.2.2.2.1.toNat,by omega⟩
  have amG:u<=9:=by omega
  simp only[bW,cX G,if_true,dk G,cH G,A.bn];rw[A.bt (show (0<=z.hO[i].2.2.2.2.1/\z.hO[i].2.2.2.2.1<((10:Nat):Int)) from⟨aQ,by omega⟩),XU _ hu amG];unfold W';simp only[dk G,bW,O_ _ _ u (show u<10 by omega),XT _ _ _ u (show u<10 by omega)];rw[A.bt trivial,A.bt (by omega),A.bt bK,A.bt (iG _),A.bt trivial,A.bt (by omega),A.aF,A.b2];simp only[cn,hw,fz];refine congrArg (λq=>A.pure (V.next (w,z.hO,(z.hO.length:Int),((i:Int)+1),w,q))) ?_;refine O9 (λj aE=>?_) _;rw[amz G,hu];by_cases e:j=u
  ·subst e;rw[if_pos rfl,if_pos rfl,<-hu]
  ·rw[if_neg e,if_neg (by omega)]
 ·intro b;simp only[List.take_length,p2];simp
 ·rw[fr,A.aF,A.b2];have bE:=XV (c:=c) (w:=w) hlen ki (z:=z) 10 0 rfl;rw[A.bt (by decide)];rw[show (λu:Nat=>if u<0 then b6 c w u else o9 c w u)=λu:Nat=>o9 c w u from funext λu=>if_neg (Nat.not_lt_zero u)]at bE;rw[bE,A.aF];have ax:((List.range' 0 10).all λu=>eD (b6 c w u))=th c w:=by
   rw[amA];simp[List.range']
  rw[ax];cases th c w<;>rfl
abbrev iz(c:a1)(w:z1'):Option dO:=some (w,nq c w)
abbrev amH(f:Nat)(x:z1'×hp):Prop:=cN (kN x.2)=0/\O8 x.2=fk (kN x.2)/\x.1.length<=(kN x.2).1.length/\(kN x.2).1.length<x.1.length+f/\te (kN x.2) x.1=true/\(XQ x.2).length+kr ((kN x.2).1.drop x.1.length)<=60
def yE(f:Nat)(x:z1'×hp):A hp:=A.dP (amH f x) (EG (kN x.2) (O8 x.2) (XQ x.2++(nm (kN x.2) ((kN x.2).1.drop x.1.length) x.1).map (iz (kN x.2))))
theorem amI(x):¬(yE 0 x).b1:=λh=>by have E:=h.2.2.1;have U:=h.2.2.2.1;omega
theorem amJ{c:a1}{w:z1'}{n:Int}:te c (w++[n])=(te c w&&bZ n (c.1.getD w.length (0,0)).1 (c.1.getD w.length (0,0)).2):=by
 unfold te;grind
theorem amK{c:a1}{w:z1'}(ai:w.length=c.1.length)(h:te c w=true):iy c w=th c w:=by
 unfold iy th;grind
set_option maxHeartbeats 1000000 in
theorem amL(f:Nat)(x):A.le (Xc (yE f) uP x) (yE (f+1) x):=A.bu λh=>by
 obtain⟨w,a0,b',a2,a3,a4,a5,fX,gz,h3,a9,hB,l,t,u⟩:=x;obtain⟨E,U,ag,a6,bM,dt⟩:=h;change cN (a0,b',a2,a3,a4,a5,fX,gz,h3,a9,hB)=0 at E;change l=fk (a0,b',a2,a3,a4,a5,fX,gz,h3,a9,hB) at U;change w.length<=a0.length at ag;change a0.length<w.length+(f+1) at a6;change te (a0,b',a2,a3,a4,a5,fX,gz,h3,a9,hB) w=true at bM;change t.length+kr (a0.drop w.length)<=60 at dt;show _=A.pure (EG (a0,b',a2,a3,a4,a5,fX,gz,h3,a9,hB) l (t++(nm (a0,b',a2,a3,a4,a5,fX,gz,h3,a9,hB) (a0.drop w.length) w).map (iz (a0,b',a2,a3,a4,a5,fX,gz,h3,a9,hB))));have aB:=l9 E;have au:a0.length<=3:=aB.dN;unfold Xc;simp only[Prod.cY,Prod.fa,Prod.gw,Prod.h0,Prod.jV,Prod.k3,Prod.hO,Prod.nk,Prod.pY,Prod.s4,Prod.yl,Prod.Oz,Prod.OA,Prod.OB,Prod.OC,bW,A.bn];by_cases ai:w.length=a0.length
 ·rw[if_pos (by simp only[decide_eq_true_eq];omega)];have amM:oh (a0,b',a2,a3,a4,a5,fX,gz,h3,a9,hB) w:=XO aB ai bM;have af:uP (w,a0,b',a2,a3,a4,a5,fX,gz,h3,a9,hB,l,t,())=A.pure (if th (a0,b',a2,a3,a4,a5,fX,gz,h3,a9,hB) w=true then (iz (a0,b',a2,a3,a4,a5,fX,gz,h3,a9,hB) w,true,a0,b',a2,a3,a4,a5,fX,gz,h3,a9,hB,l,t,()) else (none,false,a0,b',a2,a3,a4,a5,fX,gz,h3,a9,hB,l,t,())):=A.bO ⟨E,amM,U⟩ _;rw[af,A.aF,ai,List.drop_length];unfold nm;rw[amK ai bM];cases al:th (a0,b',a2,a3,a4,a5,fX,gz,h3,a9,hB) w with
  | true=>
   rw[if_pos rfl,if_pos rfl,A.bt (fs (by simp only[gY];omega)),A.aF,A.b2];rfl
  | false=>
   simp only[Bool.false_eq_true,if_false,A.aF,A.b2,List.map_nil,List.append_nil]
 ·have cj:w.length<a0.length:=by omega
  rw[if_neg (by simp only[decide_eq_true_eq];omega),A.bt (show (0:Int)<=(w.length:Int)/\(w.length:Int)<(a0.length:Int) by omega)];rw[List.drop_eq_getElem_cons cj]at dt ⊢;simp only[Int.toNat_natCast,tc cj];have aD:=aB.clk _ (List.getElem_mem cj);change -30<=a0[w.length].1/\a0[w.length].1<=a0[w.length].2/\a0[w.length].2<=30 at aD;have nr:a0.getD w.length (0,0)=a0[w.length]:=tc cj;generalize a0[w.length]=s at *
  unfold kr at dt;have EH:∀ n (ts:List (Option dO)),s.1<=n->n<=s.2->ts.length+kr (a0.drop (w.length+1))<=60->yE f (w++[n],a0,b',a2,a3,a4,a5,fX,gz,h3,a9,hB,l,ts,())=A.pure (EG (a0,b',a2,a3,a4,a5,fX,gz,h3,a9,hB) l (ts++(nm (a0,b',a2,a3,a4,a5,fX,gz,h3,a9,hB) (a0.drop (w.length+1)) (w++[n])).map (iz (a0,b',a2,a3,a4,a5,fX,gz,h3,a9,hB)))):=by
   intro n ts aQ aV bK;refine (A.bO ⟨E,U,?_,?_,?_,?_⟩ _).trans (congrArg A.pure ?_)
   ·show EG (a0,b',a2,a3,a4,a5,fX,gz,h3,a9,hB) l (ts++(nm (a0,b',a2,a3,a4,a5,fX,gz,h3,a9,hB) (a0.drop (w++[n]).length) (w++[n])).map (iz (a0,b',a2,a3,a4,a5,fX,gz,h3,a9,hB)))=_;rw[List.length_append,List.length_singleton]
   ·show (w++[n]).length<=a0.length;simp;omega
   ·show a0.length<(w++[n]).length+f;simp;omega
   ·show te (a0,b',a2,a3,a4,a5,fX,gz,h3,a9,hB) (w++[n])=true;rw[amJ,bM];show (true&&bZ n (a0.getD w.length (0,0)).1 (a0.getD w.length (0,0)).2)=true;rw[nr,Bool.true_and];exact og.2 ⟨aQ,aV⟩
   ·show ts.length+kr (a0.drop (w++[n]).length)<=60;rw[List.length_append,List.length_singleton];exact bK
  rw[A.gv (ee s.1 s.2) (λi (ts:List (Option dO))=>(w,(w.length:Int),s.1+(i:Int),a0,b',a2,a3,a4,a5,fX,gz,h3,a9,hB,l,ts,())) (λn ts=>.next (ts++(nm (a0,b',a2,a3,a4,a5,fX,gz,h3,a9,hB) (a0.drop (w.length+1)) (w++[n])).map (iz (a0,b',a2,a3,a4,a5,fX,gz,h3,a9,hB)))) (λts=>(a0,b',a2,a3,a4,a5,fX,gz,h3,a9,hB,l,ts,())) (λi ts=>ts.length<=t.length+i*kr (a0.drop (w.length+1))) t ?_ ?_ ?_ ?_]
  ·rw[fr,XP (f:=λn=>(nm (a0,b',a2,a3,a4,a5,fX,gz,h3,a9,hB) (a0.drop (w.length+1)) (w++[n])).map (iz (a0,b',a2,a3,a4,a5,fX,gz,h3,a9,hB)))];rw[<-List.map_flatMap];rfl
  ·rw[Int.natCast_zero,Int.add_zero]
  ·simp
  ·intro i G ts af;rw[yh]at G;have hw:=bF (n:=s.1+(i:Int)+1) (by omega) (by omega);have aq:decide (s.1+(i:Int)<=s.2)=true:=by simpa using (by omega:s.1+(i:Int)<=s.2)
   have hle:=O4 (a0,b',a2,a3,a4,a5,fX,gz,h3,a9,hB) (a0.drop (w.length+1)) (w++[s.1+(i:Int)]);have amN:ts.length+kr (a0.drop (w.length+1))<=60:=by
    have:(i+1)*kr (a0.drop (w.length+1))<=(s.2 - s.1+1).toNat*kr (a0.drop (w.length+1)):=Nat.mul_le_mul_right _ (by omega);rw[Nat.succ_mul]at this;omega
   refine⟨?_,λbd dd=>?_⟩
   ·simp only[Int.toNat_natCast,nr,aq,if_true,cn,hw,D_,List.take_length];rw[A.bt (by omega),A.bt ⟨by omega,by omega,trivial,by omega⟩,A.bt ⟨by simp only[gY];omega,fs (by simp only[gY];omega)⟩,EH _ ts (by omega) (by omega) amN,A.aF];simp only[V.ho];rw[show s.1+((i+1:Nat):Int)=s.1+(i:Int)+1 from by omega]
   ·simp only[V.next.injEq,D_]at dd;subst dd;rw[List.length_append,List.length_map,Nat.succ_mul];omega
  ·intro ts af;rw[yh];have aq:decide (s.1+(((s.2 - s.1+1).toNat:Nat):Int)<=s.2)=false:=by simpa using (by omega:s.2<s.1+(((s.2 - s.1+1).toNat:Nat):Int))
   simp only[Int.toNat_natCast,nr,aq,Bool.false_eq_true,if_false,A.aF];rw[A.bt (by omega)]
abbrev uQ:a1:=([],[],[],[],0,0,0,0,0,0,0)
abbrev Bj:aM:=⟨.az hq (.bG kp),dj,λx=>∃ c:a1,x.2=some c/\c.2.2.1.length<2 ^ 63,λx=>(x.2.getD uQ).2.2.1.contains (jW x.1)⟩
theorem Pa(x):A.le (WO o7.sh x) (Bj.sh x):=A.bu λh=>by
 obtain⟨s,o⟩:=x;obtain⟨c,hc,h⟩:=h;change o=some c at hc;subst hc;unfold WO;simp only[Option.getD_some];rw[show o7.sh (c.2.2.1,s.1)=A.pure (c.2.2.1.contains s.1) from A.bO h _,A.aF]
abbrev uR(c:a1):dZ:=(c,fk c,(cO c).map (iz c))
def EI(c:a1)(f:Option dZ->A Bool):Bool:=(f (some (c,fk c,[]))).val false
def tj(c:a1)(b:Bool):Option dZ×Int:=if cN c≠0 then (none,cN c) else if b=false then (none,1) else if cO c=[] then (none,3) else (some (uR c),0)
abbrev wk:aM:=⟨.az kp (.fn (.bG s6) .bool),.az (.bG s6) bq,λx=>fD x.1/\(cN x.1=0->∃ b,x.2 (some (x.1,fk x.1,[]))=A.pure b),λx=>tj x.1 (EI x.1 x.2)⟩
theorem amO{c:a1}(aB:g_ c):Ix ((λs=>Bj.sh (s,some c)),gZ c.2.1,())=A.pure ((0,(fk c).length),fk c++List.replicate ((gZ c.2.1).length - (fk c).length) iS,()):=by
 have ae:∀ s,Bj.sh (s,some c)=A.pure (c.2.2.1.contains s.1):=λs=>A.bO ⟨c,rfl,by have:=aB.jL;omega⟩ _;have e:((gZ c.2.1).filter λs=>!(Bj.sh (s,some c)).val false)=fk c:=by
  unfold fk;simp_all
 have:=al1 c.2.1;refine (A.bO ⟨show (gZ c.2.1).length<2 ^ 63 by omega,λs _=>⟨_,ae s⟩⟩ _).trans (congrArg A.pure ?_);grind
set_option maxHeartbeats 1000000 in
theorem amP(x):A.le (Ws h2.sh Iv Ix (yE 5) Bj.sh x) (wk.sh x):=A.bu λh=>by
 obtain⟨c,f⟩:=x;obtain⟨h,ar⟩:=h;change fD c at h;change cN c=0->∃ b,f (some (c,fk c,[]))=A.pure b at ar;unfold Ws;show _=A.pure (tj c (EI c f));unfold tj;rw[show h2.sh c=A.pure (cN c) from A.bO h.gp _];simp only[A.aF,decide_eq_true_eq];by_cases hc:cN c=0
 ·simp only[hc,ne_eq,not_true_eq_false,if_false];have aB:=l9 hc;obtain⟨b,W⟩:=ar hc;have E:=aB.dN;have hid:=Iw aB.i_;rw[show Iv (c.2.1,())=A.pure (true,gZ c.2.1,()) from A.bO ⟨hid,(A_ _).2 aB.A8⟩ _,A.aF];simp only[A.bn];rw[amO aB,A.aF];have p1:List.drop 0 (List.take (fk c).length (fk c++List.replicate ((gZ c.2.1).length - (fk c).length) iS))=fk c:=by
   rw[List.drop_zero,List.take_left]
  simp only[p1];unfold EI;simp only[W,A.e4,A.aF];cases b with
  | false=>simp
  | true=>
   simp only[Bool.not_true,Bool.false_eq_true,if_false,A.aF,A.b2,reduceCtorEq];simp only[Prod.cY,Prod.fa,Prod.gw,Prod.h0,Prod.jV,Prod.k3,Prod.hO,Prod.nk,Prod.pY,Prod.s4,Prod.yl,Prod.Oz,Prod.OA,Prod.OB,Prod.OC,p1];have nr:yE 5 ([],c.1,c.2.1,c.2.2.1,c.2.2.2.1,c.2.2.2.2.1,c.2.2.2.2.2.1,c.2.2.2.2.2.2.1,c.2.2.2.2.2.2.2.1,c.2.2.2.2.2.2.2.2.1,c.2.2.2.2.2.2.2.2.2.1,c.2.2.2.2.2.2.2.2.2.2,fk c,[],())=A.pure (EG c (fk c) ((cO c).map (iz c))):=A.bO ⟨hc,rfl,Nat.zero_le _,show c.1.length<0+5 by omega,rfl,show 0+kr c.1<=60 by have:=h.2 hc;omega⟩ _;rw[nr,A.aF];simp only[bW,List.length_map];by_cases aL:cO c=[]
   ·simp[aL]
   ·have:¬((cO c).length:Int)=0:=λe=>aL (List.eq_nil_of_length_eq_zero (by omega));simp only[this,aL,if_false]
 ·simp only[hc,ne_eq,not_false_eq_true,if_true]
def wm(l:List (Option dO))(f:Option dO->A (Int×Bool)):Option (Int×Int):=yx (l.filterMap λt=>if ((f t).val (0,false)).2=true then some ((f t).val (0,false)).1 else none)
abbrev Bk:aM:=⟨.az (.bG s6) (.fn (.bG ym) (.az bq .bool)),.az l7 .bool,λx=>∃ b:dZ,x.1=some b/\b.2.2.length<=60/\∀ t∈b.2.2,∃ r,x.2 t=A.pure r,λx=>((wm (x.1.getD (uQ,[],[])).2.2 x.2).getD (0,0),(wm (x.1.getD (uQ,[],[])).2.2 x.2).isSome)⟩
theorem XW{ak β gA:Type}(g:ak->Option β)(h:gA->β->gA):∀ (l:List ak) (b:gA),l.foldl (λb x=>(g x).elim b λy=>h b y) b=(l.filterMap g).foldl h b
 | [],b=>rfl
 | x::l,b=>by
  simp only[List.foldl_cons,List.filterMap_cons];rw[XW g h l];grind
theorem amQ(x):A.le (WB x) (Bk.sh x):=A.bu λh=>by
 obtain⟨o,f⟩:=x;obtain⟨b,W,ai,ar⟩:=h;change o=some b at W;subst W;unfold WB;show _=A.pure ((wm b.2.2 f).getD (0,0),(wm b.2.2 f).isSome);simp only[Option.isSome_some,A.bn,Option.getD_some];change b.2.2.length<=60 at ai;change ∀ t∈b.2.2,∃ r,f t=A.pure r at ar;generalize b.2.2=l at *
 rw[A.et l (λi (o:Option (Int×Int))=>(f,o.isSome,l,(l.length:Int),(i:Int),o.getD (0,0),())) (λt o=>.next ((if ((f t).val (0,false)).2=true then some ((f t).val (0,false)).1 else none).elim o λn=>some (Bi o n))) (λo=>.next (o.isSome,o.getD (0,0),())) none ?_ ?_ ?_]
 ·rw[fr,XW (λt=>if ((f t).val (0,false)).2=true then some ((f t).val (0,false)).1 else none) (λo n=>some (Bi o n)),A.aF];rfl
 ·rfl
 ·intro i G o;have hw:=bF (n:=(i:Int)+1) (by omega) (by omega);obtain⟨r,M⟩:=ar _ (List.getElem_mem G);simp only[Prod.cY,bW,cX G,if_true,dk G,cH G,A.bn,cn,hw,M,A.aF,A.e4,V.ho];obtain⟨n,cb⟩:=r;cases cb with
  | false=>simp_all
  | true=>
   cases o with
   | none=>simp only[Bool.not_true,Bool.false_eq_true,if_false,if_true,Option.isSome_none,Bool.not_false,A.aF,A.b2,hw,Option.elim];rfl
   | some s=>
    simp only[Bool.not_true,Bool.false_eq_true,if_false,if_true,Option.isSome_some,A.aF,A.b2,hw,Option.elim,Option.getD_some];rw[XH,amg];rfl
 simp
section
variable {ak:Type}
def XX(x:Nat×List (Int×ak)×(Nat×(z1'->Prop)×z1'×Bool)×Unit):A ((Nat×(z1'->Prop)×z1'×Bool)×Unit):=
 A.bind (A.pure ()) λy=>A.loop (λ(D:Nat×(Nat×(z1'->Prop)×z1'×Bool)×(Option (Int×ak)×List (Int×ak))×Unit)=>
 A.bind (GQ D.2.2.1.2) λy=>if Option.isSome y=true then A.bind (A.ad (Option.isSome (n3 D.2.2.1.1 D.2.2.1.2 y)=true) (A.pure ())) λb3
 =>A.bind (A.ad (D.1=D.2.1.1/\D.2.1.2.2.2=false/\∃ (T:z1'),D.2.1.2.1 (D.2.1.2.2.1++Option.getD (Option.map (λx=>x.1) (n3
 D.2.2.1.1 D.2.2.1.2 y)) 0::T)) (A.any λx=>True)) λdK=>if (!dK)=true then A.bind (A.pure ((D.2.1.1,D.2.1.2.1,D.2.1.2.2.1++
 [Option.getD (Option.map (λx=>x.1) (n3 D.2.2.1.1 D.2.2.1.2 y)) 0],!dK),())) λr=>A.pure (V.done r) else A.pure (V.next (D.1,(D.2.1.1,D.2.1.2.1,D.2.1.2.2.1++[Option.getD (Option.map (λx=>x.1) (n3 D.2.2.1.1 D.2.2.1.2 y)) 0],!dK),(n3 D.2.2.1.1 D.2.2.1.2 y,Df D.2.2.1.2 y),())) else A.bind (A.pure (D.2.1,())) λr=>A.pure (V.done r)) (x.1,x.2.2.1,(none,x.2.1),())
theorem XY{β:Type}:∀ (l:List β) (i:Nat) (h:i<l.length),(l[i]::l.eraseIdx i).Perm l
 | x::l,0,_=>.refl _
 | x::l,i+1,h=>by
  simp only[List.getElem_cons_succ,List.eraseIdx_cons_succ];exact (List.Perm.swap x _ _).trans ((XY l i (by grind)).cons x)
theorem XZ(l:Nat)(m:List (Int×ak)):A.cu (XX (l,m,(l,jX (some m),[],false),())) λy=>y.1.2.2.2=false->jX (some m) y.1.2.2.1:=by
 unfold XX;rw[A.aF];refine A.Cd (λD=>∃ p c ck,D=(l,(l,jX (some m),p,false),(c,ck),())/\(m.map (·.1)).Perm (p++ck.map (·.1))) (λD=>D.2.2.1.2.length) ?_ _ ⟨[],none,m,rfl,.refl _⟩;rintro D ⟨p,c,ck,rfl,an⟩;simp only;rw[A.fY];refine⟨trivial,λy aR=>?_⟩;cases y with
 | none=>
  have M:ck=[]:=aR;subst M;simp only[Option.isSome_none,Bool.false_eq_true,if_false,A.aF];refine A.d_.2 λ_=>uL.2 (by grind)
 | some i=>
  have G:i<ck.length:=aR;have au:n3 c ck (some i)=some ck[i]:=List.getElem?_eq_getElem G;have M:Df ck (some i)=ck.eraseIdx i:=rfl;have EJ:(m.map (·.1)).Perm (p++ck[i].1::(ck.eraseIdx i).map (·.1)):=an.trans (List.Perm.append_left p ((XY ck i G).symm.map (·.1)));simp only[Option.isSome_some,if_true,au,M,A.bn,A.aF,Option.map_some,Option.getD_some];rw[A.fY,A.kR];refine⟨⟨trivial,trivial,(ck.eraseIdx i).map (·.1),uL.2 EJ⟩,⟨true,trivial⟩,λb _=>?_⟩;cases b with
  | false=>
   simp only[Bool.not_false,if_true,A.aF];exact A.d_.2 λh=>by cases h
  | true=>
   simp only[Bool.not_true,Bool.false_eq_true,if_false];refine A.d_.2 ⟨⟨p++[ck[i].1],some ck[i],ck.eraseIdx i,rfl,by grind⟩,?_⟩;grind
end
theorem amR(l:Nat)(m:z4'):A.cu (OM (l,m,(l,jX (some m),[],false),())) λy=>y.1.2.2.2=false->jX (some m) y.1.2.2.1:=XZ l m
theorem amS(l:Nat)(m:List (Int×a7)):A.cu (ON (l,m,(l,jX (some m),[],false),())) λy=>y.1.2.2.2=false->jX (some m) y.1.2.2.1:=XZ l m
def dz(cl:z4'):List bw->List bw
 | a::b::r=>(a.1,l_ cl a.2 b.2)::dz cl r
 | _=>[]
def EK(c:a1)(fU:List (List bw)):Prop:=fU.length=10/\∀ l∈fU,l.length<=12/\∀ i,(h:i+1<l.length)->Bd (c,l[i].2,l[i+1].2)
def p3(c:a1)(fU:List (List bw)):List bw:=fU.flatMap (dz c.2.2.2.1)
def tk(x:Option (Option dO)×Option (Option dZ))(L:List bw):Prop:=∃ t b,x.1=some (some t)/\x.2=some (some b)/\EK b.1 t.2/\L=p3 b.1 t.2
theorem amT{cl:z4'}{l:List bw}{i:Nat}(h:i+1<l.length):dz cl (l.drop i)=(l[i].1,l_ cl l[i].2 l[i+1].2)::dz cl (l.drop (i+2)):=by
 rw[List.drop_eq_getElem_cons (by omega:i<l.length),List.drop_eq_getElem_cons h];rfl
theorem amU{cl:z4'}{l:List bw}{i:Nat}(h:¬i+1<l.length):dz cl (l.drop i)=[]:=by
 have:(l.drop i).length<=1:=by grind
 match h:l.drop i with
 | []=>rfl
 | [_]=>rfl
 | _::_::_=>grind
set_option maxHeartbeats 1000000 in
theorem amV(ff:Nat)(t:dO)(b:dZ)(h:EK b.1 t.2):A.cu (Ig wh.sh (ff,some t,some b,(ff,tk (some (some t),some (some b)),[],false),())) λy=>y.1.2.2.2=false->tk (some (some t),some (some b)) y.1.2.2.1:=by
 obtain⟨E,U⟩:=h;have Hx:∀ L,tk (some (some t),some (some b)) L<->L=p3 b.1 t.2:=λL=>⟨λ⟨cV,bd,ax,aO,_,e⟩=>by cases ax;cases aO;exact e,λe=>⟨t,b,rfl,rfl,⟨E,U⟩,e⟩⟩
 generalize tk (some (some t),some (some b))=S at *
 unfold Ig;simp only[Option.isSome_some,A.bn,Option.getD_some];refine A.Cd (λD=>∃ (u:Nat),u<=10/\D=(ff,some b,t.2,(u:Int),(ff,S,(t.2.take u).flatMap (dz b.1.2.2.2.1),false),())) (λD=>(10 - D.2.2.2.1).toNat) ?_ _ ⟨0,by omega,rfl⟩;rintro D ⟨u,hu,rfl⟩;by_cases Mz:u<10
 ·have aq:decide ((u:Int)<10)=true:=by simpa using (by omega:(u:Int)<10)
  have sT:u<t.2.length:=by omega
  have amW:=bF (n:=(u:Int)+1) (by omega) (by omega);have hm:=List.getElem_mem sT;obtain⟨ag,a6⟩:=U _ hm;simp only[aq,if_true,dk sT];rw[A.bt (show (0:Int)<=(u:Int)/\(u:Int)<Int.ofNat 10 by rw[bW];omega)];have fF:p3 b.1 t.2=(t.2.take u).flatMap (dz b.1.2.2.2.1)++(dz b.1.2.2.2.1 t.2[u]++(t.2.drop (u+1)).flatMap (dz b.1.2.2.2.1)):=by
   unfold p3;conv=>lhs;rw[<-List.take_append_drop u t.2,List.drop_eq_getElem_cons sT]
   simp only[List.flatMap_append,List.flatMap_cons]
  generalize amX:t.2[u]=jZ at *
  generalize (t.2.drop (u+1)).flatMap (dz b.1.2.2.2.1)=R at *
  generalize js:(t.2.take u).flatMap (dz b.1.2.2.2.1)=P at *
  have amY:(t.2.take (u+1)).flatMap (dz b.1.2.2.2.1)=P++dz b.1.2.2.2.1 jZ:=by
   rw[List.take_add_one,List.getElem?_eq_getElem sT,Option.toList_some,List.flatMap_append,js,amX];simp
  rw[A.fY];refine (A.Cd (p:=λz=>match z with | .next z=>z=(ff,some b,t.2,(u:Int),(ff,S,P++dz b.1.2.2.2.1 jZ,false),()) | .done z=>(match z with | .next _=>False | .done y=>y.1.2.2.2=true)) (λD=>∃ (i:Nat) (Q:List bw),i<=jZ.length+1/\Q++dz b.1.2.2.2.1 (jZ.drop i)=dz b.1.2.2.2.1 jZ/\D=(ff,some b,jZ,(i:Int),t.2,(u:Int),(ff,S,P++Q,false),())) (λD=>(20 - D.2.2.2.1).toNat) ?_ _ ⟨0,[],by omega,by simp,by simp⟩).mono λz bj=>?_
  ·rintro D ⟨i,Q,oN,ux,rfl⟩;have hw:=bF (n:=(i:Int)+1) (by omega) (by omega);have gX:=bF (n:=(i:Int)+2) (by omega) (by omega);by_cases G:i+1<jZ.length
   ·have Mr:i<jZ.length:=by omega
    have aq:decide ((i:Int)+1<(jZ.length:Int))=true:=by simpa using (by omega:(i:Int)+1<(jZ.length:Int))
    have cI:(0:Int)<=(i:Int)+1/\(i:Int)+1<(jZ.length:Int):=⟨by omega,by omega⟩
    have jx:jZ.getD ((i:Int)+1).toNat ((0,0,0,0,0,0),0)=jZ[i+1]:=by
     rw[show ((i:Int)+1).toNat=i+1 from by omega,tc G]
    have em:wh.sh (b.1,jZ[i].2,jZ[i+1].2)=A.pure (l_ b.1.2.2.2.1 jZ[i].2 jZ[i+1].2):=A.bO (a6 i G) _;simp only[Prod.cY,Prod.fa,bW,cn,hw,aq,if_true,dk Mr,cH Mr,cI,jx,Option.isSome_some,Option.getD_some,em,A.hQ,A.e4,and_self,A.bn,decide_true];rw[A.fY,A.kR];have cT:=amT (cl:=b.1.2.2.2.1) G;refine⟨⟨trivial,trivial,dz b.1.2.2.2.1 (jZ.drop (i+2))++R,(Hx _).2 ?_⟩,⟨true,trivial⟩,λy _=>?_⟩
    ·rw[fF,<-ux,cT];simp
    ·cases y with
     | false=>
      simp only[Bool.not_false,if_true,A.aF];exact A.d_.2 rfl
     | true=>
      simp only[Bool.not_true,Bool.false_eq_true,if_false,gX];refine A.d_.2 ⟨⟨i+2,Q++[(jZ[i].1,l_ b.1.2.2.2.1 jZ[i].2 jZ[i+1].2)],by omega,?_,?_⟩,?_⟩
      ·rw[<-ux,cT];simp
      ·rw[List.append_assoc];rfl
      ·show (20 - ((i:Int)+2)).toNat<(20 - (i:Int)).toNat;omega
   ·have aq:decide ((i:Int)+1<(jZ.length:Int))=false:=by simpa using (by omega:(jZ.length:Int)<=(i:Int)+1)
    simp only[bW,cn,hw,aq,Bool.false_eq_true,if_false,A.aF];refine A.d_.2 ?_;rw[amU G,List.append_nil]at ux;show (ff,some b,t.2,(u:Int),(ff,S,P++Q,false),())=_;rw[ux]
  ·cases z with
   | next z=>
    have bj:z=_:=bj;subst bj;simp only[A.b2,cn,amW];refine A.d_.2 ⟨⟨u+1,by omega,?_⟩,?_⟩
    ·rw[amY];rfl
    ·show (10 - ((u:Int)+1)).toNat<(10 - (u:Int)).toNat;omega
   | done z=>
    cases z with
    | next z=>exact absurd bj id
    | done y=>
     have bj:y.1.2.2.2=true:=bj;simp only[A.pS];refine A.d_.2 λh=>?_;rw[bj]at h;cases h
 ·have NZ:u=10:=by omega
  subst NZ;simp only[show decide (((10:Nat):Int)<10)=false from by decide,Bool.false_eq_true,if_false,A.aF];refine A.d_.2 λ_=>(Hx _).2 ?_;show (t.2.take 10).flatMap _=_;rw[<-E,List.take_length];rfl
abbrev Bl:aM:=⟨.az (.bG s6) (.bG ym),.cq (.az hq bq),λ_=>True,λx=>tk (some x.2,some x.1)⟩
theorem amZ(x):A.le (akW tk x) (Bl.sh x):=A.bu λ_=>rfl
end Go.Fer.H
namespace Go.Fer.H
open A (V)
theorem Bm{ak β:Type}{f:ak->β}:∀ {l:List ak},(l.map f).Nodup->∀ {a b:ak},a∈l->b∈l->f a=f b->a=b
 | [],_,a,b,a8,_,_=>by grind
 | x::l,au,a,b,a8,W,e=>by
  rw[List.map_cons,List.nodup_cons]at au;rcases List.mem_cons.1 a8 with E | E<;>rcases List.mem_cons.1 W with U | U
  ·grind
  ·grind
  ·grind
  ·exact Bm au.2 E U e
theorem am0{l m:z1'}(h:l.Perm m):l.sum=m.sum:=by
 induction h with
 | nil=>rfl
 | cons x _ aH=>grind
 | swap x y l=>grind
 | trans _ _ E U=>omega
theorem Pb{l:List bw}(h:eD l=true){i:Nat}(G:i<l.length):ea l[i].1=1+((i % 2:Nat):Int)/\(0<i->l[i].2≠(l.getD (i - 1) bE).2):=by
 unfold eD at h;rw[List.all_eq_true]at h;have:=h i (by grind);unfold qW at this;grind
theorem X0(cl:z4'):∀ l:List bw,(∀ i,(h:i<l.length)->ea l[i].1=1+((i % 2:Nat):Int))->dz cl l=((uN l).filter λp=>ea p.1.1 == 1).map λp=>(p.1.1,l_ cl p.1.2 p.2.2)
 | [],_=>rfl
 | [_],_=>rfl
 | [a,b],h=>by
  have a8:ea a.1=1:=h 0 (by simp);simp[dz,uN,a8]
 | a::b::c::r,h=>by
  have a8:ea a.1=1:=h 0 (by simp);have W:ea b.1=2:=h 1 (by simp);have aH:=X0 cl (c::r) λi G=>by
   have:=h (i+2) (by grind);grind
  have e:uN (a::b::c::r)=(a,b)::(b,c)::uN (c::r):=rfl;rw[e,List.filter_cons_of_pos (by grind),List.filter_cons_of_neg (by grind),List.map_cons,<-aH];rfl
abbrev ns(c:a1)(w:z1'):List bw:=p3 c (nq c w)
theorem IC(c:a1)(w:z1'):ns c w=(ee 0 9).flatMap λu=>dz c.2.2.2.1 (b6 c w u):=by
 rfl
theorem Pc{c:a1}{w:z1'}(hw:iy c w=true){u:Int}(hu:0<=u/\u<=9):gH c w u=b6 c w u:=by
 unfold gH;rw[if_pos (IB hw hu)]
theorem am1{cl:z4'}{l:List bw}(h:eD l=true)(jg:Int):ED cl jg l=((dz cl l).find? λp=>p.1.1 == jg).map (·.2):=by
 rw[X0 cl l λi G=>(Pb h G).1];unfold ED;rw[List.find?_map,List.find?_filter,Option.map_map];refine congrArg _ (congrArg (λf=>(uN l).find? f) ?_);grind
theorem X1{ak β:Type}{f g:ak->Option β}:∀ {l:List ak},(∀ x∈l,f x=g x)->l.findSome? f=l.findSome? g
 | [],_=>rfl
 | x::l,h=>by
  rw[List.findSome?_cons,List.findSome?_cons,h x (by simp),X1 λy aR=>h y (by grind)]
theorem Pd{c:a1}{w:z1'}(hw:iy c w=true)(jg:Int):ix c w jg=((ns c w).find? λp=>p.1.1 == jg).map (·.2):=by
 unfold ix;rw[IC,List.find?_flatMap,List.map_findSome?];refine X1 λu hu=>?_;have hu:=pT.1 hu;rw[Pc hw hu,am1 (IB hw hu)];rfl
theorem X2{c:a1}(aB:g_ c){w:z1'}(hw:iy c w=true):EK c (nq c w):=by
 have U:=Bh aB.O0 hw;have key:∀ u:Int,0<=u/\u<=9->(b6 c w u).length<=12/\∀ i,(h:i+1<(b6 c w u).length)->Bd (c,(b6 c w u)[i].2,(b6 c w u)[i+1].2):=by
  intro u hu;have:=Pc hw hu;refine⟨EA aB w u,?_⟩;have k:=λi=>@XK c aB w U u i;simp only[this]at k;exact k
 refine⟨rfl,λl ai=>?_⟩;simp only[nq,List.mem_cons,List.not_mem_nil,or_false]at ai;rcases ai with rfl | rfl | rfl | rfl | rfl | rfl | rfl | rfl | rfl | rfl<;>exact key _ (by omega)
theorem X3{cl:z4'}:∀ {l:List bw} {p:bw},p∈dz cl l->∃ i,∃ h:i+1<l.length,i % 2=0/\p=(l[i].1,l_ cl l[i].2 l[i+1].2)
 | [],_,h=>by simp[dz]at h
 | [_],_,h=>by simp[dz]at h
 | a::b::r,p,h=>by
  unfold dz at h;rcases List.mem_cons.1 h with rfl | h
  ·exact⟨0,by simp,rfl,rfl⟩
  ·obtain⟨i,G,U,e⟩:=X3 h;exact⟨i+2,by grind,by omega,e⟩
theorem X4(cl:z4'):∀ l:List bw,((dz cl l).map (·.1)).Sublist (l.map (·.1))
 | []=>.slnil
 | [_]=>List.nil_sublist _
 | a::b::r=>by
  unfold dz;simp only[List.map_cons];exact ((X4 cl r).cons _).cons_cons _
theorem X5(l:List a7):((gZ l).map (·.1)).Nodup:=by
 unfold gZ;have key:∀ L:z1',L.Nodup->((L.filterMap λid=>l.find? λs=>s.1 == id).map (·.1)).Nodup/\∀ k∈(L.filterMap λid=>l.find? λs=>s.1 == id).map (·.1),k∈L:=by
  grind
 refine (key _ ?_).1;unfold ee;show List.Pairwise _ _;rw[List.pairwise_map];exact (List.pairwise_lt_range).imp λh=>by omega
theorem Pe(c:a1):((fk c).map (·.1)).Nodup:=by
 unfold fk;exact (X5 c.2.1).sublist (List.filter_sublist.map _)
theorem Pf{c:a1}{a b:a7}(a8:a∈fk c)(W:b∈fk c)(h:a.1=b.1):a=b:=by
 exact Bm (Pe c) a8 W h
theorem Pg(c:a1)(w:z1')(u:Int):((b6 c w u).map (·.1)).Perm ((fk c).filter λs=>decide (uI s=u)):=by
 unfold b6 o9;refine ((Eu h1 _).map _).trans ?_;rw[List.map_map];exact List.Perm.of_eq (List.map_id' _)
theorem X6{c:a1}{w:z1'}{p:bw}(h:p∈ns c w):∃ u,0<=u/\u<=9/\∃ i,∃ G:i+1<(b6 c w u).length,i % 2=0/\p=((b6 c w u)[i].1,l_ c.2.2.2.1 (b6 c w u)[i].2 (b6 c w u)[i+1].2):=by
 rw[IC,List.mem_flatMap]at h;obtain⟨u,hu,an⟩:=h;obtain⟨i,G,U,e⟩:=X3 an;exact⟨u,(pT.1 hu).1,(pT.1 hu).2,i,G,U,e⟩
theorem Bn{c:a1}{w:z1'}{p:bw}(h:p∈ns c w):p.1∈fk c:=by
 obtain⟨u,_,_,i,G,_,rfl⟩:=X6 h;exact (EB (List.getElem_mem (by omega:i<(b6 c w u).length))).1
theorem am2{c:a1}{w:z1'}(hw:iy c w=true){p:bw}(h:p∈ns c w):ea p.1=1:=by
 obtain⟨u,E,U,i,G,ag,rfl⟩:=X6 h;have:=(Pb (IB hw ⟨E,U⟩) (by omega:i<(b6 c w u).length)).1;grind
theorem Ph(c:a1)(w:z1'):((ns c w).map (·.1)).Nodup:=by
 have hc:(fk c).Nodup:=by
  have:=Pe c;exact List.Pairwise.of_map _ (λa b h e=>h (by rw[e])) this
 have hu:∀ u,((dz c.2.2.2.1 (b6 c w u)).map (·.1)).Nodup/\∀ s∈(dz c.2.2.2.1 (b6 c w u)).map (·.1),uI s=u:=by
  intro u;have aD:=X4 c.2.2.2.1 (b6 c w u);have an:=Pg c w u;grind
 rw[IC,List.map_flatMap];have key:∀ L:z1',L.Nodup->(L.flatMap λu=>(dz c.2.2.2.1 (b6 c w u)).map (·.1)).Nodup/\∀ s∈(L.flatMap λu=>(dz c.2.2.2.1 (b6 c w u)).map (·.1)),uI s∈L:=by
  grind
 refine (key _ ?_).1;unfold ee;show List.Pairwise _ _;rw[List.pairwise_map];exact (List.pairwise_lt_range).imp λh=>by omega
theorem X7{ak:Type}(yF:ak->Int):∀ (l:List ak) (n:Int),l.foldl (λn x=>n+yF x) n=n+(l.map yF).sum
 | [],n=>by simp
 | x::l,n=>by simp only[List.foldl_cons,List.map_cons,List.sum_cons];rw[X7 yF l];omega
theorem am3{ak:Type}{f g:ak->Int}{l:List ak}(h:∀ x∈l,f x=g x):(l.map f).sum=(l.map g).sum:=by rw[List.map_congr_left h]
theorem am4{ψ:bw->Int}:∀ (C:List a7) (H:List bw),(C.map (·.1)).Nodup->(H.map (·.1)).Nodup->(∀ p∈H,p.1∈C)->(C.map λs=>(((H.find? λp=>p.1.1 == s.1).map ψ).getD 0)).sum=(H.map ψ).sum:=by
 intro C H jq mW rA;have e:(H.map ψ).sum=((C.filterMap λs=>H.find? λp=>p.1.1 == s.1).map ψ).sum:=by
  refine am0 (List.Perm.map ψ ?_);have am5:H.Nodup:=List.Pairwise.of_map _ (λa b h e=>h (by rw[e])) mW;refine (List.perm_ext_iff_of_nodup am5 ?_).2 λp=>?_
  ·have:∀ C:List a7,(C.map (·.1)).Nodup->(C.filterMap λs=>H.find? λp=>p.1.1 == s.1).Nodup/\∀ q∈(C.filterMap λs=>H.find? λp=>p.1.1 == s.1),q.1.1∈C.map (·.1):=by
    grind
   grind
  ·rw[List.mem_filterMap];constructor
   ·intro an;refine⟨p.1,rA p an,?_⟩;have hex:(H.find? λq=>q.1.1 == p.1.1).isSome=true:=List.find?_isSome.2 ⟨p,an,by simp⟩;obtain⟨q,bp⟩:=Option.isSome_iff_exists.1 hex;have EL:q.1.1=p.1.1:=by grind
    have wo:=List.mem_of_find?_eq_some bp;have am6:q.1=p.1:=Bm jq (rA q wo) (rA p an) EL;have:q=p:=Bm mW wo an am6;grind
   grind
 rw[e];have:∀ C:List a7,(C.map λs=>(((H.find? λp=>p.1.1 == s.1).map ψ).getD 0)).sum=((C.filterMap λs=>H.find? λp=>p.1.1 == s.1).map ψ).sum:=by
  intro C;induction C with
  | nil=>rfl
  | cons s C aH=>
   grind
 grind
def uS(c:a1)(g:Int)(p:bw):Int:=if ih p.1=g then jz c.2.2.2.2 p.2 else 0
theorem am7{c:a1}{w:z1'}(hw:iy c w=true)(g:Int):yw c w g=((ns c w).map (uS c g)).sum:=by
 rw[<-am4 (ψ:=uS c g) (fk c) (ns c w) (Pe c) (Ph c w) λp an=>Bn an];unfold yw;have e:(λ(n:Int) (s:a7)=>if (ea s=1/\ih s=g)/\(ix c w (jW s)).isSome=true then n+jz c.2.2.2.2 ((ix c w (jW s)).getD 0) else n)=λn s=>n+(if (ea s=1/\ih s=g)/\(ix c w (jW s)).isSome=true then jz c.2.2.2.2 ((ix c w (jW s)).getD 0) else 0):=by
  grind
 rw[e,X7,Int.zero_add];refine am3 λs aD=>?_;rw[Pd hw];cases ar:(ns c w).find? λp=>p.1.1 == jW s with
 | none=>simp
 | some p=>
  have an:=List.mem_of_find?_eq_some ar;have E:p.1.1=s.1:=by grind
  have U:p.1=s:=Pf (Bn an) aD E;have ag:=am2 hw an;rw[U]at ag;simp only[Option.map_some,Option.getD_some,Option.isSome_some,and_true,ag,true_and,uS,U]
theorem yG(c:a1)(b:Bool):((eE c b).2≠0/\(eE c b).1=[]/\tj c b=(none,(eE c b).2))\/(eE c b=(cO c,0)/\cN c=0/\b=true/\tj c b=(some (uR c),0)):=by
 unfold eE tj;by_cases hc:cN c=0
 ·cases b with
  | false=>left;simp[hc]
  | true=>
   by_cases aL:cO c=[]
   ·left;simp[hc,aL]
   ·right;simp[hc,aL]
 ·left;simp[hc]
theorem Pj{ak β:Type}{f g:ak->Option β}:∀ {l:List ak},(∀ x∈l,f x=g x)->l.filterMap f=l.filterMap g
 | [],_=>rfl
 | x::l,h=>by
  rw[List.filterMap_cons,List.filterMap_cons,h x (by simp),Pj λy aR=>h y (by simp[aR])]
theorem X8:tf []=(0,0):=rfl
theorem am8{ak:Type}(L:List ak)(P:ak->Option dO)(f:Option dO->A (Int×Bool))(v:ak->Int×Bool)(h:∀ w∈L,f (P w)=A.pure (v w)):wm (L.map P) f=yx (L.filterMap λw=>if (v w).2=true then some (v w).1 else none):=by
 unfold wm;rw[List.filterMap_map];refine congrArg yx (Pj λw hw=>?_);simp only[Function.comp,h w hw,A.e4]
theorem X9{ak:Type}(yF:ak->Int)(L:List ak):(L.filterMap λw=>if ((yF w,true):Int×Bool).2=true then some ((yF w,true):Int×Bool).1 else none)=L.map yF:=by
 simp only[if_true];rw[<-List.filterMap_eq_map']
theorem wq{c:a1}(ai:(cO c).length<=60){f:Option dO->A (Int×Bool)}{v:z1'->Int×Bool}(h:∀ w∈cO c,f (iz c w)=A.pure (v w)):Bk.sh (some (uR c),f)=A.pure ((yx ((cO c).filterMap λw=>if (v w).2=true then some (v w).1 else none)).getD (0,0),(yx ((cO c).filterMap λw=>if (v w).2=true then some (v w).1 else none)).isSome):=by
 refine (A.bO ⟨uR c,rfl,show ((cO c).map (iz c)).length<=60 by simpa using ai,λt aL=>?_⟩ _).trans (congrArg A.pure ?_)
 ·show ((wm ((cO c).map (iz c)) f).getD (0,0),(wm ((cO c).map (iz c)) f).isSome)=_;rw[am8 _ _ f v h]
 ·obtain⟨w,hw,rfl⟩:=List.mem_map.1 aL;exact⟨_,h w hw⟩
theorem am9:∀ {l:z1'},(yx l).isSome=!l.isEmpty:=by
 intro l;have key:∀ (l:z1') (o:Option (Int×Int)),o.isSome=true->(l.foldl (λo n=>some (Bi o n)) o).isSome=true:=by
  intro l;induction l with
  | nil=>intro o h;exact h
  | cons n l aH=>intro o _;exact aH _ rfl
 cases l with
 | nil=>rfl
 | cons n l=>exact key l _ rfl
theorem EM{c:a1}{f:Option dZ->A Bool}{b:Bool}(h:fD c)(ar:cN c=0->f (some (c,fk c,[]))=A.pure b):wk.sh (c,f)=A.pure (tj c b):=by
 refine (A.bO ⟨h,λhc=>⟨b,ar hc⟩⟩ _).trans (congrArg A.pure ?_);show tj c (EI c f)=tj c b;unfold tj EI;by_cases hc:cN c=0
 ·rw[ar hc,A.e4]
 ·simp[hc]
theorem EN{c:a1}(h:fD c)(hc:cN c=0):(cO c).length<=60:=Nat.le_trans (O4 c _ _) (h.2 hc)
theorem uT{c:a1}{w:z1'}(h:w∈cO c):iy c w=true:=O5 c _ _ _ h
abbrev Bo:aM:=⟨.az hq (.bG bq),dj,λx=>∃ k:Int,x.2=some k/\True,λx=>decide (jW x.1=x.2.getD 0)&&decide (ea x.1=1)⟩
theorem am_(x):A.le (ak6 x) (Bo.sh x):=A.bu λ_=>rfl
abbrev Pk:aM:=⟨.az (.bG s6) (.bG bq),dj,λx=>∃ (b:dZ) (k:Int),x.2=some k/\x.1=some b/\b.2.1.length<2 ^ 63,λx=>(x.1.getD (uQ,[],[])).2.1.any λs=>jW s == x.2.getD 0&&ea s == 1⟩
theorem am'(x):A.le (WQ (je hq).sh Bo.sh x) (Pk.sh x):=A.bu λh=>by
 obtain⟨o,k⟩:=x;obtain⟨b,_,_,W,h⟩:=h;change o=some b at W;subst W;unfold WQ;simp only[Option.isSome_some,A.bn,Option.getD_some];have ae:∀ s,Bo.sh (s,some (k.getD 0))=A.pure (decide (jW s=k.getD 0)&&decide (ea s=1)):=λs=>A.bO ⟨_,rfl,trivial⟩ _;rw[show (je hq).sh (b.2.1,λs=>Bo.sh (s,some (k.getD 0)))=A.pure (b.2.1.any λs=>(Bo.sh (s,some (k.getD 0))).val false) from A.bO ⟨h,λs _=>⟨_,ae s⟩⟩ _,A.aF];refine congrArg A.pure ?_;show _=b.2.1.any λs=>jW s == k.getD 0&&ea s == 1;refine congrArg (λp=>b.2.1.any p) ?_;funext s;rw[ae,A.e4];rw[Bool.eq_iff_iff];simp
theorem X_{f:Int->A Int}{n:Int}:∀ (L:List bw),(∀ p∈L,p.1.1=n->∃ v,f p.2=A.pure v)->
  jQ (λ(D:Int×(Int->A Int)×Int×Bool×Unit) (y:a7×Int)=>A.bind (if decide (y.1.1=D.1)=true then A.bind (D.2.1 y.2) λy=>A.pure (di.ret,y,true,()) else A.pure
 (di.normal,D.2.2.1,D.2.2.2.1,())) λp=>A.pure (p.1,D.1,D.2.1,p.2.1,p.2.2.1,())) L (n,f,0,false,())=(L.find? λp=>p.1.1 == n).elim (A.pure (di.normal,n,f,0,false,())) λp=>A.pure (di.ret,n,f,(f p.2).val 0,true,())
 | [],_=>rfl
 | p::L,h=>by
  unfold jQ;by_cases an:p.1.1=n
  ·obtain⟨v,ae⟩:=h p (by simp) an;simp[an,ae]
  ·have aH:=X_ L λq bp=>h q (by simp[bp]);simp only[an,decide_false,Bool.false_eq_true,if_false,A.aF];rw[aH,List.find?_cons_of_neg (by simpa using an)]
abbrev Pl:aM:=⟨.az (.bG ym) (.az (.bG (.bG s6)) (.az (.bG bq) (.bG (.fn bq bq)))),.az bq .bool,λx=>∃ (t:dO) (b:dZ) (n:Int) (f:Int->A Int),x=(some t,some (some b),some n,some f)/\EK b.1 t.2/\∀ p∈p3 b.1 t.2,p.1.1=n->∃ v,f p.2=A.pure v,λx=>((p3 ((x.2.1.getD none).getD (uQ,[],[])).1 (x.1.getD ([],[])).2).find? λp=>p.1.1 == x.2.2.1.getD 0).elim (0,false) λp=>(((x.2.2.2.getD λ_=>A.fail) p.2).val 0,true)⟩
theorem ana(x):A.le (WR Bl.sh x) (Pl.sh x):=A.sX λh=>by
 obtain⟨t,b,n,f,rfl,E,U⟩:=h;unfold WR;simp only[Option.getD_some];rw[show Bl.sh (some b,some t)=A.pure (tk (some (some t),some (some b))) from rfl,A.aF,A.fY];refine⟨⟨_,t,b,rfl,rfl,E,rfl⟩,λL iO=>?_⟩;obtain⟨cV,bd,ax,aO,_,rfl⟩:=iO;cases ax;cases aO;rw[X_ (f:=f) (n:=n) _ U];show A.cu _ λy=>y=((p3 b.1 t.2).find? λp=>p.1.1 == n).elim (0,false) λp=>((f p.2).val 0,true)
 cases (p3 b.1 t.2).find? λp=>p.1.1 == n with
 | none=>simp only[Option.elim,A.aF,sI];exact A.d_.2 rfl
 | some p=>simp only[Option.elim,A.aF,sI];exact A.d_.2 rfl
abbrev Bp:aM:=⟨.az kp (.az bq (.fn bq bq)),.az l7 bq,λx=>fD x.1/\∀ w∈cO x.1,∀ m,cN x.1=0->ix x.1 w x.2.1=some m->∃ v,x.2.2 m=A.pure v,λx=>(tf ((kM x.1 x.2.1).1.map λm=>(x.2.2 m).val 0),(kM x.1 x.2.1).2)⟩
theorem anb(x):A.le (Wx wk.sh Bk.sh Pk.sh Pl.sh x) (Bp.sh x):=A.bu λh=>by
 obtain⟨c,n,f⟩:=x;obtain⟨h,ar⟩:=h;change fD c at h;change ∀ w∈cO c,∀ m,cN c=0->ix c w n=some m->∃ v,f m=A.pure v at ar;unfold Wx;show _=A.pure (tf ((kM c n).1.map λm=>(f m).val 0),(kM c n).2);unfold kM;rw[EM (b:=Bg c n) h λhc=>A.bO ⟨(c,fk c,[]),n,rfl,rfl,by have:=(l9 hc).Iy;show (fk c).length<2 ^ 63;omega⟩ _];rcases yG c (Bg c n) with⟨E,U,ag⟩ | ⟨E,U,ag,a6⟩
 ·rw[ag];simp only[A.aF];rw[if_pos (by simpa using E),if_pos E];rfl
 ·rw[E,a6];simp only[A.aF];rw[if_neg (by simp)];have aB:=l9 U;rw[wq (v:=λw=>(ix c w n).elim (0,false) λm=>((f m).val 0,true)) (EN h U) λw hw=>?_,A.aF]
  ·have e:((cO c).filterMap λw=>if ((ix c w n).elim ((0,false):Int×Bool) λm=>((f m).val 0,true)).2=true then some ((ix c w n).elim ((0,false):Int×Bool) λm=>((f m).val 0,true)).1 else none)=((cO c).filterMap λw=>ix c w n).map λm=>(f m).val 0:=by
    rw[List.map_filterMap];refine Pj λw _=>?_;cases ix c w n<;>rfl
   rw[e,am9];generalize (cO c).filterMap (λw=>ix c w n)=l;cases l with
   | nil=>rfl
   | cons m l=>simp;rfl
  ·have aL:=uT hw;have vy:=Pd aL n;refine (A.bO ⟨(w,nq c w),uR c,n,f,rfl,X2 aB aL,λp an X'=>?_⟩ _).trans (congrArg A.pure ?_)
   ·show ((ns c w).find? λp=>p.1.1 == n).elim (0,false) (λp=>((f p.2).val 0,true))=_;rw[vy];cases (ns c w).find? λp=>p.1.1 == n<;>rfl
   ·refine ar w hw p.2 U ?_;rw[vy];have hex:((ns c w).find? λq=>q.1.1 == n).isSome=true:=List.find?_isSome.2 ⟨p,an,by simpa using X'⟩;obtain⟨q,bp⟩:=Option.isSome_iff_exists.1 hex;have EL:q.1.1=n:=by have:=List.find?_some bp;simpa using this
    have wo:=List.mem_of_find?_eq_some bp;have aD:q.1=p.1:=Pf (Bn wo) (Bn an) (EL.trans X'.symm);have:q=p:=Bm (Ph c w) wo an aD;rw[bp,this];rfl
abbrev yH:aM:=⟨bq,bq,λ_=>True,λx=>x⟩
theorem anc(x):A.le (akV x) (yH.sh x):=A.bu λ_=>rfl
theorem ane(x):A.le (Wl Bp.sh yH.sh x) (yy.sh x):=A.bu λh=>by
 obtain⟨c,n⟩:=x;change fD c at h;unfold Wl;rw[show Bp.sh (c,n,yH.sh)=A.pure (tf ((kM c n).1.map λm=>(yH.sh m).val 0),(kM c n).2) from A.bO ⟨h,λ_ _ m _ _=>⟨m,rfl⟩⟩ _];simp only[A.aF];show _=A.pure (qX c n);unfold qX;have:((kM c n).1.map λm=>(yH.sh m).val 0)=(kM c n).1:=by
  have:(λm:Int=>(yH.sh m).val 0)=λm=>m:=by
   funext m;exact A.e4
  rw[this,List.map_id']
 rw[this]
abbrev yI:aM:=⟨.az bq (.bG kp),bq,λx=>∃ c:a1,x.2=some c/\yu (c.2.2.2.2,x.1),λx=>jz (x.2.getD uQ).2.2.2.2 x.1⟩
theorem anf(x):A.le (Wy wi.sh x) (yI.sh x):=A.bu λh=>by
 obtain⟨m,q⟩:=x;obtain⟨c,hc,h⟩:=h;change q=some c at hc;subst hc;unfold Wy;simp only[Option.getD_some];rw[show wi.sh (c.2.2.2.2,m)=A.pure (jz c.2.2.2.2 m) from A.bO h _,A.aF]
theorem Ya{c:a1}(aB:g_ c){w:z1'}(hw:iy c w=true){n m:Int}(hm:ix c w n=some m):yI.sh (m,some c)=A.pure (jz c.2.2.2.2 m):=by
 have:=IA aB (Bh aB.O0 hw) hm;exact A.bO ⟨c,rfl,aB.Ey,show -100000<=m by omega,show m<=20000 by omega⟩ _
theorem ang{c:a1}{n m:Int}(hm:m∈(kM c n).1):cN c=0/\∃ w,iy c w=true/\w∈cO c/\ix c w n=some m:=by
 unfold kM at hm;split at hm
 ·simp at hm
 ·split at hm
  ·simp at hm
  ·rw[List.mem_filterMap]at hm;obtain⟨w,hw,he⟩:=hm;obtain⟨E,U,ag,_⟩:=amw hw;exact⟨E,w,ag,U,he⟩
theorem anh(x):A.le (Wk Bp.sh yI.sh x) (yz.sh x):=A.bu λh=>by
 obtain⟨c,n⟩:=x;change fD c at h;unfold Wk;rw[show Bp.sh (c,n,λm=>yI.sh (m,some c))=A.pure (tf ((kM c n).1.map λm=>(yI.sh (m,some c)).val 0),(kM c n).2) from A.bO ⟨h,λw hw m hc hm=>⟨_,Ya (l9 hc) (uT hw) hm⟩⟩ _];simp only[A.aF];show _=A.pure (qY c n);unfold qY;have:((kM c n).1.map λm=>(yI.sh (m,some c)).val 0)=(kM c n).1.map λm=>jz c.2.2.2.2 m:=by
  refine List.map_congr_left λm hm=>?_;obtain⟨hc,w,hw,_,he⟩:=ang hm;rw[Ya (l9 hc) hw he,A.e4]
 rw[this]
abbrev Pm:aM:=⟨.az (.bG s6) (.bG bq),dj,λx=>∃ k:Int,x.2=some k/\True,λx=>bZ (x.2.getD 0) 0 99⟩
theorem ani(x):A.le (WD v8.sh x) (Pm.sh x):=A.bu λ_=>by
 unfold WD;rw[show v8.sh (x.2.getD 0)=A.pure (bZ (x.2.getD 0) 0 99) from rfl,A.aF]
abbrev Pn:aM:=⟨.az (.bG ym) (.az (.bG (.bG s6)) (.az (.bG bq) (.bG kp))),.az bq .bool,λx=>∃ (t:dO) (b:dZ) (n:Int) (c:a1),x=(some t,some (some b),some n,some c)/\EK b.1 t.2/\(p3 b.1 t.2).length<=1000/\∀ p∈p3 b.1 t.2,yu (c.2.2.2.2,p.2),λx=>(((p3 ((x.2.1.getD none).getD (uQ,[],[])).1 (x.1.getD ([],[])).2).map (uS (x.2.2.2.getD uQ) (x.2.2.1.getD 0))).sum,true)⟩
theorem Po{c:a1}{n:Int}:∀ (L:List bw) (a:Int),(∀ p∈L,yu (c.2.2.2.2,p.2))->0<=a->a+100000*(L.length:Int)<=1000000000->
  jQ (λ(D:Int×a1×Int×Unit) (y:a7×Int)=>A.bind (if decide (y.1.2.2.2.2.2=D.1)=true then A.ad (wi.sh (D.2.1.2.2.2.2,y.2)).b1 (A.pure (di.normal,IntKind.wrap
 .i64 (Add.add D.2.2.1 (A.val (wi.sh (D.2.1.2.2.2.2,y.2)) 0)),())) else A.pure (di.normal,D.2.2.1,())) λp=>A.pure (p.1,D.1,D.2.1,p.2.1,())) L (n,c,a,())=A.pure (di.normal,n,c,a+(L.map (uS c n)).sum,())
 | [],a,_,_,_=>by simp[jQ]
 | p::L,a,h,aT,E=>by
  unfold jQ;simp only[List.length_cons]at E;by_cases an:p.1.2.2.2.2.2=n
  ·have W:=XJ (h p (by simp));have ae:wi.sh (c.2.2.2.2,p.2)=A.pure (jz c.2.2.2.2 p.2):=A.bO (h p (by simp)) _;have hw:=bF (n:=a+jz c.2.2.2.2 p.2) (by omega) (by omega);have aH:=Po (c:=c) (n:=n) L (a+jz c.2.2.2.2 p.2) (λq bp=>h q (by simp[bp])) (by omega) (by omega);simp only[an,decide_true,if_true,ae,A.hQ,A.e4,A.bn,cn,hw,A.aF];simp only[cn]at aH;rw[aH,List.map_cons,List.sum_cons];rw[show uS c n p=jz c.2.2.2.2 p.2 from if_pos an];rw[Int.add_assoc]
  ·have aH:=Po (c:=c) (n:=n) L a (λq bp=>h q (by simp[bp])) aT (by omega);simp only[an,decide_false,Bool.false_eq_true,if_false,A.aF];rw[aH,List.map_cons,List.sum_cons];rw[show uS c n p=0 from if_neg an,Int.zero_add]
theorem anj(x):A.le (WG wi.sh Bl.sh x) (Pn.sh x):=A.sX λh=>by
 obtain⟨t,b,n,c,rfl,E,U,ag⟩:=h;unfold WG;simp only[Option.getD_some];rw[show Bl.sh (some b,some t)=A.pure (tk (some (some t),some (some b))) from rfl,A.aF,A.fY];refine⟨⟨_,t,b,rfl,rfl,E,rfl⟩,λL iO=>?_⟩;obtain⟨cV,bd,ax,aO,_,rfl⟩:=iO;cases ax;cases aO;rw[Po _ 0 ag (by omega) (by omega)];show A.cu _ λy=>y=(((p3 b.1 t.2).map (uS c n)).sum,true)
 simp only[A.aF,sI,Int.zero_add];exact A.d_.2 rfl
theorem Yb(cl:z4'):∀ l:List bw,(dz cl l).length<=l.length
 | []=>by simp[dz]
 | [_]=>by simp[dz]
 | a::b::r=>by unfold dz;simp only[List.length_cons];have:=Yb cl r;omega
theorem ank{c:a1}(aB:g_ c)(w:z1'):(ns c w).length<=1000:=by
 rw[IC];have:=O3 (λu=>dz c.2.2.2.1 (b6 c w u)) 12 (ee 0 9) λu _=>Nat.le_trans (Yb _ _) (EA aB w u);rw[show (ee 0 9).length=10 from by decide]at this;omega
theorem anl{c:a1}(aB:g_ c){w:z1'}(hw:iy c w=true){p:bw}(an:p∈ns c w):yu (c.2.2.2.2,p.2):=by
 have hex:((ns c w).find? λq=>q.1.1 == p.1.1).isSome=true:=List.find?_isSome.2 ⟨p,an,by simp⟩;obtain⟨q,bp⟩:=Option.isSome_iff_exists.1 hex;have EL:q.1.1=p.1.1:=by have:=List.find?_some bp;simpa using this
 have wo:=List.mem_of_find?_eq_some bp;have:q=p:=Bm (Ph c w) wo an (Pf (Bn wo) (Bn an) EL);have ae:ix c w p.1.1=some p.2:=by rw[Pd hw,bp,this];rfl
 have:=IA aB (Bh aB.O0 hw) ae;exact⟨aB.Ey,show -100000<=p.2 by omega,show p.2<=20000 by omega⟩
theorem anm(x):A.le (Wn wk.sh Bk.sh Pm.sh Pn.sh x) (yA.sh x):=A.bu λh=>by
 obtain⟨c,g⟩:=x;change fD c at h;unfold Wn;show _=A.pure (qZ c g);unfold qZ;rw[EM (b:=bZ g 0 99) h λhc=>A.bO ⟨g,rfl,trivial⟩ _];rcases yG c (bZ g 0 99) with⟨E,U,ag⟩ | ⟨E,U,ag,a6⟩
 ·rw[U,ag];simp only[A.aF,List.map_nil,X8];rw[if_pos (by simpa using E)]
 ·rw[E,a6];simp only[A.aF];rw[if_neg (by simp)];have aB:=l9 U;rw[wq (v:=λw=>(yw c w g,true)) (EN h U) λw hw=>?_,A.aF,X9]
  ·rfl
  ·have aL:=uT hw;refine (A.bO ⟨(w,nq c w),uR c,g,c,rfl,X2 aB aL,ank aB w,λp an=>anl aB aL an⟩ _).trans (congrArg A.pure ?_);show (((ns c w).map (uS c g)).sum,true)=_;rw[am7 aL]
def mJ(t:Int):List bw->bw×Bool->bw×Bool
 | [],b=>b
 | e::l,b=>mJ t l (if e.2<=t then (e,decide (ea e.1=1)) else b)
def ha(l:List bw)(t:Int):bw×Bool:=mJ t l (bE,false)
theorem Yc{t:Int}{e:bw}{l:List bw}{b:bw×Bool}(h:e.2<=t):mJ t (e::l) b=mJ t l (e,decide (ea e.1=1)):=by rw[mJ,if_pos h]
theorem Yd{t:Int}{e:bw}{l:List bw}{b:bw×Bool}(h:¬e.2<=t):mJ t (e::l) b=mJ t l b:=by rw[mJ,if_neg h]
theorem Ye(t:Int):∀ (l:List bw) (b:bw×Bool),l.foldl (λb e=>if e.2<=t then (e,decide (ea e.1=1)) else b) b=mJ t l b
 | [],_=>rfl
 | e::l,b=>Ye t l _
theorem ano(l:List bw)(t:Int)(h:∀ e∈l,ea e.1=1\/ea e.1=2):l' l t=(if (ha l t).2=true then ih (ha l t).1.1 else -1,(ha l t).1.2):=by
 have key:∀ (l:List bw) (b:bw×Bool),(∀ e∈l,ea e.1=1\/ea e.1=2)->l.foldl (λb e=>if e.2<=t then (if ea e.1=2 then (-1,e.2) else (ih e.1,e.2)) else b) (if b.2=true then ih b.1.1 else -1,b.1.2)=(if (mJ t l b).2=true then ih (mJ t l b).1.1 else -1,(mJ t l b).1.2):=by
  intro l;induction l with
  | nil=>intro b _;rfl
  | cons e l aH=>
   intro b h;rw[List.foldl_cons];by_cases he:e.2<=t
   ·rw[Yc he,<-aH (e,decide (ea e.1=1)) λx ah=>h x (by grind),if_pos he];grind
   ·rw[Yd he,if_neg he];grind
 exact key l (bE,false) h
theorem Yf(l:List bw)(t:Int):ha l t=(bE,false)\/((ha l t).1∈l/\(ha l t).1.2<=t/\(ha l t).2=decide (ea (ha l t).1.1=1)):=by
 have key:∀ (l:List bw) (b:bw×Bool),mJ t l b=b\/((mJ t l b).1∈l/\(mJ t l b).1.2<=t/\(mJ t l b).2=decide (ea (mJ t l b).1.1=1)):=by
  intro l;induction l with
  | nil=>intro b;exact .inl rfl
  | cons e l aH=>
   intro b;by_cases he:e.2<=t
   ·rw[Yc he];grind
   ·rw[Yd he];grind
 exact key l (bE,false)
abbrev Pp(t:dO):Prop:=t.2.length=10/\∀ l∈t.2,l.length<=12
abbrev yJ:aM:=⟨.az (.bG ym) (.az bq bq),.az Ik .bool,λx=>∃ t:dO,x.1=some t/\Pp t/\0<=x.2.1/\x.2.1<=9,λx=>ha ((x.1.getD ([],[])).2.getD x.2.1.toNat []) x.2.2⟩
theorem anp(x):A.le (Wv x) (yJ.sh x):=A.bu λh=>by
 obtain⟨o,u,m⟩:=x;obtain⟨t,E,⟨U,ag⟩,a6,bM⟩:=h;change o=some t at E;change 0<=u at a6;change u<=9 at bM;subst E;unfold Wv;show _=A.pure (ha (t.2.getD u.toNat []) m);simp only[Option.isSome_some,A.bn,Option.getD_some];rw[A.bt (show (0:Int)<=u/\u<Int.ofNat 10 by grind)];have hm:t.2.getD u.toNat []∈t.2:=yg a6 (by omega);have ai:=ag _ hm;generalize t.2.getD u.toNat []=l at *
 rw[A.et l (λi (b:bw×Bool)=>(m,b.2,l,(l.length:Int),(i:Int),bE,b.1,())) (λe b=>.next (if e.2<=m then (e,decide (ea e.1=1)) else b)) (λb=>.next (b.2,bE,b.1,())) (bE,false) ?_ ?_ ?_]
 ·rw[fr,A.aF,Ye];rfl
 ·rfl
 ·intro i G b;have hw:=bF (n:=(i:Int)+1) (by omega) (by omega);simp only[Prod.cY,Prod.fa,bW,cX G,if_true,dk G,cH G,A.bn,cn,hw,V.ho,decide_eq_true_eq];by_cases he:l[i].2<=m
  ·simp_all
  ·simp only[he,if_false,A.aF,A.b2,hw];rfl
 simp
theorem Yg(c:a1)(w:z1'){u:Int}(aT:0<=u)(h:u<=9):(nq c w).getD u.toNat []=b6 c w u:=by
 have hu:u=0\/u=1\/u=2\/u=3\/u=4\/u=5\/u=6\/u=7\/u=8\/u=9:=by omega
 rcases hu with rfl | rfl | rfl | rfl | rfl | rfl | rfl | rfl | rfl | rfl<;>rfl
theorem Yh{c:a1}(aB:g_ c)(w:z1'):Pp (w,nq c w):=by
 refine⟨rfl,λl ai=>?_⟩;simp only[nq,List.mem_cons,List.not_mem_nil,or_false]at ai;rcases ai with rfl | rfl | rfl | rfl | rfl | rfl | rfl | rfl | rfl | rfl<;>exact EA aB w _
theorem Yi{c:a1}(aB:g_ c)(w:z1'){u t:Int}(aT:0<=u)(h:u<=9):yJ.sh (iz c w,u,t)=A.pure (ha (b6 c w u) t):=by
 refine (A.bO ⟨_,rfl,Yh aB w,aT,h⟩ _).trans (congrArg A.pure ?_);show ha ((nq c w).getD u.toNat []) t=_;rw[Yg c w aT h]
theorem anq{c:a1}(aB:g_ c){w:z1'}{u:Int}{e:bw}(he:e∈b6 c w u):ea e.1=1\/ea e.1=2/\ih e.1=0:=(Bb.1 (aB.Bc (EB he).1)).2.2.2.2.2
theorem Pq{c:a1}(aB:g_ c){w:z1'}{u:Int}{e:bw}(he:e∈b6 c w u):0<=ih e.1/\ih e.1<=99:=(Bb.1 (aB.Bc (EB he).1)).2.2.2.2.1
theorem ID{c:a1}(aB:g_ c){w:z1'}(hw:iy c w=true){u:Int}(hu:0<=u/\u<=9)(t:Int):l' (gH c w u) t=(if (ha (b6 c w u) t).2=true then ih (ha (b6 c w u) t).1.1 else -1,(ha (b6 c w u) t).1.2)/\(decide ((l' (gH c w u) t).1>=0)=(ha (b6 c w u) t).2):=by
 have e:=ano (b6 c w u) t λe he=>(anq aB he).imp id And.left;rw[Pc hw hu];refine⟨e,?_⟩;rw[e];cases W:(ha (b6 c w u) t).2 with
 | false=>simp
 | true=>
  simp only[if_true,decide_eq_true_eq];rcases Yf (b6 c w u) t with h | ⟨h,_⟩
  ·grind
  ·exact (Pq aB h).1
abbrev Bq:aM:=⟨.az (.bG s6) (.bG bq),dj,λx=>∃ k:Int,x.2=some k/\True,λx=>bZ (x.2.getD 0) 0 9999⟩
theorem Yj(x):A.le (WA yp.sh x) (Bq.sh x):=A.bu λ_=>by
 unfold WA;rw[show yp.sh (x.2.getD 0)=A.pure (bZ (x.2.getD 0) 0 9999) from rfl,A.aF]
theorem anr(x):A.le (ak3 yp.sh x) (Bq.sh x):=Yj x
def EO(t:dO)(m p:Int):Int:=(ee 0 9).foldl (λn u=>if (ha (t.2.getD u.toNat []) m).2=true then n+p else n) 0
abbrev Pr:aM:=⟨.az (.bG ym) (.az (.bG bq) (.bG kp)),.az bq .bool,λx=>∃ (t:dO) (m:Int) (c:a1),x=(some t,some m,some c)/\Pp t/\0<=c.2.2.2.2.2.2.2.2.2.2/\c.2.2.2.2.2.2.2.2.2.2<=100000,λx=>(EO (x.1.getD ([],[])) (x.2.1.getD 0) (x.2.2.getD uQ).2.2.2.2.2.2.2.2.2.2,true)⟩
theorem ans(x):A.le (WC yJ.sh x) (Pr.sh x):=A.bu λh=>by
 obtain⟨t,m,c,rfl,E,U,ag⟩:=h;unfold WC;simp only[Option.getD_some];show _=A.pure (EO t m c.2.2.2.2.2.2.2.2.2.2,true);rw[A.gv (ee 0 9) (λi (n:Int)=>(some t,m,c,n,(i:Int),())) (λu n=>.next (if (ha (t.2.getD u.toNat []) m).2=true then n+c.2.2.2.2.2.2.2.2.2.2 else n)) (λn=>.next (n,())) (λi n=>0<=n/\n<=100000*(i:Int)) 0 ?_ ?_ ?_ ?_]
 ·rw[fr,A.aF];rfl
 ·rfl
 ·omega
 ·intro i G n au;have G:i<10:=by simpa [ee]using G
  have hw:=bF (n:=(i:Int)+1) (by omega) (by omega);have gX:=bF (n:=n+c.2.2.2.2.2.2.2.2.2.2) (by omega) (by omega);have aq:decide ((i:Int)<10)=true:=by grind
  refine⟨?_,λbd dd=>?_⟩
  ·simp only[aq,if_true,D_,Int.zero_add];rw[show yJ.sh (some t,(i:Int),m)=A.pure (ha (t.2.getD ((i:Int)).toNat []) m) from A.bO ⟨t,rfl,E,by simp,by grind⟩ _];simp only[A.aF,cn,hw,gX,V.ho];by_cases al:(ha (t.2.getD ((i:Int)).toNat []) m).2=true
   ·simp only[al,if_true,A.aF,A.b2,hw];rfl
   ·simp only[al,Bool.false_eq_true,if_false,A.aF,A.b2,hw];rfl
  grind
 ·intro n au;have:(ee 0 9).length=10:=by decide
  simp[this]
theorem ant{c:a1}(aB:g_ c){w:z1'}(hw:iy c w=true)(m:Int):EO (w,nq c w) m c.2.2.2.2.2.2.2.2.2.2=yv c w m*c.2.2.2.2.2.2.2.2.2.2:=by
 unfold EO yv;have key:∀ (L:z1') (n:Int),(∀ u∈L,0<=u/\u<=9)->L.foldl (λn u=>if (ha ((nq c w).getD u.toNat []) m).2=true then n+c.2.2.2.2.2.2.2.2.2.2 else n) (n*c.2.2.2.2.2.2.2.2.2.2)=(L.foldl (λn u=>if (l' (gH c w u) m).1>=0 then n+1 else n) n)*c.2.2.2.2.2.2.2.2.2.2:=by
  intro L;induction L with
  | nil=>simp
  | cons u L aH=>
   intro n h;have hu:=h u (by simp);obtain⟨_,U⟩:=ID aB hw hu m;simp only[List.foldl_cons];rw[Yg c w hu.1 hu.2];grind
 have:=key (ee 0 9) 0 λu hu=>pT.1 hu;grind
theorem anu(x):A.le (Wm wk.sh Bk.sh Bq.sh Pr.sh x) (yB.sh x):=A.bu λh=>by
 obtain⟨c,t⟩:=x;change fD c at h;unfold Wm;show _=A.pure (q0 c t);unfold q0;rw[EM (b:=bZ t 0 9999) h λhc=>A.bO ⟨t,rfl,trivial⟩ _];rcases yG c (bZ t 0 9999) with⟨E,U,ag⟩ | ⟨E,U,ag,a6⟩
 ·rw[U,ag];simp only[A.aF,List.map_nil,X8];grind
 ·rw[E,a6];simp only[A.aF];rw[if_neg (by simp)];have aB:=l9 U;have an:=(Iz.1 aB.Ey).2.2.2.2.2.2;rw[wq (v:=λw=>(yv c w t*c.2.2.2.2.2.2.2.2.2.2,true)) (EN h U) λw hw=>?_,A.aF,X9]
  ·rfl
  ·refine (A.bO ⟨(w,nq c w),t,c,rfl,Yh aB w,an.1,an.2⟩ _).trans (congrArg A.pure ?_);show (EO (w,nq c w) t c.2.2.2.2.2.2.2.2.2.2,true)=_;rw[ant aB (uT hw)]
theorem Yk(p:Int×Int)(m:z4')(k v:Int):e' (p::m) k v=if decide (k=p.1)=true then (p.1,v)::m else p::e' m k v:=rfl
theorem Ps(k v:Int):∀ m:z4',((m.map (·.1)).Nodup->((e' m k v).map (·.1)).Nodup)/\∀ x,x∈(e' m k v).map (·.1)<->x∈m.map (·.1)\/x=k
 | []=>by
  rw[show e' [] k v=[(k,v)] from rfl];simp
 | p::m=>by
  obtain⟨E,U⟩:=Ps k v m;rw[Yk];grind
theorem Yl(k v:Int){B:Int}:∀ m:z4',(∀ p∈m,0<=p.2/\p.2<=B)->0<=v/\v<=B->∀ p∈e' m k v,0<=p.2/\p.2<=B
 | [],_,ae,p,an=>by
  rw[show e' [] k v=[(k,v)] from rfl,List.mem_singleton]at an;grind
 | q::m,h,ae,p,an=>by
  rw[Yk]at an;split at an
  ·grind
  ·rcases List.mem_cons.1 an with rfl | an
   ·grind
   ·exact Yl k v m (λx ah=>h x (by grind)) ae p an
def lB(c:a1)(w:z1')(u t:Int):Int:=if (ha (b6 c w u) t).2=true then ih (ha (b6 c w u) t).1.1 else -1
def yK(m:z4')(k:Int):Int:=Option.getD (Option.map (λx=>x.2) (List.find? (λp=>decide (k=p.1)) m)) 0
structure Br(L:z1')(i:Nat)(m:z4'):Prop where
 mE:(m.map (·.1)).Nodup
 mem:∀ x,x∈m.map (·.1)<->x∈L
 val:∀ p∈m,0<=p.2/\p.2<=(i:Int)
theorem Br.add{L:z1'}{i:Nat}{m:z4'}(h:Br L i m)(k:Int)(G:i<=60):IntKind.wrap .i64 (yK m k+1)=yK m k+1/\Br (L++[k]) (i+1) (e' m k (yK m k+1)):=by
 have W:0<=yK m k/\yK m k<=(i:Int):=by
  unfold yK;cases ar:m.find? λp=>decide (k=p.1) with
  | none=>simp
  | some p=>exact h.val p (List.mem_of_find?_eq_some ar)
 refine⟨bF (by omega) (by omega),(Ps _ _ _).1 h.mE,λx=>?_,Yl _ _ _ (λp an=>by have:=h.val p an;omega) (by omega)⟩;rw[(Ps _ _ _).2,h.mem];simp
theorem anv{c:a1}(aB:g_ c){w:z1'}(hw:iy c w=true){u:Int}(hu:0<=u/\u<=9):((b6 c w u).filter λe=>ea e.1 == 1).length<=11:=by
 have ai:=EA aB w u;by_cases ayL:(b6 c w u).length=12
 ·have E:=(Pb (IB hw hu) (by omega:1<(b6 c w u).length)).1;have E:ea (b6 c w u)[1].1=2:=E;have hm:=List.getElem_mem (by omega:1<(b6 c w u).length);have:((b6 c w u).filter λe=>ea e.1 == 1).length<(b6 c w u).length:=by
   refine List.length_filter_lt_length_iff_exists.2 ⟨_,hm,by grind⟩
  omega
 grind
theorem anw(c:a1)(w w':z1')(u:Int):(((b6 c w u).filter λe=>ea e.1 == 1).map (·.1)).Perm (((b6 c w' u).filter λe=>ea e.1 == 1).map (·.1)):=by
 have e:∀ w,((b6 c w u).filter λe=>ea e.1 == 1).map (·.1)=((b6 c w u).map (·.1)).filter λs=>ea s == 1:=λw=>by rw[List.filter_map];rfl
 rw[e,e];exact ((Pg c w u).trans (Pg c w' u).symm).filter _
theorem Pt(c:a1)(w:z1')(u t:Int):lB c w u t=-1\/∃ s∈((b6 c w u).filter λe=>ea e.1 == 1).map (·.1),lB c w u t=ih s:=by
 unfold lB;rcases Yf (b6 c w u) t with h | ⟨E,U,ag⟩
 ·left;rw[h];rfl
 ·by_cases W:(ha (b6 c w u) t).2=true
  ·right;rw[if_pos W];rw[ag]at W;exact⟨_,List.mem_map.2 ⟨_,List.mem_filter.2 ⟨E,by simpa using W⟩,rfl⟩,rfl⟩
  ·left;rw[if_neg W]
theorem anx{c:a1}(aB:g_ c){u t:Int}(hu:0<=u/\u<=9){K:z1'}(au:K.Nodup)(iM:∀ x∈K,x∈(cO c).map λw=>lB c w u t):K.length<=12:=by
 cases aU:cO c with
 | nil=>
  rw[aU]at iM;cases K with
  | nil=>simp
  | cons x K=>have:=iM x (by simp);grind
 | cons w0 T=>
  have AK:iy c w0=true:=uT (by grind);have rA:K ⊆ -1::(((b6 c w0 u).filter λe=>ea e.1 == 1).map (·.1)).map ih:=by
   intro x ah;obtain⟨w,hw,rfl⟩:=List.mem_map.1 (iM x ah);rcases Pt c w u t with h | ⟨s,aD,h⟩
   ·grind
   ·rw[h];exact List.mem_cons_of_mem _ (List.mem_map_of_mem ((anw c w w0 u).mem_iff.1 aD))
  have:=au.length_le_of_subset rA;have ayM:=anv aB AK hu;grind
abbrev Pu:aM:=⟨.az (.bG s6) (.az (.bG bq) (.bG bq)),dj,λx=>∃ a b:Int,x.2=(some a,some b),λx=>wj (x.2.1.getD 0) (x.2.2.getD 0)⟩
theorem anz(x):A.le (Wt cp.sh yp.sh x) (Pu.sh x):=A.bu λ_=>by
 unfold Wt;rw[amx,A.aF,show yp.sh (x.2.2.getD 0)=A.pure (bZ (x.2.2.getD 0) 0 9999) from rfl,A.kn,A.aF,vV];rfl
theorem Ym{c:a1}(aB:g_ c){w:z1'}(hw:iy c w=true){u:Int}(hu:0<=u/\u<=9)(t:Int):(l' (gH c w u) t).1=lB c w u t:=by rw[(ID aB hw hu t).1];rfl
theorem anA(x):A.le (Wj wk.sh yJ.sh s9.sh It.sh Pu.sh x) (yC.sh x):=A.sX λh=>by
 obtain⟨c,u,t⟩:=x;change fD c at h;unfold Wj;show A.cu _ λy=>y=nn c u t;unfold nn O6;rw[EM (b:=wj u t) h λhc=>A.bO ⟨u,t,rfl⟩ _];rcases yG c (wj u t) with⟨E,U,ag⟩ | ⟨E,U,ag,a6⟩
 ·rw[U,ag];simp only[A.aF];rw[if_pos (by grind)];refine A.d_.2 ?_;simp
 ·rw[E,a6];simp only[A.aF];rw[if_neg (by simp)];have aB:=l9 U;have cK:(0<=u/\u<=9)/\0<=t/\t<=9999:=by
   unfold wj at ag;rw[Bool.and_eq_true,og,og]at ag;exact ag
  have hu:=cK.1;have hlen:=EN h U;simp only[Option.isSome_some,A.bn,Option.getD_some];show A.cu (A.bind (A.loop _ ((cO c).map (iz c),_,0,u,t,[],())) _) _;rw[A.fY];refine (A.Cd (p:=λz=>∃ m,z=.next (m,())/\Br ((cO c).map λw=>lB c w u t) 60 m) (λD=>∃ (i:Nat) (m:z4'),i<=(cO c).length/\D=((cO c).map (iz c),(((cO c).map (iz c)).length:Int),(i:Int),u,t,m,())/\Br (((cO c).take i).map λw=>lB c w u t) i m) (λD=>((cO c).length - D.2.2.1).toNat) ?_ _ ⟨0,[],Nat.zero_le _,rfl,⟨.nil,by simp,by simp⟩⟩).mono ?_
  ·rintro D ⟨i,m,oN,rfl,bm⟩;by_cases G:i<(cO c).length
   ·have dz:i<((cO c).map (iz c)).length:=by grind
    have hw:=bF (n:=(i:Int)+1) (by omega) (by omega);have hm:=List.getElem_mem G;obtain⟨b',a2⟩:=bm.add (lB c (cO c)[i] u t) (by omega);have p1:((cO c).take (i+1)).map (λw=>lB c w u t)=((cO c).take i).map (λw=>lB c w u t)++[lB c (cO c)[i] u t]:=by
     rw[List.take_add_one,List.getElem?_eq_getElem G,Option.toList_some,List.map_append];rfl
    simp only[Prod.cY,bW,cX dz,if_true,dk dz,cH dz,A.bn,List.getElem_map];rw[Yi aB _ hu.1 hu.2,A.aF];have fin:∀ k,k=lB c (cO c)[i] u t->(∃ (lj:Nat) (dw:z4'),lj<=(cO c).length/\(((cO c).map (iz c),(((cO c).map (iz c)).length:Int),IntKind.wrap .i64 ((i:Int)+1),u,t,e' m k (IntKind.wrap .i64 (yK m k+1)),()):List (Option dO)×Int×Int×Int×Int×z4'×Unit)=((cO c).map (iz c),(((cO c).map (iz c)).length:Int),(lj:Int),u,t,dw,())/\Br (((cO c).take lj).map λw=>lB c w u t) lj dw)/\((cO c).length - IntKind.wrap .i64 ((i:Int)+1)).toNat<((cO c).length - (i:Int)).toNat:=by
     grind
    cases W:(ha (b6 c (cO c)[i] u) t).2 with
    | true=>
     simp only[if_true];rw[A.aF,A.b2];exact A.d_.2 (fin _ (by unfold lB;grind))
    | false=>
     simp only[Bool.false_eq_true,if_false];rw[A.aF,A.b2];exact A.d_.2 (fin (-1) (by unfold lB;grind))
   ·have anB:i=(cO c).length:=by omega
    subst anB;have aq:decide (((cO c).length:Int)<(((cO c).map (iz c)).length:Int))=false:=by simp
    simp only[aq,Bool.false_eq_true,if_false,A.aF];refine A.d_.2 ⟨m,rfl,bm.mE,?_,λp an=>by have:=bm.val p an;omega⟩;have:=bm.mem;grind
  ·rintro z ⟨m,rfl,bm⟩;rw[A.b2];rw[show It.sh m=A.pure (jX (some m)) from rfl,A.aF];have anC:m.length<=12:=by
    have:=anx aB hu (t:=t) bm.mE λx ah=>(bm.mem x).1 ah;grind
   rw[show s9.sh (jX (some m))=A.pure (ft hs (m.map (·.1))) from (A.bO (Xr (by omega)) _).trans (congrArg A.pure Xs),A.aF];refine A.d_.2 ?_;have ax:ft hs (m.map (·.1))=(ee (-1) 99).filter λg=>((cO c).map λw=>(l' (gH c w u) t).1).contains g:=by
    have anD:((cO c).map λw=>(l' (gH c w u) t).1)=(cO c).map λw=>lB c w u t:=List.map_congr_left λw hw=>Ym aB (uT hw) hu t;rw[anD];have G:(ee (-1) 99).Pairwise (·<·):=by
     unfold ee;rw[List.pairwise_map];exact (List.pairwise_lt_range).imp λh=>by omega
    refine A2 ((G.filter _).imp λh=>Int.le_of_lt h) ((List.perm_ext_iff_of_nodup bm.mE ((G.filter _).imp λh=>by omega)).2 λk=>?_);rw[bm.mem,List.mem_filter,pT];simp only[List.contains_iff_mem];refine⟨λal=>⟨?_,al⟩,λal=>al.2⟩;obtain⟨w,hw,rfl⟩:=List.mem_map.1 al;rcases Pt c w u t with h | ⟨s,aD,h⟩
    ·omega
    ·rw[h];obtain⟨e,he,rfl⟩:=List.mem_map.1 aD;have:=Pq aB (List.mem_filter.1 he).1;omega
   rw[ax]
def Pv(c:a1)(l:List bw)(t:Int):Bool:=(ha l t).2&&decide (l_ c.2.2.2.1 (ha l t).1.2 t>=c.2.2.2.2.2.2.2.2.1)
theorem anE{c:a1}(aB:g_ c){w:z1'}(hw:iy c w=true){u:Int}(hu:0<=u/\u<=9)(t:Int):Pv c (b6 c w u) t=EF c w u t:=by
 obtain⟨E,U⟩:=ID aB hw hu t;unfold Pv EF;grind
theorem anF(x):A.le (Wr wk.sh yJ.sh wh.sh Bq.sh x) (yD.sh x):=A.bu λh=>by
 obtain⟨c,t⟩:=x;change fD c at h;unfold Wr;show _=A.pure (np c t);unfold np;rw[EM (b:=bZ t 0 9999) h λhc=>A.bO ⟨t,rfl,trivial⟩ _];rcases yG c (bZ t 0 9999) with⟨E,U,ag⟩ | ⟨E,U,ag,a6⟩
 ·rw[ag];simp only[A.aF];grind
 ·rw[E,a6];simp only[A.aF];rw[if_neg (by simp),if_neg (by simp)];have aB:=l9 U;have aL:=og.1 ag;have hlen:=EN h U;have aU:∀ w∈cO c,iy c w=true:=λw hw=>uT hw;rw[A.gv (ee 0 9) (λi (b:z1'×z1')=>(some (uR c),(i:Int),c,t,b.1,b.2,())) (λu b=>.next (if decide (o_ c (cO c) u t=(cO c).length)=true then b.1++[u] else b.1,if decide (o_ c (cO c) u t > 0)=true then b.2++[u] else b.2)) (λb=>.next (b.1,b.2,())) (λi b=>b.1.length<=i/\b.2.length<=i) ([],[]) ?_ (by simp) ?_ ?_]
  ·rw[fr,A.aF,A.b2];have key:∀ (p q:Int->Bool) (l:z1') (a b:z1'),l.foldl (λ(z:z1'×z1') u=>(if p u=true then z.1++[u] else z.1,if q u=true then z.2++[u] else z.2)) (a,b)=(a++l.filter p,b++l.filter q):=by
    intro p q l;induction l with
    | nil=>simp
    | cons u l aH=>
     intro a b;simp only[List.foldl_cons];rw[aH];cases an:p u<;>cases bp:q u<;>simp[an,bp]
   rw[key (λu=>decide (o_ c (cO c) u t=(cO c).length)) (λu=>decide (o_ c (cO c) u t > 0))];simp
  ·rfl
  ·intro i G b iG;have G:i<10:=by simpa [ee]using G
   have hw:=bF (n:=(i:Int)+1) (by omega) (by omega);have aq:decide ((i:Int)<10)=true:=by grind
   refine⟨?_,λbd dd=>?_⟩
   ·simp only[aq,if_true,D_,Int.zero_add,Prod.cY,Option.isSome_some,A.bn,Option.getD_some];rw[A.gv (cO c) (λk (n:Nat)=>(some (uR c),(i:Int),(n:Int),(i:Int),(cO c).map (iz c),(((cO c).map (iz c)).length:Int),(k:Int),c,t,b.1,b.2,())) (λw n=>.next (if EF c w i t=true then n+1 else n)) (λn=>.next (some (uR c),(i:Int),(n:Int),(i:Int),c,t,b.1,b.2,())) (λk n=>n<=k) 0 ?_ (by simp) ?_ ?_]
    ·rw[fr];have key:∀ (l:List (z1')) (n:Nat),l.foldl (λn w=>if EF c w i t=true then n+1 else n) n=n+o_ c l i t:=by
      intro l;induction l with
      | nil=>intro n;rfl
      | cons w l aH=>
       intro n;simp only[List.foldl_cons];rw[aH];unfold o_;grind
     rw[key,Nat.zero_add,A.aF,A.b2];have Ca:((cO c).map (iz c)).length=(cO c).length:=List.length_map _;simp only[Prod.cY,Prod.fa,Prod.gw,bW,Option.isSome_some,A.bn,Option.getD_some,Ca];have ey:b9 (Add.add b.1.length (Add.add 0 1)):=fs (by grind);have pn:b9 (Add.add b.2.length (Add.add 0 1)):=fs (by grind);have d1:decide ((o_ c (cO c) i t:Int) > 0)=decide (o_ c (cO c) i t > 0):=by simp
     have d2:decide ((o_ c (cO c) i t:Int)=((cO c).length:Int))=decide (o_ c (cO c) i t=(cO c).length):=by grind
     rw[d1];cases E:decide (o_ c (cO c) i t > 0)<;>cases U:decide (o_ c (cO c) i t=(cO c).length)<;>
      simp only[if_true,Bool.false_eq_true,if_false,A.bt ey,A.bt pn,A.aF,A.b2,Option.isSome_some,A.bn,Option.getD_some,Ca,d2,U,cn,hw,V.ho]<;>rfl
    ·rfl
    ·intro k al n au;have wc:k<((cO c).map (iz c)).length:=by grind
     have hw:=bF (n:=(k:Int)+1) (by omega) (by omega);have gX:=bF (n:=(n:Int)+1) (by omega) (by omega);have kW:=aU _ (List.getElem_mem al);have mK:=Bh U kW;have hu:0<=(i:Int)/\(i:Int)<=9:=by omega
     have ud:=anE aB kW hu t;obtain⟨b_,c7⟩:=ID aB kW hu t;refine⟨?_,λbd dd=>?_⟩
     ·simp only[Prod.cY,Prod.fa,Prod.gw,Prod.h0,Prod.jV,Prod.k3,bW,cX wc,if_true,dk wc,cH wc,A.bn,cn,hw,List.getElem_map];rw[Yi aB _ hu.1 hu.2,A.aF,<-ud];unfold Pv;cases W:(ha (b6 c (cO c)[k] (i:Int)) t).2 with
      | true=>
       have CH:Bd (c,(ha (b6 c (cO c)[k] (i:Int)) t).1.2,t):=by
        have:=amy aB mK aL.2 (u:=(i:Int)) (t:=t) (by grind);grind
       have anG:wh.sh (c,(ha (b6 c (cO c)[k] (i:Int)) t).1.2,t)=A.pure (l_ c.2.2.2.1 (ha (b6 c (cO c)[k] (i:Int)) t).1.2 t):=A.bO CH _;simp only[anG,A.hQ,A.e4,Bool.true_and,and_self,forall_const,A.bn,true_and];by_cases hm:l_ c.2.2.2.1 (ha (b6 c (cO c)[k] (i:Int)) t).1.2 t>=c.2.2.2.2.2.2.2.2.1
       ·simp_all
       ·simp only[hm,decide_false,Bool.false_eq_true,if_false,A.aF,A.b2,hw,V.ho];rfl
      | false=>
       simp_all
     grind
    simp
   grind
  ·intro b iG;rfl
def Yn(Pw:a1->A Int)(x:a1):A Bool:=
 if (decide (Int.ofNat (List.length x.1) > 20)||decide (Int.ofNat (List.length x.2.1) > 40)||decide (Int.ofNat (List.length x.2.2.1) > 60)||decide (Int.ofNat (List.length x.2.2.2.1) > 40))=true then A.pure true else A.bind (Pw x) λy=>if decide (y≠0)=true then A.pure false else A.bind (A.loop (λ(D:Int×Int×a1×Unit)=>letI b:=List.getD D.2.2.1.1 (Int.toNat D.2.1) (0,0);letI a:=D.2.1<Int.ofNat (List.length D.2.2.1.1);if decide a=true then A.ad (0<=D.2.1/\a) (A.ad (0<=D.2.1/\a) (A.pure (V.next (IntKind.wrap .i64 (D.1*IntKind.wrap .i64 (Add.add (IntKind.wrap .i64 (b.2-b.1)) 1)),IntKind.wrap .i64 (Add.add D.2.1 1),D.2.2.1,())))) else A.bind (A.pure (V.next (D.1,()))) λr=>A.pure (V.done r)) (1,0,x,())) (V.bD (λ(D:Int×Unit)=>A.pure (decide (D.1 > 60))))
def ma(c:a1):Bool:=decide (c.1.length > 20)||decide (c.2.1.length > 40)||decide (c.2.2.1.length > 60)||decide (c.2.2.2.1.length > 40)||(decide (cN c=0)&&decide (kr c.1 > 60))
theorem Yo:∀ (l:z4') (n:Nat),l.foldl (λn s=>n*(s.2 - s.1+1).toNat) n=n*kr l
 | [],n=>by simp[kr]
 | s::l,n=>by simp only[List.foldl_cons,kr];rw[Yo l,Nat.mul_assoc]
abbrev wu:aM:=⟨kp,dj,j6,ma⟩
theorem anH(x):A.le (Yn h2.sh x) (wu.sh x):=A.bu λh=>by
 unfold Yn;show _=A.pure (ma x);simp only[bW];by_cases aD:(decide ((x.1.length:Int) > 20)||decide ((x.2.1.length:Int) > 40)||decide ((x.2.2.1.length:Int) > 60)||decide ((x.2.2.2.1.length:Int) > 40))=true
 ·rw[if_pos aD];refine congrArg A.pure ?_;unfold ma;grind
 ·rw[if_neg aD,show h2.sh x=A.pure (cN x) from A.bO h _,A.aF];have e:ma x=(decide (cN x=0)&&decide (kr x.1 > 60)):=by
   unfold ma;grind
  rw[e];by_cases hc:cN x=0
  ·have aB:=l9 hc;rw[if_neg (by grind)];have au:=aB.dN;rw[A.gv x.1 (λi (n:Nat)=>((n:Int),(i:Int),x,())) (λs n=>.next (n*(s.2 - s.1+1).toNat)) (λn=>.next ((n:Int),())) (λi n=>n<=61 ^ i) 1 ?_ ?_ ?_ ?_]
   ·rw[fr,Yo,Nat.one_mul,A.aF,A.b2];grind
   ·rfl
   ·simp
   ·intro i G n hZ;have al:=aB.clk _ (List.getElem_mem G);have W:n<=61 ^ 3:=Nat.le_trans hZ (Nat.pow_le_pow_right (by omega) (by omega));have hw:=bF (n:=(i:Int)+1) (by omega) (by omega);have b_:=bF (n:=x.1[i].2 - x.1[i].1) (by omega) (by omega);have c7:=bF (n:=x.1[i].2 - x.1[i].1+1) (by omega) (by omega);have zZ:((n*(x.1[i].2 - x.1[i].1+1).toNat:Nat):Int)=(n:Int)*(x.1[i].2 - x.1[i].1+1):=by
     grind
    have hm:n*(x.1[i].2 - x.1[i].1+1).toNat<=61 ^ (i+1):=by
     rw[Nat.pow_succ];exact Nat.mul_le_mul hZ (by omega)
    have HN:n*(x.1[i].2 - x.1[i].1+1).toNat<=61 ^ 4:=Nat.le_trans hm (Nat.pow_le_pow_right (by omega) (by omega));have eV:=bF (n:=(n:Int)*(x.1[i].2 - x.1[i].1+1)) (by omega) (by omega);simp_all
   simp
  grind
theorem anI{c:a1}(h:ma c=false):fD c:=by
 unfold ma at h;simp only[Bool.or_eq_false_iff,decide_eq_false_iff_not,Bool.and_eq_false_imp,decide_eq_true_eq]at h;obtain⟨⟨⟨⟨E,U⟩,ag⟩,a6⟩,bM⟩:=h;exact⟨⟨by omega,by omega,by omega,by omega⟩,λhc=>by omega⟩
end Go.Fer.H
namespace Go.Fer
open A (V)
abbrev aK:Type:=List UInt8
abbrev ba:Type:=bI×H.a1
abbrev wv:Type:=z2'×List (List (Int×z1'×Int×Int))×Int×Int×z2'×z1'×List dx×List dL×List Ef×Unit
abbrev Bs:Type:=Int×Bool×Option Nat
abbrev k7(l:List (aK×Bs))(a:aK)(b:Bs):List (aK×Bs):=lN (k:=.str) (v:=.st (.az (.int .i64) (.az .bool .en))) l a b
def Yp(Pw:H.a1->A Int)(Px:bI->A Int)(x:ba):A Int:=
 A.bind (Px x.1) λy=>A.bind (ct (!(decide (y≠0))) (Pw x.2) 0) λb3=>if (decide (y≠0)||decide (b3≠0))=true then A.pure 120 else A.pure 0
def Yq(anJ:ba->A Int)(anK:ba×Unit->A (ba×Unit))(anL:Unit->A (List (aK×Int×Bool×Option Nat)))(anM:List (aK×Int×Bool×Option Nat)×aK×ba×Unit->A (aK×ba×Unit))(x:ba×List aK):A (List aK×ba×Int):=
 letI d:=Int.ofNat (List.length x.2);A.bind (anJ x.1) λy=>if decide (y≠0)=true then A.pure ([],((([],[],0,[]),[],[],[],[],0),[],[],[],[],0,0,0,0,0,0,0),y) else if decide (d > 40)=true then A.pure ([],((([],[],0,[]),[],[],[],[],0),[],[],[],[],0,0,0,0,0,0,0),2) else A.bind (anK (x.1,())) λy=>A.bind (anL ()) λb3=>A.bind (A.loop (λ(D:List (aK×Int×Bool×Option Nat)×List aK×Int×Int×List aK×Int×Int×Int×Int×Int×Int×Int×Int×Int×ba×Unit)=>letI b:=D.2.2.2;letI a:=b.2.2.2.2;letI c:=a.2.2.2.2;if decide (b.1<D.2.2.1)=true then A.ad (0<=b.1/\b.1<Int.ofNat (List.length D.2.1)) (A.bind (anM (D.1,List.getD D.2.1 (Int.toNat b.1) [],c.2.2.2.1,())) (λy=>A.ad (b9 (Add.add (List.length b.2.1) (Add.add 0 1))) (A.pure (V.next (D.1,D.2.1,D.2.2.1,IntKind.wrap .i64 (Add.add b.1 1),b.2.1++[y.1],b.2.2.1,b.2.2.2.1,a.1,a.2.1,a.2.2.1,a.2.2.2.1,c.1,c.2.1,c.2.2.1,y.2.1,()))))) else A.bind (A.pure (V.next (b.2.1,b.2.2.1,b.2.2.2.1,a.1,a.2.1,a.2.2.1,a.2.2.2.1,c.1,c.2.1,c.2.2.1,c.2.2.2.1,()))) λr=>A.pure (V.done r)) (b3,x.2,d,0,[],0,0,0,0,0,0,0,0,0,y.1,())) (V.bD (λ(D:List aK×Int×Int×Int×Int×Int×Int×Int×Int×Int×ba×Unit)=>A.ad True (A.pure (D.1,D.2.2.2.2.2.2.2.2.2.2.1,0))))
def Yr(Eh:bI->A Int)(AX:H.a1->A Int)(x:ba):A Int:=
 A.bind (Eh x.1) λy=>A.bind (ct (!(decide (y≠0))) (AX x.2) 0) λb3=>if (decide (y≠0)||decide (b3≠0))=true then A.pure 120 else A.pure 0
def Ys(Py:H.a1×z7'×z1'->A (H.a1×Int))(Yt:bI->A bI)(x:ba×Unit):A (ba×Unit):=
 A.bind (Py (x.1.2,[],[])) λy=>A.ad (Yt x.1.1).b1 (A.pure ((A.val (Yt x.1.1) (([],[],0,[]),[],[],[],[],0),y.1),()))
def anN(x:Unit):A (List (aK×Int×Bool×Option Nat)):=
 A.pure (k7 (k7 (k7 (k7 (k7 (k7 (k7 (k7 (k7 (k7 (k7 (k7 (k7 (k7 (k7 (k7 (k7 (k7 (k7 (k7 [] [108,101,110,100] (5,false,some 119)) [98,97,99,107] (4,false,some 120)) [118,111,105,100] (1,false,some 121)) [108,97,115,116,115] (1,false,some 122)) [102,101,101] (1,false,some 123)) [111,119,101,115] (1,false,some 124)) [104,101,108,100] (1,false,some 125)) [119,104,101,114,101] (2,false,some 126)) [109,105,115,115,105,110,103] (1,false,some 127)) [116,114,105,97,108] (4,false,some 128)) [102,105,116,115] (3,false,some 129)) [115,116,111,99,107] (2,false,some 130)) [99,111,109,101,115] (3,false,some 131)) [112,105,101,99,101] (4,true,some 132)) [119,105,115,104] (5,true,some 133)) [100,114,111,112] (1,false,some 134)) [99,97,110] (1,false,some 135)) [116,97,107,101,115] (0,true,some 136)) [109,111,115,116] (0,false,some 137)) [101,120,116,114,97] (0,false,some 138))
def Yu(anO:aK×aK->A (List aK))(anP:aK->A (Int×Bool))(anQ:Nat->z1'×ba×Unit->A (aK×ba×Unit))(x:List (aK×Int×Bool×Option Nat)×aK×ba×Unit):A (aK×ba×Unit):=
 A.bind (anO (x.2.1,[32])) λy=>letI b:=Int.ofNat (List.length y);letI f:=IntKind.wrap .i64 (b-1);letI d:=List.drop (Int.toNat 1) (List.take (Int.toNat b) y);letI a:=Option.map (λx=>x.2) (List.find? (λp=>decide (List.getD y (Int.toNat 0) []=p.1)) x.1);letI c:=Option.getD a (0,false,none);A.ad ((0:Int)<=0/\0<b) (if (!(Option.isSome a)||decide (f<c.1)||decide (f > c.1)&&!c.2.1)=true then A.pure ([63],x.2.2.1,()) else A.bind (A.ad ((0:Int)<=1/\1<=b/\b<=b) (A.loop (λ(D:List aK×Int×Int×(Int×Bool×Option Nat)×z1'×ba×Unit)=>letI e:=D.2.2;if decide (e.1<D.2.1)=true then A.ad (0<=e.1/\e.1<Int.ofNat (List.length D.1)) (A.bind (anP (List.getD D.1 (Int.toNat e.1) [])) (λy=>if (!y.2)=true then A.bind (A.bind (A.pure ([63],e.2.2.2.1,())) (λr=>A.pure (V.done r))) λr=>A.pure (V.done r) else A.ad (b9 (Add.add (List.length e.2.2.1) (Add.add 0 1))) (A.pure (V.next (D.1,D.2.1,IntKind.wrap .i64 (Add.add e.1 1),e.2.1,e.2.2.1++[y.1],e.2.2.2.1,()))))) else A.bind (A.pure (V.next (e.2.1,e.2.2.1,e.2.2.2.1,()))) λr=>A.pure (V.done r)) (d,Int.ofNat (List.length d),0,c,[],x.2.2.1,()))) (V.bD (λ(D:(Int×Bool×Option Nat)×z1'×ba×Unit)=>A.bind (A.ad (∃ (k:Nat),List.Mem k [119,120,121,122,123,124,125,126,127,128,129,130,131,132,133,134,135,136,137,138]/\D.1.2.2=some k) (anQ (Option.getD D.1.2.2 0) (D.2.1,D.2.2.1,()))) λy=>A.pure (y.1,y.2.1,()))))
def Yv(EP:z7'×z1'×ba×Unit->A (aK×ba×Unit))(x:z1'×ba×Unit):A (aK×ba×Unit):=
 letI a:=Int.ofNat (List.length x.1);A.ad ((0:Int)<=0/\0<a) (A.ad ((0:Int)<=1/\1<a) (A.ad ((0:Int)<=2/\2<a) (A.ad ((0:Int)<=3/\3<a) (A.ad ((0:Int)<=4/\4<a) (A.bind (EP ([(List.getD x.1 (Int.toNat 0) 0,List.getD x.1 (Int.toNat 1) 0,List.getD x.1 (Int.toNat 2) 0,1,List.getD x.1 (Int.toNat 3) 0,List.getD x.1 (Int.toNat 4) 0)],[],x.2.1,())) (λy=>A.pure (y.1,y.2.1,())))))))
def Yw(Py:H.a1×z7'×z1'->A (H.a1×Int))(x:z7'×z1'×ba×Unit):A (aK×ba×Unit):=
 A.ad True (A.bind (Py (x.2.2.1.2,x.1,x.2.1)) (λy=>if decide (y.2≠0)=true then A.pure ([110,111],x.2.2.1,()) else A.ad True (A.pure ([111,107],(x.2.2.1.1,y.1),()))))
def Yx(EP:z7'×z1'×ba×Unit->A (aK×ba×Unit))(x:z1'×ba×Unit):A (aK×ba×Unit):=
 letI a:=Int.ofNat (List.length x.1);A.ad ((0:Int)<=0/\0<a) (A.ad ((0:Int)<=1/\1<a) (A.ad ((0:Int)<=2/\2<a) (A.ad ((0:Int)<=3/\3<a) (A.bind (EP ([(List.getD x.1 (Int.toNat 0) 0,List.getD x.1 (Int.toNat 1) 0,List.getD x.1 (Int.toNat 2) 0,2,List.getD x.1 (Int.toNat 3) 0,0)],[],x.2.1,())) (λy=>A.pure (y.1,y.2.1,()))))))
def Yy(EP:z7'×z1'×ba×Unit->A (aK×ba×Unit))(x:z1'×ba×Unit):A (aK×ba×Unit):=
 A.bind (EP ([],x.1,x.2.1,())) λy=>A.pure (y.1,y.2.1,())
def Yz(ER:H.a1×Int->A ((Int×Int)×Int))(rZ:(Int×Int)×Int->A aK)(x:z1'×ba×Unit):A (aK×ba×Unit):=
 letI a:=(x.2.1.2,List.getD x.1 (Int.toNat 0) 0);A.ad True (A.ad ((0:Int)<=0/\0<Int.ofNat (List.length x.1)) (A.ad (ER a).b1 (A.ad (rZ (A.val (ER a) ((0,0),0))).b1 (A.pure (A.val (rZ (A.val (ER a) ((0,0),0))) [],x.2.1,())))))
def YA(oj:Int×z1'->A aK)(x:(Int×Int)×Int):A aK:=
 A.bind (oj (x.2,[x.1.1,x.1.2])) λy=>A.pure y
def YB(Bt:z1'->A aK)(x:Int×z1'):A aK:=
 if decide (x.1=0)=true then A.bind (Bt x.2) λy=>A.pure y else if decide (x.1=3)=true then A.pure [110,111,110,101] else A.pure [110,111]
def YC(anR:Int->A aK)(anS:List aK×aK->A aK)(x:z1'):A aK:=
 letI b:=Int.ofNat (List.length x);if decide (b=0)=true then A.pure [110,111,110,101] else A.bind (A.loop (λ(D:z1'×Int×Int×List aK×Unit)=>letI a:=D.2.2;if decide (a.1<D.2.1)=true then A.ad (0<=a.1/\a.1<Int.ofNat (List.length D.1)) (A.bind (anR (List.getD D.1 (Int.toNat a.1) 0)) (λy=>A.ad (b9 (Add.add (List.length a.2.1) (Add.add 0 1))) (A.pure (V.next (D.1,D.2.1,IntKind.wrap .i64 (Add.add a.1 1),a.2.1++[y],()))))) else A.bind (A.pure (V.next (a.2.1,()))) λr=>A.pure (V.done r)) (x,b,0,[],())) (V.bD (λ(D:List aK×Unit)=>A.bind (anS (D.1,[32])) λy=>A.pure y))
def YD(ES:H.a1×Int->A ((Int×Int)×Int))(rZ:(Int×Int)×Int->A aK)(x:z1'×ba×Unit):A (aK×ba×Unit):=
 letI a:=(x.2.1.2,List.getD x.1 (Int.toNat 0) 0);A.ad True (A.ad ((0:Int)<=0/\0<Int.ofNat (List.length x.1)) (A.ad (ES a).b1 (A.ad (rZ (A.val (ES a) ((0,0),0))).b1 (A.pure (A.val (rZ (A.val (ES a) ((0,0),0))) [],x.2.1,())))))
def YE(ET:H.a1×Int->A ((Int×Int)×Int))(rZ:(Int×Int)×Int->A aK)(x:z1'×ba×Unit):A (aK×ba×Unit):=
 letI a:=(x.2.1.2,List.getD x.1 (Int.toNat 0) 0);A.ad True (A.ad ((0:Int)<=0/\0<Int.ofNat (List.length x.1)) (A.ad (ET a).b1 (A.ad (rZ (A.val (ET a) ((0,0),0))).b1 (A.pure (A.val (rZ (A.val (ET a) ((0,0),0))) [],x.2.1,())))))
def YF(EU:H.a1×Int->A ((Int×Int)×Int))(rZ:(Int×Int)×Int->A aK)(x:z1'×ba×Unit):A (aK×ba×Unit):=
 letI a:=(x.2.1.2,List.getD x.1 (Int.toNat 0) 0);A.ad True (A.ad ((0:Int)<=0/\0<Int.ofNat (List.length x.1)) (A.ad (EU a).b1 (A.ad (rZ (A.val (EU a) ((0,0),0))).b1 (A.pure (A.val (rZ (A.val (EU a) ((0,0),0))) [],x.2.1,())))))
def YG(nu:H.a1×Int×Int->A (z1'×Int))(oj:Int×z1'->A aK)(Bt:z1'->A aK)(x:z1'×ba×Unit):A (aK×ba×Unit):=
 letI b:=Int.ofNat (List.length x.1);letI a:=(x.2.1.2,List.getD x.1 (Int.toNat 0) 0,List.getD x.1 (Int.toNat 1) 0);A.ad True (A.ad ((0:Int)<=0/\0<b) (A.ad ((0:Int)<=1/\1<b) (A.ad (nu a).b1 (A.ad ((!(decide ((A.val (nu a) ([],0)).2≠0)))=true->((!(decide ((A.val (nu a) ([],0)).2≠0)))=true/\True)/\((0:Int)<=0/\0<Int.ofNat (List.length (A.val (nu a) ([],0)).1))/\True) (if (decide ((A.val (nu a) ([],0)).2≠0)||decide (List.getD (A.val (nu a) ([],0)).1 (Int.toNat 0) (0:Int)>=0))=true then A.bind (oj ((A.val (nu a) ([],0)).2,(A.val (nu a) ([],0)).1)) λy=>A.pure (y,x.2.1,()) else if decide (Int.ofNat (List.length (A.val (nu a) ([],0)).1)=1)=true then A.pure ([115,104,111,112],x.2.1,()) else A.ad ((0:Int)<=1/\1<=Int.ofNat (List.length (A.val (nu a) ([],0)).1)/\Int.ofNat (List.length (A.val (nu a) ([],0)).1)<=Int.ofNat (List.length (A.val (nu a) ([],0)).1)) (A.bind (Bt (List.drop (Int.toNat 1) (List.take (Int.toNat (Int.ofNat (List.length (A.val (nu a) ([],0)).1))) (A.val (nu a) ([],0)).1))) (λy=>A.ad (b9 (Add.add (Add.add (Add.add (Add.add (Add.add (Add.add 0 1) 1) 1) 1) 1) (List.length y))) (A.pure ([115,104,111,112,32]++y,x.2.1,())))))))))
def YH(yL:H.a1×Int->A (z1'×z1'×Int))(oj:Int×z1'->A aK)(Bt:z1'->A aK)(x:z1'×ba×Unit):A (aK×ba×Unit):=
 letI a:=(x.2.1.2,List.getD x.1 (Int.toNat 0) 0);A.ad True (A.ad ((0:Int)<=0/\0<Int.ofNat (List.length x.1)) (A.ad (yL a).b1 (if decide ((A.val (yL a) ([],[],0)).2.2≠0)=true then A.bind (oj ((A.val (yL a) ([],[],0)).2.2,[])) λy=>A.pure (y,x.2.1,()) else A.bind (Bt (A.val (yL a) ([],[],0)).1) λy=>A.ad (b9 (Add.add (List.length y) (Add.add (Add.add (Add.add 0 1) 1) 1))) (A.bind (Bt (A.val (yL a) ([],[],0)).2.1) (λb3=>A.ad (b9 (Add.add (List.length (y++[32,47,32])) (List.length b3))) (A.pure (y++[32,47,32]++b3,x.2.1,())))))))
def YI(H8:bz×Int->A ((Int×Int)×Int))(uU:bI×Unit->A (wv))(Ed:z2'×List (List (Int×z1'×Int×Int))×Int×z2'->A Int)(x:z1'×ba×Unit):A (aK×ba×Unit):=
 letI c:=List.getD x.1 (Int.toNat 0) 0;letI b:=Int.ofNat (List.length x.1);A.ad True (A.bind (uU (x.2.1.1,())) (λy=>letI d:=y.2.2.2.2;letI a:=(y.1,y.2.1,y.2.2.1,d.1++[(c,List.getD x.1 (Int.toNat 1) 0,List.getD x.1 (Int.toNat 2) 0,List.getD x.1 (Int.toNat 3) 0)]);A.ad True (A.ad ((0:Int)<=0/\0<b) (A.ad ((0:Int)<=1/\1<b) (A.ad ((0:Int)<=2/\2<b) (A.ad ((0:Int)<=3/\3<b) (A.ad (b9 (Add.add (List.length d.1) (Add.add 0 1))) (A.ad True (A.ad True (A.bind (Ed a) (λb3=>if decide (b3≠0)=true then A.pure ([110,111],x.2.1,()) else A.ad True (A.ad ((0:Int)<=0/\0<b) (A.ad (H8 (a,c)).b1 (if decide ((A.val (H8 (a,c)) ((0,0),0)).2≠0)=true then A.pure ([108,105,97,114],x.2.1,()) else A.ad True (A.pure ([111,107],((a,d.2.1,d.2.2.1,d.2.2.2.1,d.2.2.2.2.1,y.2.2.2.1),x.2.1.2),()))))))))))))))))
def YJ(sZ:bz×Int×Int×Int->A (Int×Int))(oj:Int×z1'->A aK)(x:z1'×ba×Unit):A (aK×ba×Unit):=
 letI b:=Int.ofNat (List.length x.1);letI a:=(x.2.1.1.1,List.getD x.1 (Int.toNat 0) 0,List.getD x.1 (Int.toNat 1) 0,List.getD x.1 (Int.toNat 2) 0);A.ad True (A.ad ((0:Int)<=0/\0<b) (A.ad ((0:Int)<=1/\1<b) (A.ad ((0:Int)<=2/\2<b) (A.ad (sZ a).b1 (if decide ((A.val (sZ a) (0,0)).2≠0)=true then A.bind (oj ((A.val (sZ a) (0,0)).2,[])) λy=>A.pure (y,x.2.1,()) else A.ad (0<=(A.val (sZ a) (0,0)).1/\(A.val (sZ a) (0,0)).1<Int.ofNat 4) (A.pure (List.getD [[],[115,117,114,101,108,121],[110,101,118,101,114],[112,101,114,104,97,112,115]] (Int.toNat (A.val (sZ a) (0,0)).1) [],x.2.1,())))))))
def YK(uU:bI×Unit->A (wv))(yM:bI×ba×Unit->A (aK×ba×Unit))(x:z1'×ba×Unit):A (aK×ba×Unit):=
 letI c:=Int.ofNat (List.length x.1);letI a:=List.getD x.1 (Int.toNat 0) 0;A.ad True (A.bind (uU (x.2.1.1,())) (λy=>letI d:=y.2.2.2.2.2;letI b:=Int.ofNat (List.length d.1);A.ad ((0:Int)<=0/\0<c) (if decide (a>=b)=true then A.pure ([110,111],x.2.1,()) else A.ad ((0:Int)<=0/\0<c) (A.ad (0<=a/\a<b) (A.ad ((0:Int)<=1/\1<c) (A.ad (0<=a/\a<b) (A.bind (yM (((y.1,y.2.1,y.2.2.1,y.2.2.2.2.1),List.set d.1 (Int.toNat a) (IntKind.wrap .i64 (Add.add (List.getD d.1 (Int.toNat a) 0) (List.getD x.1 (Int.toNat 1) 0))),d.2.1,d.2.2.1,d.2.2.2.1,y.2.2.2.1),x.2.1,())) (λy=>A.pure (y.1,y.2.1,())))))))))
def YL(Eh:bI->A Int)(x:bI×ba×Unit):A (aK×ba×Unit):=
 A.bind (Eh x.1) λy=>if decide (y≠0)=true then A.pure ([110,111],x.2.1,()) else A.ad True (A.pure ([111,107],(x.1,x.2.1.2),()))
def YM(uU:bI×Unit->A (wv))(yM:bI×ba×Unit->A (aK×ba×Unit))(x:z1'×ba×Unit):A (aK×ba×Unit):=
 letI a:=Int.ofNat (List.length x.1);A.ad True (A.bind (uU (x.2.1.1,())) (λy=>letI b:=y.2.2.2.2.2;A.ad ((0:Int)<=0/\0<a) (A.ad ((0:Int)<=1/\1<a) (A.ad ((0:Int)<=2/\2<a) (A.ad (b9 (Add.add (List.length b.2.2.2.1) (Add.add 0 1))) (A.bind (yM (((y.1,y.2.1,y.2.2.1,y.2.2.2.2.1),b.1,b.2.1,b.2.2.1,b.2.2.2.1++[(List.getD x.1 (Int.toNat 0) 0,List.getD x.1 (Int.toNat 1) 0,List.getD x.1 (Int.toNat 2) 0)],y.2.2.2.1),x.2.1,())) (λy=>A.pure (y.1,y.2.1,()))))))))
def YN(uU:bI×Unit->A (wv))(yM:bI×ba×Unit->A (aK×ba×Unit))(x:z1'×ba×Unit):A (aK×ba×Unit):=
 letI a:=Int.ofNat (List.length x.1);A.ad True (A.bind (uU (x.2.1.1,())) (λy=>letI b:=y.2.2.2.2.2;A.ad ((0:Int)<=0/\0<a) (A.ad ((0:Int)<=1/\1<a) (A.ad ((0:Int)<=2/\2<a) (A.ad ((0:Int)<=3/\3<a) (A.ad ((0:Int)<=4/\4<=a/\a<=a) (A.ad (b9 (Add.add (List.length b.2.1) (Add.add 0 1))) (A.bind (yM (((y.1,y.2.1,y.2.2.1,y.2.2.2.2.1),b.1,b.2.1++[(List.getD x.1 (Int.toNat 0) 0,List.getD x.1 (Int.toNat 1) 0,List.getD x.1 (Int.toNat 2) 0,List.getD x.1 (Int.toNat 3) 0,List.drop (Int.toNat 4) (List.take (Int.toNat a) x.1))],b.2.2.1,b.2.2.2.1,y.2.2.2.1),x.2.1,())) (λy=>A.pure (y.1,y.2.1,()))))))))))
def YO(uU:bI×Unit->A (wv))(yM:bI×ba×Unit->A (aK×ba×Unit))(x:z1'×ba×Unit):A (aK×ba×Unit):=
 letI a:=Int.ofNat (List.length x.1);A.ad True (A.bind (uU (x.2.1.1,())) (λy=>letI b:=y.2.2.2.2.2;A.ad ((0:Int)<=0/\0<a) (A.ad ((0:Int)<=1/\1<a) (A.ad ((0:Int)<=2/\2<a) (A.ad ((0:Int)<=3/\3<a) (A.ad ((0:Int)<=4/\4<a) (A.ad ((0:Int)<=5/\5<=a/\a<=a) (A.ad (b9 (Add.add (List.length b.2.2.1) (Add.add 0 1))) (A.bind (yM (((y.1,y.2.1,y.2.2.1,y.2.2.2.2.1),b.1,b.2.1,b.2.2.1++[(List.drop (Int.toNat 5) (List.take (Int.toNat a) x.1),(List.getD x.1 (Int.toNat 0) 0,List.getD x.1 (Int.toNat 1) 0),List.getD x.1 (Int.toNat 2) 0,List.getD x.1 (Int.toNat 3) 0,List.getD x.1 (Int.toNat 4) 0)],b.2.2.2.1,y.2.2.2.1),x.2.1,())) (λy=>A.pure (y.1,y.2.1,())))))))))))
def YP(YQ:List dL->A (List dL))(anT:Int×Int×List dL×Unit->A ((Nat×Nat)×List dL×Unit))(x:z1'×ba×Unit):A (aK×ba×Unit):=
 letI c:=x.2.1.1.2.2;letI b:=List.getD x.1 (Int.toNat 0) 0;letI a:=(0:Int)<=0/\0<Int.ofNat (List.length x.1);A.ad a (A.ad True (if decide (b>=Int.ofNat (List.length c.2.1))=true then A.pure ([110,111],x.2.1,()) else A.ad True (A.ad (YQ c.2.1).b1 (A.ad a (A.ad a (A.bind (anT (b,IntKind.wrap .i64 (Add.add b 1),A.val (YQ c.2.1) [],())) (λy=>A.ad True (A.pure ([111,107],((x.2.1.1.1,x.2.1.1.2.1,c.1,List.drop y.1.1 (List.take y.1.2 y.2.1),c.2.2),x.2.1.2),())))))))))
def YR(EV:bI×Int->A (z1'×Int))(oj:Int×z1'->A aK)(x:z1'×ba×Unit):A (aK×ba×Unit):=
 letI a:=(x.2.1.1,List.getD x.1 (Int.toNat 0) 0);A.ad True (A.ad ((0:Int)<=0/\0<Int.ofNat (List.length x.1)) (A.ad (EV a).b1 (A.bind (oj ((A.val (EV a) ([],0)).2,(A.val (EV a) ([],0)).1)) (λy=>A.pure (y,x.2.1,())))))
def YS(anU:bI×z1'->A (Int×Int))(anV:z1'×Unit->A (z1'×Unit))(oj:Int×z1'->A aK)(x:z1'×ba×Unit):A (aK×ba×Unit):=
 A.bind (anV (x.1,())) λy=>A.bind (A.loop (λ(D:Int×Int×z1'×ba×Unit)=>letI b:=D.2;letI a:=0<=b.1/\b.1<Int.ofNat (List.length b.2.1);if decide (b.1<D.1)=true then A.ad a (A.ad a (A.pure (V.next (D.1,IntKind.wrap .i64 (Add.add b.1 1),List.set b.2.1 (Int.toNat b.1) (IntKind.wrap .i64 (List.getD b.2.1 (Int.toNat b.1) 0-1)),b.2.2.1,())))) else A.bind (A.pure (V.next (b.2.1,b.2.2.1,()))) λr=>A.pure (V.done r)) (Int.ofNat (List.length y.1),0,y.1,x.2.1,())) (V.bD (λ(D:z1'×ba×Unit)=>A.ad True (A.bind (anU (D.2.1.1,D.1)) (λy=>A.bind (oj (y.2,[y.1])) λy=>A.pure (y,D.2.1,())))))
def YT(Pz:bI->A (Int×Int))(oj:Int×z1'->A aK)(x:z1'×ba×Unit):A (aK×ba×Unit):=
 A.ad True (A.bind (Pz x.2.1.1) (λy=>A.bind (oj (y.2,[y.1])) λy=>A.pure (y,x.2.1,())))
def YU(PA:bI->A (Int×Int))(oj:Int×z1'->A aK)(x:z1'×ba×Unit):A (aK×ba×Unit):=
 A.ad True (A.bind (PA x.2.1.1) (λy=>A.bind (oj (y.2,[y.1])) λy=>A.pure (y,x.2.1,())))
def YV(anW:ba×List aK->A Bool)(EW:ba->A Int)(x:ba×List aK×Int):A Bool:=
 A.bind (anW (x.1,x.2.1)) λy=>A.bind (ct (!y) (EW x.1) 0) λb3=>A.pure (!y&&decide (b3=0)&&decide (Int.ofNat (List.length x.2.1)<=x.2.2))
def YW(EW:ba->A Int)(anX:bI->A Bool)(anY:H.a1->A Bool)(anZ:aK->A (aK×z1'×Bool))(x:ba×List aK):A Bool:=
 A.bind (anX x.1.1) λy=>A.bind (ct (!y) (anY x.1.2) false) λb3=>if (y||b3||decide (Int.ofNat (List.length x.2) > 60))=true then A.pure true else A.bind (A.loop (λ(D:List aK×Int×Int×Int×Int×Int×ba×Unit)=>letI h:=D.2.2.2;letI b:=h.2.2;letI e:=b.1<Int.ofNat (List.length b.2.1.1.2.2.1);if decide e=true then A.ad (0<=b.1/\e) (A.pure (V.next (D.1,D.2.1,D.2.2.1,h.1,IntKind.wrap .i64 (Add.add h.2.1 (Int.ofNat (List.length (List.getD b.2.1.1.2.2.1 (Int.toNat b.1) (0,0,0,0,[])).2.2.2.2))),IntKind.wrap .i64 (Add.add b.1 1),b.2.1,()))) else A.bind (A.pure (V.next (D.1,D.2.1,D.2.2.1,h.1,h.2.1,b.2.1,()))) λr=>A.pure (V.done r)) (x.2,Int.ofNat (List.length x.1.1.2.2.2.1),Int.ofNat (List.length x.1.1.2.2.1),Int.ofNat (List.length x.1.1.2.2.2.2.1),0,0,x.1,())) (V.bD (λ(D:List aK×Int×Int×Int×Int×ba×Unit)=>A.bind (A.loop (λ(D:List aK×Int×Int×Int×Int×Int×ba×Unit)=>letI j:=D.2.1;letI d:=D.2.2;letI a:=d.2.2;letI i:=a.2.1;letI g:=a.2.2.1;letI f:=List.getD D.1 (Int.toNat i) [];letI c:=i<Int.ofNat (List.length D.1);if decide c=true then A.bind (A.ad (0<=i/\c) (if decide (Int.ofNat (List.length f) > 80)=true then A.bind (A.bind (A.bind (A.pure true) (λr=>A.pure (V.done r))) (λr=>A.pure (V.done r))) λr=>A.pure (V.done r) else A.ad (0<=i/\c) (A.bind (anZ f) (λy=>if (!y.2.2)=true then A.pure (V.next (D.1,j,d.1,d.2.1,a.1,i,g,())) else if decide (y.1=[119,105,115,104])=true then A.pure (V.next (D.1,IntKind.wrap .i64 (Add.add j 1),d.1,d.2.1,a.1,i,g,())) else if decide (y.1=[112,105,101,99,101])=true then A.pure (V.next (D.1,j,IntKind.wrap .i64 (Add.add d.1 1),d.2.1,IntKind.wrap .i64 (Add.add a.1 (IntKind.wrap .i64 (Int.ofNat (List.length y.2.1)-4))),i,g,())) else if decide (y.1=[99,111,109,101,115])=true then A.pure (V.next (D.1,j,d.1,IntKind.wrap .i64 (Add.add d.2.1 1),a.1,i,g,())) else A.pure (V.next (D.1,j,d.1,d.2.1,a.1,i,g,())))))) (V.bD (λ(D:List aK×Int×Int×Int×Int×Int×ba×Unit)=>letI k:=D.2.2.2;A.pure (V.next (D.1,D.2.1,D.2.2.1,k.1,k.2.1,IntKind.wrap .i64 (Add.add k.2.2.1 1),k.2.2.2.1,())))) else A.bind (A.pure (V.next (j,d.1,d.2.1,a.1,g,()))) λr=>A.pure (V.done r)) (D.1,D.2.1,D.2.2.1,D.2.2.2.1,D.2.2.2.2.1,0,D.2.2.2.2.2.1,())) (V.bD (λ(D:Int×Int×Int×Int×ba×Unit)=>A.bind (EW D.2.2.2.2.1) λy=>A.pure (decide (y=0)&&(decide (D.1 > 3)||decide (D.2.1 > 4)||decide (D.2.2.1 > 3)||decide (D.2.2.2.1 > 4)))))))
def YX(an0:aK->A (List aK))(an1:aK->A Int)(an2:Unit->A (List aK×z1'×z1'))(x:aK):A (aK×z1'×Bool):=
 A.bind (an0 x) λy=>A.bind (A.loop (λ(D:List aK×Int×z1'×Unit)=>letI j:=D.2.1<Int.ofNat (List.length D.1);if decide j=true then A.ad (0<=D.2.1/\j) (A.bind (an1 (List.getD D.1 (Int.toNat D.2.1) [])) (λy=>if decide (y<0)=true then A.bind (A.bind (A.pure ([],[],false)) (λr=>A.pure (V.done r))) λr=>A.pure (V.done r) else A.ad (b9 (Add.add (List.length D.2.2.1) (Add.add 0 1))) (A.pure (V.next (D.1,IntKind.wrap .i64 (Add.add D.2.1 1),D.2.2.1++[y],()))))) else A.bind (A.pure (V.next (D.1,D.2.2.1,()))) λr=>A.pure (V.done r)) (y,1,[],())) (V.bD (λ(D:List aK×z1'×Unit)=>A.bind (an2 ()) λy=>A.bind (A.loop (λ(D:List aK×List aK×z1'×z1'×Int×z1'×Unit)=>letI l:=List.getD D.1 (Int.toNat 0) [];letI h:=(0:Int)<=0/\0<Int.ofNat (List.length D.1);letI c:=D.2.2.2;letI m:=c.2.1;letI k:=Int.ofNat (List.length c.2.2.1);letI i:=m<Int.ofNat (List.length D.2.1);letI g:=Int.toNat m;letI f:=(0<=m/\m<Int.ofNat (List.length c.1))/\True;letI d:=decide (List.getD c.1 g (0:Int)<0);letI a:=decide (k>=List.getD D.2.2.1 g 0);letI e:=a=true;letI b:=(a&&!d)=true;letI n:=b->b/\True/\True;if decide i=true then A.ad (0<=m/\i) (A.ad h (if decide (List.getD D.2.1 g []=l)=true then A.ad h (A.ad (0<=m/\m<Int.ofNat (List.length D.2.2.1)) (A.ad (e->(e/\e)/\f) (A.ad (e->e/\True/\True) (A.ad (e->(e/\True)/\True/\True) (A.ad (e->True/\True/\e) (A.ad n (A.ad (b->(b/\b)/\f) (A.ad n (A.ad (b->(b/\b)/\True/\True) (A.ad (e->(e/\(d=false->b))/\True/\True) (A.ad (True/\(e->e)) (A.bind (A.bind (A.pure (l,c.2.2.1,a&&(d||decide (k<=List.getD c.1 g 0)))) (λr=>A.pure (V.done r))) (λr=>A.pure (V.done r)))))))))))))) else A.pure (V.next (D.1,D.2.1,D.2.2.1,c.1,IntKind.wrap .i64 (Add.add m 1),c.2.2.1,())))) else A.bind (A.pure (V.next ())) λr=>A.pure (V.done r)) (D.1,y.1,y.2.1,y.2.2,0,D.2.1,())) (V.bD (λ(D:Unit)=>A.pure ([],[],false)))))
def YY(x:aK):A (List aK):=
 A.bind (A.loop (λ(D:aK×Int×List aK×Unit)=>letI g:=D.2.1;letI f:=D.2.2.1;letI e:=Int.ofNat (List.length D.1);letI c:=Int.ofNat (List.length f);letI b:=IntKind.wrap .i64 (Add.add g 1);letI d:=List.drop (Int.toNat g) (List.take (Int.toNat b) D.1);letI a:=IntKind.wrap .i64 (c-1);letI h:=List.getD f (Int.toNat a) [];if decide (g<e)=true then A.bind (A.ad (0<=g/\g<e) (if decide (Int.ofNat (List.getD D.1 (Int.toNat g) 0).1.1.1=32)=true then A.ad (b9 (Add.add (List.length f) (Add.add 0 1))) (A.pure (V.next (D.1,g,f++[[]],()))) else A.ad (0<=a/\a<c) (A.ad (0<=g/\g<=b/\b<=e) (A.ad (b9 (Add.add (List.length h) (List.length d))) (A.ad (0<=a/\a<c) (A.pure (V.next (D.1,g,List.set f (Int.toNat a) (h++d),())))))))) (V.bD (λ(D:aK×Int×List aK×Unit)=>A.pure (V.next (D.1,IntKind.wrap .i64 (Add.add D.2.1 1),D.2.2.1,())))) else A.bind (A.pure (V.next (f,()))) λr=>A.pure (V.done r)) (x,0,[[]],())) (V.bD (λ(D:List aK×Unit)=>A.pure D.1))
def YZ(x:aK):A Int:=
 letI b:=Int.ofNat (List.length x);letI g:=decide (b > 1);letI d:=decide (b=0)||decide (b > 6);A.ad ((!d&&g)=true->((!d&&g)=true/\True)/\((0:Int)<=0/\0<b)/\True) (if (d||g&&decide (Int.ofNat (List.getD x (Int.toNat 0) 0).1.1.1=48))=true then A.pure (-1) else A.bind (A.loop (λ(D:aK×Int×Int×Unit)=>letI h:=D.2.2.1;letI c:=h<Int.ofNat (List.length D.1);letI f:=0<=h/\c;letI a:=Int.ofNat (List.getD D.1 (Int.toNat h) 0).1.1.1;letI e:=(!(decide (a<48)))=true;if decide c=true then A.ad f (A.ad (e->(e/\e)/\f/\True) (if (decide (a<48)||decide (a > 57))=true then A.bind (A.bind (A.pure (-1)) (λr=>A.pure (V.done r))) λr=>A.pure (V.done r) else A.ad f (A.pure (V.next (D.1,IntKind.wrap .i64 (Add.add (IntKind.wrap .i64 (10*D.2.1)) (IntKind.wrap .i64 (IntKind.wrap .u8 (a-48)))),IntKind.wrap .i64 (Add.add h 1),()))))) else A.bind (A.pure (V.next (D.2.1,()))) λr=>A.pure (V.done r)) (x,0,0,())) (V.bD (λ(D:Int×Unit)=>A.pure D.1)))
def an3(x:Unit):A (List aK×z1'×z1'):=
 A.pure ([[108,101,110,100],[98,97,99,107],[118,111,105,100],[108,97,115,116,115],[102,101,101],[111,119,101,115],[104,101,108,100],[119,104,101,114,101],[109,105,115,115,105,110,103],[116,114,105,97,108],[102,105,116,115],[115,116,111,99,107],[99,111,109,101,115],[112,105,101,99,101],[119,105,115,104],[100,114,111,112],[99,97,110],[116,97,107,101,115],[109,111,115,116],[101,120,116,114,97]],[5,4,1,1,1,1,1,2,1,4,3,2,3,4,5,1,1,0,0,0],[5,4,1,1,1,1,1,2,1,4,3,2,3,-1,-1,1,1,-1,0,0])
def Y0(IE:ba×List aK->A (List aK×ba×Int))(PB:List aK×List aK->A Bool)(an4:Unit->A ba)(x:Unit):A Bool:=
 A.bind (an4 ()) λy=>A.bind (IE (y,[[108,101,110,100,32,49,32,48,32,49,48,48,32,51,32,55],[98,97,99,107,32,50,32,48,32,49,55,49,32,51],[102,101,101,32,49],[119,104,101,114,101,32,51,32,49,55,49],[116,114,105,97,108,32,49,32,48,32,48,32,48],[115,116,111,99,107,32,48,32,49],[101,120,116,114,97],[100,114,111,112,32,51],[101,120,116,114,97]])) λy=>A.bind (ct (decide (y.2.2=0)) (PB (y.1,[[111,107],[111,107],[51,48,48,32,51,48,48],[115,104,111,112],[108,105,97,114],[111,107],[49],[111,107],[48]])) false) λb3=>A.pure (decide (y.2.2=0)&&b3&&decide (Int.ofNat (List.length y.2.1.2.2.1)=2)&&decide (Int.ofNat (List.length y.2.1.1.2.2.2.1)=3))
def Y1(x:List aK×List aK):A Bool:=
 if decide (Int.ofNat (List.length x.1)≠Int.ofNat (List.length x.2))=true then A.pure false else A.bind (A.loop (λ(D:List aK×List aK×Int×Unit)=>letI a:=D.2.2.1;letI b:=a<Int.ofNat (List.length D.1);if decide b=true then A.ad (0<=a/\b) (A.ad (0<=a/\a<Int.ofNat (List.length D.2.1)) (if decide (List.getD D.1 (Int.toNat a) []≠List.getD D.2.1 (Int.toNat a) [])=true then A.bind (A.bind (A.pure false) (λr=>A.pure (V.done r))) λr=>A.pure (V.done r) else A.pure (V.next (D.1,D.2.1,IntKind.wrap .i64 (Add.add a 1),())))) else A.bind (A.pure (V.next ())) λr=>A.pure (V.done r)) (x.1,x.2,0,())) (V.bD (λ(D:Unit)=>A.pure true))
def Y2(x:Int):A aK:=
 if decide (x<0)=true then A.pure [115,104,111,112] else A.ad ((10:Int)≠0) (A.bind (A.loop (λ(D:Int×aK×Unit)=>letI a:=IntKind.wrap .i64 (Int.tdiv D.1 10);if decide (D.1>=10)=true then A.ad ((10:Int)≠0) (A.ad ((10:Int)≠0) (A.ad (b9 (Add.add (Add.add 0 1) (List.length D.2.1))) (A.pure (V.next (a,[UInt8.ofNat (Int.toNat (IntKind.wrap .u8 (IntKind.wrap .i64 (Add.add 48 (Int.tmod a 10)))))]++D.2.1,()))))) else A.bind (A.pure (V.next (D.2.1,()))) λr=>A.pure (V.done r)) (x,[UInt8.ofNat (Int.toNat (IntKind.wrap .u8 (IntKind.wrap .i64 (Add.add 48 (Int.tmod x 10)))))],())) (V.bD (λ(D:aK×Unit)=>A.pure D.1)))
def Y3(PC:Int->A aK)(x:aK×z1'):A aK:=
 A.bind (A.loop (λ(D:aK×z1'×Int×Unit)=>letI b:=D.2.2.1;letI a:=b<Int.ofNat (List.length D.2.1);if decide a=true then A.ad (0<=b/\a) (A.bind (PC (List.getD D.2.1 (Int.toNat b) 0)) (λy=>A.ad (b9 (Add.add (Add.add 0 1) (List.length y))) (A.ad (b9 (Add.add (List.length D.1) (Add.add (List.length y) 1))) (A.pure (V.next (D.1++([32]++y),D.2.1,IntKind.wrap .i64 (Add.add b 1),())))))) else A.bind (A.pure (V.next (D.1,()))) λr=>A.pure (V.done r)) (x.1,x.2,0,())) (V.bD (λ(D:aK×Unit)=>A.pure D.1))
def lC(a b:Int):Int:=if b<a then b else a
def uV(a b:Int):Int:=if b > a then b else a
def PD(EW:ba->A Int)(IE:ba×List aK->A (List aK×ba×Int))(sZ:bz×Int×Int×Int->A (Int×Int))(an5:ba×List aK×Int->A Bool)(Y4:Unit->A Bool)(PB:List aK×List aK->A Bool)(nv:aK×z1'->A aK)(ER:H.a1×Int->A ((Int×Int)×Int))(ES:H.a1×Int->A ((Int×Int)×Int))(ET:H.a1×Int->A ((Int×Int)×Int))(EU:H.a1×Int->A ((Int×Int)×Int))(nu:H.a1×Int×Int->A (z1'×Int))(yL:H.a1×Int->A (z1'×z1'×Int))(EV:bI×Int->A (z1'×Int))(Pz:bI->A (Int×Int))(PA:bI->A (Int×Int))(o':z1'×Int->A aK)(wx:(Int×Int)×Int->A aK)(x:ba×List aK×Int×Int×Int×Int×Int×Int×Int×Int):A Bool:=
 letI aQ:=x.2.1;letI n:=x.2.2.1;letI Y5:aK:=A.val (nv ([102,101,101],[n])) [];letI Y6:aK:=A.val (nv ([108,97,115,116,115],[n])) [];letI d:=x.2.2.2;letI gD:=d.1;letI Y7:aK:=A.val (nv ([111,119,101,115],[gD])) [];letI f1:=d.2.1;letI t:=d.2.2.1;letI Y8:aK:=A.val (nv ([109,105,115,115,105,110,103],[t])) [];letI Y9:aK:=A.val (nv ([119,104,101,114,101],[f1,t])) [];letI Y_:aK:=A.val (nv ([104,101,108,100],[t])) [];letI m:=d.2.2.2;letI b_:=m.1;letI pW:=m.2.1;letI z:=m.2.2;letI c2:=z.2;letI Y':aK:=A.val (nv ([99,97,110],[c2])) [];letI eb:=z.1;letI Za:aK:=A.val (nv ([102,105,116,115],[b_,pW,eb])) [];letI om:List aK×ba×Int:=A.val (IE (x.1,[]++aQ++[Y6,Y5,Y7,Y_,Y9,Y8,Za,Y',[109,111,115,116],[101,120,116,114,97]])) ([],((([],[],0,[]),[],[],[],[],0),[],[],[],[],0,0,0,0,0,0,0),0);letI h:=decide ((om).2.2≠0)||decide (Int.ofNat (List.length (om).1)≠IntKind.wrap .i64 (Add.add (Int.ofNat (List.length aQ)) (Int.ofNat (Add.add (Add.add (Add.add (Add.add (Add.add (Add.add (Add.add (Add.add (Add.add (Add.add 0 1) 1) 1) 1) 1) 1) 1) 1) 1) 1))));A.bind (an5 (x.1,aQ,28)) λy=>if (!y||decide (lC (lC (lC (lC (lC (lC (lC n gD) f1) t) b_) pW) eb) c2<0)||decide (uV (uV (uV (uV (uV (uV (uV n gD) f1) t) b_) pW) eb) c2 > 9999))=true then A.bind (Y4 ()) λy=>A.pure y else A.ad (nv ([108,97,115,116,115],[n])).b1 (A.ad (nv ([102,101,101],[n])).b1 (A.ad (nv ([111,119,101,115],[gD])).b1 (A.ad (nv ([104,101,108,100],[t])).b1 (A.ad (nv ([119,104,101,114,101],[f1,t])).b1 (A.ad (nv ([109,105,115,115,105,110,103],[t])).b1 (A.ad (nv ([102,105,116,115],[b_,pW,eb])).b1 (A.ad (nv ([99,97,110],[c2])).b1 (A.ad (b9 (Add.add 0 (List.length aQ))) (A.ad (b9 (Add.add (List.length ([]++aQ)) (Add.add (Add.add (Add.add (Add.add (Add.add (Add.add (Add.add (Add.add (Add.add (Add.add 0 1) 1) 1) 1) 1) 1) 1) 1) 1) 1))) (A.ad (IE (x.1,[]++aQ++[Y6,Y5,Y7,Y_,Y9,Y8,Za,Y',[109,111,115,116],[101,120,116,114,97]])).b1 (A.bind (ct (!h) (EW (om).2.1) 0) (λb3=>if (h||decide (b3≠0))=true then A.pure false else A.bind (ER ((om).2.1.2,n)) λy=>letI ev:=y.1.1;letI cf:=y.1.2;A.bind (ES ((om).2.1.2,n)) λdK=>letI ey:=dK.1;letI d2:=ey.1;A.bind (ET ((om).2.1.2,gD)) λga=>letI dN:=ga.1;A.bind (EU ((om).2.1.2,t)) λkL=>letI df:=kL.1;A.bind (nu ((om).2.1.2,f1,t)) λs3=>A.bind (yL ((om).2.1.2,t)) λuG=>A.bind (sZ ((om).2.1.1.1,b_,pW,eb)) λyN=>A.bind (EV ((om).2.1.1,c2)) λIF=>A.bind (Pz (om).2.1.1) λEX=>A.bind (PA (om).2.1.1) λEY=>if (decide (lC (lC (lC (lC (lC (lC (lC (lC (lC (lC ev cf) d2) ey.2) dN.1) dN.2) df.1) df.2) EX.1) EY.1) yN.1<0)||decide (yN.1 > 3))=true then A.pure false else A.bind (o' ([],uG.2.2)) λan6=>A.bind (o' ([],yN.2)) λZb=>A.bind (if decide (uG.2.2=0)=true then A.bind (o' (uG.1,uG.2.2)) λEZ=>A.ad (b9 (Add.add (List.length EZ) (Add.add (Add.add (Add.add 0 1) 1) 1))) (A.bind (o' uG.2) (λZc=>A.ad (b9 (Add.add (List.length (EZ++[32,47,32])) (List.length Zc))) (A.pure (V.next (aQ,(om).1,y.2,dK.2,ga.2,kL.2,s3.1,s3.2,yN.1,yN.2,IF.1,IF.2,EX.1,EX.2,EY.1,EY.2,EZ++[32,47,32]++Zc,Zb,y.1,ey,dN,df,()))))) else A.pure (V.next (aQ,(om).1,y.2,dK.2,ga.2,kL.2,s3.1,s3.2,yN.1,yN.2,IF.1,IF.2,EX.1,EX.2,EY.1,EY.2,an6,Zb,y.1,ey,dN,df,()))) (V.bD (λ(D:List aK×List aK×Int×Int×Int×Int×z1'×Int×Int×Int×z1'×Int×Int×Int×Int×Int×aK×aK×(Int×Int)×(Int×Int)×(Int×Int)×(Int×Int)×Unit)=>letI rn:=D.2.2.2;letI d1:=rn.2.2;letI ke:=d1.2.2.2;letI o:=ke.2.2;letI t1:=o.2.2.2;letI dr:=t1.2.2.2;letI lZ:=dr.2.2.2;A.bind (if decide (ke.2.1=0)=true then A.ad (0<=ke.1/\ke.1<Int.ofNat (Add.add (Add.add (Add.add (Add.add 0 1) 1) 1) 1)) (A.pure (V.next (D.1,D.2.1,D.2.2.1,rn.1,rn.2.1,d1.1,d1.2.1,d1.2.2.1,o.1,o.2.1,o.2.2.1,t1.1,t1.2.1,t1.2.2.1,dr.1,List.getD [[],[115,117,114,101,108,121],[110,101,118,101,114],[112,101,114,104,97,112,115]] (Int.toNat ke.1) [],dr.2.2.1,lZ.1,lZ.2.1,lZ.2.2.1,()))) else A.pure (V.next (D.1,D.2.1,D.2.2.1,rn.1,rn.2.1,d1.1,d1.2.1,d1.2.2.1,o.1,o.2.1,o.2.2.1,t1.1,t1.2.1,t1.2.2.1,dr.1,dr.2.1,dr.2.2.1,lZ.1,lZ.2.1,lZ.2.2.1,()))) (V.bD (λ(D:List aK×List aK×Int×Int×Int×Int×z1'×Int×z1'×Int×Int×Int×Int×Int×aK×aK×(Int×Int)×(Int×Int)×(Int×Int)×(Int×Int)×Unit)=>letI a2:=D.2.2.2;letI m1:=Int.ofNat (List.length D.1);letI i1:=a2.2.2;letI E:=Int.ofNat (List.length D.2.1);letI s:=i1.2.2.2.2;letI v1:=s.2.2.2;letI g1:=v1.2.2.2.2;A.ad (wx (g1.1,D.2.2.1)).b1 (A.ad (wx (g1.2.1,a2.1)).b1 (A.ad (wx (g1.2.2.1,a2.2.1)).b1 (A.ad (wx (g1.2.2.2.1,i1.1)).b1 (A.ad (o' (i1.2.1,i1.2.2.1)).b1 (A.ad (o' (i1.2.2.2.1,s.1)).b1 (A.ad (o' ([s.2.1],s.2.2.1)).b1 (A.ad (o' ([v1.1],v1.2.1)).b1 (A.ad (0<=m1/\m1<=E/\E<=E) (A.bind (PB (List.drop (Int.toNat m1) (List.take (Int.toNat E) D.2.1),[A.val (wx (g1.1,D.2.2.1)) [],A.val (wx (g1.2.1,a2.1)) [],A.val (wx (g1.2.2.1,a2.2.1)) [],A.val (wx (g1.2.2.2.1,i1.1)) [],A.val (o' (i1.2.1,i1.2.2.1)) [],v1.2.2.1,v1.2.2.2.1,A.val (o' (i1.2.2.2.1,s.1)) [],A.val (o' ([s.2.1],s.2.2.1)) [],A.val (o' ([v1.1],v1.2.1)) []])) (λy=>A.bind (ct y (Y4 ()) false) λEZ=>A.pure (y&&EZ)))))))))))))))))))))))))))
def Zd(an7:z1'->A aK)(x:z1'×Int):A aK:=
 A.bind (A.loop (λ(D:z1'×Int×Int×Unit)=>letI b:=D.2.2.1;letI a:=b<Int.ofNat (List.length D.1);if decide a=true then A.ad (0<=b/\a) (if decide (List.getD D.1 (Int.toNat b) (0:Int)< -1)=true then A.bind (A.bind (A.pure [97,32,119,114,111,110,103,32,110,117,109,98,101,114]) (λr=>A.pure (V.done r))) λr=>A.pure (V.done r) else A.pure (V.next (D.1,D.2.1,IntKind.wrap .i64 (Add.add b 1),()))) else A.bind (A.pure (V.next (D.1,D.2.1,()))) λr=>A.pure (V.done r)) (x.1,x.2,0,())) (V.bD (λ(D:z1'×Int×Unit)=>if decide (D.2.1=0)=true then A.bind (an7 D.1) λy=>A.pure y else if decide (D.2.1=3)=true then A.pure [110,111,110,101] else A.pure [110,111]))
def Ze(PC:Int->A aK)(x:z1'):A aK:=
 A.bind (A.loop (λ(D:z1'×aK×Int×Unit)=>letI a:=D.2.2.1;if decide (a<Int.ofNat (List.length D.1))=true then A.bind (if decide (a > 0)=true then A.ad (b9 (Add.add (List.length D.2.1) (Add.add 0 1))) (A.pure (V.next (D.1,D.2.1++[32],a,()))) else A.pure (V.next (D.1,D.2.1,a,()))) (V.bD (λ(D:z1'×aK×Int×Unit)=>letI b:=D.2.2.1;A.ad (0<=b/\b<Int.ofNat (List.length D.1)) (A.bind (PC (List.getD D.1 (Int.toNat b) 0)) (λy=>A.ad (b9 (Add.add (List.length D.2.1) (List.length y))) (A.pure (V.next (D.1,D.2.1++y,IntKind.wrap .i64 (Add.add b 1),()))))))) else A.bind (A.pure (V.next (D.2.1,()))) λr=>A.pure (V.done r)) (x,[],0,())) (V.bD (λ(D:aK×Unit)=>if decide (D.1=[])=true then A.pure [110,111,110,101] else A.pure D.1))
def Zf(o':z1'×Int->A aK)(x:(Int×Int)×Int):A aK:=
 A.bind (o' ([x.1.1,x.1.2],x.2)) λy=>A.pure y
def IG{gA:Type}(c0:z2'->A (z2'))(bC:List (List (Int×z1'×Int×Int))->A (List (List (Int×z1'×Int×Int))))(c2:z2'->A (z2'))(c3:List (Int×z1'×Int×Int)×Unit->A (List (Int×z1'×Int×Int)×Unit))(c4:z1'->A (z1'))(c5:List dx->A (List dx))(lO:List dL->A (List dL))(oK:z3'->A (z3'))(x:bI)(fin:bI->A gA):A gA:=
 A.ad True (A.ad (c0 x.1.1).b1 (A.ad True (A.ad (bC x.1.2.1).b1 (A.ad True (A.ad (c2 x.1.2.2.2).b1 (A.ad True (A.ad True (A.ad True (A.bind (A.ad True (A.loop (λ(D:Int×Int×Int×z1'×List dx×List dL×z3'×Int×Int×Int×z2'×List (List (Int×z1'×Int×Int))×z2'×Unit)=>letI g1:=D.2;letI s:=g1.2.2.2;letI h:=Int.toNat g1.1;letI f:=s.2.2.2;letI v:=f.2.2.2.2;if decide (g1.1<D.1)=true then A.bind (A.ad True (A.ad (0<=g1.1/\g1.1<Int.ofNat (List.length v.1)) (A.ad True (A.ad (h=h) (A.bind (c3 (List.getD v.1 h [],())) (λy=>A.ad True (A.ad (h=h) (A.ad True (A.ad (h=h) (A.loop (λ(D:Nat×Int×Int×Int×Int×Int×z1'×List dx×List dL×z3'×Int×Int×Int×z2'×(List (List (Int×z1'×Int×Int))×Nat)×z2'×List (Int×z1'×Int×Int)×Unit)=>letI g:=D.2.2.2.2;letI z:=g.2.2.2;letI a:=z.2.2.2;letI k:=a.2.2.2.2;letI u:=0<=g.1/\g.1<Int.ofNat (List.length k.2.2.1);letI e:=List.getD k.2.2.1 (Int.toNat g.1) (0,[],0,0);if decide (g.1<D.2.2.2.1)=true then A.ad True (A.ad (D.1=k.1.2) (A.ad True (A.ad (D.1=k.1.2) (A.ad u (A.ad (c4 e.2.1).b1 (A.ad u (A.pure (V.next (D.1,D.2.1,D.2.2.1,D.2.2.2.1,IntKind.wrap .i64 (Add.add g.1 1),g.2.1,g.2.2.1,z.1,z.2.1,z.2.2.1,a.1,a.2.1,a.2.2.1,a.2.2.2.1,k.1,k.2.1,List.set k.2.2.1 (Int.toNat g.1) (e.1,A.val (c4 e.2.1) [],e.2.2),()))))))))) else A.bind (A.pure (V.next (D.2.1,D.2.2.1,g.2.1,g.2.2.1,z.1,z.2.1,z.2.2.1,a.1,a.2.1,a.2.2.1,a.2.2.2.1,k.1,k.2.1,k.2.2.1,()))) λr=>A.pure (V.done r)) (h,D.1,g1.1,Int.ofNat (List.length y.1),0,g1.2.1,g1.2.2.1,s.1,s.2.1,s.2.2.1,f.1,f.2.1,f.2.2.1,f.2.2.2.1,(v.1,h),v.2.1,y.1,()))))))))))) (V.bD (λ(D:Int×Int×Int×z1'×List dx×List dL×z3'×Int×Int×Int×z2'×(List (List (Int×z1'×Int×Int))×Nat)×z2'×List (Int×z1'×Int×Int)×Unit)=>letI dr:=D.2.2.2.2;letI j:=dr.2.2.2;letI bC:=j.2.2.2.2;A.pure (V.next (D.1,IntKind.wrap .i64 (Add.add D.2.1 1),D.2.2.1,D.2.2.2.1,dr.1,dr.2.1,dr.2.2.1,j.1,j.2.1,j.2.2.1,j.2.2.2.1,List.set bC.1.1 bC.1.2 bC.2.2.1,bC.2.1,())))) else A.bind (A.pure (V.next (g1.2.1,g1.2.2.1,s.1,s.2.1,s.2.2.1,f.1,f.2.1,f.2.2.1,f.2.2.2.1,v.1,v.2.1,()))) λr=>A.pure (V.done r)) (Int.ofNat (List.length (A.val (bC x.1.2.1) [])),0,x.1.2.2.1,x.2.1,x.2.2.1,x.2.2.2.1,x.2.2.2.2.1,x.2.2.2.2.2,0,0,A.val (c0 x.1.1) [],A.val (bC x.1.2.1) [],A.val (c2 x.1.2.2.2) [],()))) (V.bD (λ(D:Int×z1'×List dx×List dL×z3'×Int×Int×Int×z2'×List (List (Int×z1'×Int×Int))×z2'×Unit)=>letI d1:=D.2.2;letI n:=d1.2.2;A.ad (c4 D.2.1).b1 (A.ad (c5 d1.1).b1 (A.ad (lO d1.2.1).b1 (A.ad (oK n.1).b1 (A.bind (A.loop (λ(D:Int×Int×Int×Int×Int×Int×z2'×List (List (Int×z1'×Int×Int))×z2'×z1'×List dx×List dL×z3'×Unit)=>letI ax:=D.2;letI t:=ax.2.2.2;letI d:=t.2.2.2;letI w:=d.2.2.2;letI o:=0<=ax.1/\ax.1<Int.ofNat (List.length w.1);letI b:=List.getD w.1 (Int.toNat ax.1) (0,0,0,0,[]);if decide (ax.1<D.1)=true then A.ad o (A.ad (c4 b.2.2.2.2).b1 (A.ad o (A.pure (V.next (D.1,IntKind.wrap .i64 (Add.add ax.1 1),ax.2.1,ax.2.2.1,t.1,t.2.1,t.2.2.1,d.1,d.2.1,d.2.2.1,List.set w.1 (Int.toNat ax.1) (b.1,b.2.1,b.2.2.1,b.2.2.2.1,A.val (c4 b.2.2.2.2) []),w.2.1,w.2.2.1,()))))) else A.bind (A.pure (V.next (ax.2.1,ax.2.2.1,t.1,t.2.1,t.2.2.1,d.1,d.2.1,d.2.2.1,w.1,w.2.1,w.2.2.1,()))) λr=>A.pure (V.done r)) (Int.ofNat (List.length (A.val (c5 d1.1) [])),0,D.1,n.2.1,n.2.2.1,n.2.2.2.1,n.2.2.2.2.1,n.2.2.2.2.2.1,n.2.2.2.2.2.2.1,A.val (c4 D.2.1) [],A.val (c5 d1.1) [],A.val (lO d1.2.1) [],A.val (oK n.1) [],())) (V.bD (λ(D:Int×Int×Int×Int×z2'×List (List (Int×z1'×Int×Int))×z2'×z1'×List dx×List dL×z3'×Unit)=>letI E:=D.2.2.2;letI m:=E.2.2.2;A.bind (A.loop (λ(D:Int×Int×Int×Int×Int×Int×z2'×List (List (Int×z1'×Int×Int))×z2'×z1'×List dx×List dL×z3'×Unit)=>letI f1:=D.2;letI l:=f1.2.2.2;letI c:=l.2.2.2.2;letI b':=c.2.2.2;letI p:=0<=f1.1/\f1.1<Int.ofNat (List.length b'.1);letI i:=List.getD b'.1 (Int.toNat f1.1) ([],(0,0),0,0,0);if decide (f1.1<D.1)=true then A.ad p (A.ad (c4 i.1).b1 (A.ad p (A.pure (V.next (D.1,IntKind.wrap .i64 (Add.add f1.1 1),f1.2.1,f1.2.2.1,l.1,l.2.1,l.2.2.1,l.2.2.2.1,c.1,c.2.1,c.2.2.1,List.set b'.1 (Int.toNat f1.1) (A.val (c4 i.1) [],i.2),b'.2.1,()))))) else A.bind (A.pure (V.next (f1.2.1,f1.2.2.1,l.1,l.2.1,l.2.2.1,l.2.2.2.1,c.1,c.2.1,c.2.2.1,b'.1,b'.2.1,()))) λr=>A.pure (V.done r)) (Int.ofNat (List.length m.2.2.2.1),0,D.1,D.2.1,D.2.2.1,E.1,E.2.1,E.2.2.1,m.1,m.2.1,m.2.2.1,m.2.2.2.1,m.2.2.2.2.1,())) (V.bD (λ(D:Int×Int×Int×Int×z2'×List (List (Int×z1'×Int×Int))×z2'×z1'×List dx×List dL×z3'×Unit)=>letI q:=D.2.2.2.2.2;fin ((D.2.2.2.2.1,q.1,D.1,q.2.1),q.2.2.1,q.2.2.2.1,q.2.2.2.2.1,q.2.2.2.2.2.1,D.2.1))))))))))))))))))))
def iR(s:bI):wv:=(s.1.1,s.1.2.1,s.1.2.2.1,s.2.2.2.2.2,s.1.2.2.2,s.2.1,s.2.2.1,s.2.2.2.1,s.2.2.2.2.1,())
def an8(c0:z2'->A (z2'))(bC:List (List (Int×z1'×Int×Int))->A (List (List (Int×z1'×Int×Int))))(c2:z2'->A (z2'))(c3:List (Int×z1'×Int×Int)×Unit->A (List (Int×z1'×Int×Int)×Unit))(c4:z1'->A (z1'))(c5:List dx->A (List dx))(lO:List dL->A (List dL))(oK:z3'->A (z3'))(x:bI):A bI:=IG c0 bC c2 c3 c4 c5 lO oK x A.pure
def an9(c0:z2'->A (z2'))(bC:List (List (Int×z1'×Int×Int))->A (List (List (Int×z1'×Int×Int))))(c2:z2'->A (z2'))(c3:List (Int×z1'×Int×Int)×Unit->A (List (Int×z1'×Int×Int)×Unit))(c4:z1'->A (z1'))(c5:List dx->A (List dx))(lO:List dL->A (List dL))(oK:z3'->A (z3'))(x:bI×Unit):A wv:=IG c0 bC c2 c3 c4 c5 lO oK x.1 λs=>A.pure (iR s)
def Zg(Px:bI->A Int)(an_:z2'×List (List (Int×z1'×Int×Int))×Int×z2'->A Bool)(x:bI):A Bool:=
 A.bind (an_ x.1) λy=>if (y||decide (Int.ofNat (List.length x.2.1) > 40)||decide (Int.ofNat (List.length x.2.2.1) > 40)||decide (Int.ofNat (List.length x.2.2.2.1) > 40)||decide (Int.ofNat (List.length x.2.2.2.2.1) > 40))=true then A.pure true else A.bind (A.loop (λ(D:Int×bI×Unit)=>letI c:=D.1<Int.ofNat (List.length D.2.1.2.2.1);if decide c=true then A.ad (0<=D.1/\c) (if decide (Int.ofNat (List.length (List.getD D.2.1.2.2.1 (Int.toNat D.1) (0,0,0,0,[])).2.2.2.2) > 40)=true then A.bind (A.bind (A.pure true) (λr=>A.pure (V.done r))) λr=>A.pure (V.done r) else A.pure (V.next (IntKind.wrap .i64 (Add.add D.1 1),D.2.1,()))) else A.bind (A.pure (V.next (D.2.1,()))) λr=>A.pure (V.done r)) (0,x,())) (V.bD (λ(D:(bz×z1'×List dx×List dL×z3'×Int)×Unit)=>A.bind (A.loop (λ(D:Int×(bz×z1'×List (Int×Int×Int×Int×z1')×List dL×z3'×Int)×Unit)=>letI b:=D.1<Int.ofNat (List.length D.2.1.2.2.2.1);if decide b=true then A.ad (0<=D.1/\b) (if decide (Int.ofNat (List.length (List.getD D.2.1.2.2.2.1 (Int.toNat D.1) ([],(0,0),0,0,0)).1) > 40)=true then A.bind (A.bind (A.pure true) (λr=>A.pure (V.done r))) λr=>A.pure (V.done r) else A.pure (V.next (IntKind.wrap .i64 (Add.add D.1 1),D.2.1,()))) else A.bind (A.pure (V.next (D.2.1,()))) λr=>A.pure (V.done r)) (0,D.1,())) (V.bD (λ(D:(bz×z1'×List dx×List (z1'×(Int×Int)×Int×Int×Int)×z3'×Int)×Unit)=>A.bind (Px D.1) λy=>if decide (y≠0)=true then A.pure false else A.bind (A.loop (λ(D:Int×Int×(bz×z1'×List dx×List dL×z3'×Int)×Unit)=>letI d:=D.2.2.1;letI a:=D.2.1<Int.ofNat (List.length d.2.2.1);if decide a=true then A.ad (0<=D.2.1/\a) (A.pure (V.next (IntKind.wrap .i64 (Add.add D.1 (Int.ofNat (List.length (List.getD d.2.2.1 (Int.toNat D.2.1) (0,0,0,0,[])).2.2.2.2))),IntKind.wrap .i64 (Add.add D.2.1 1),d,()))) else A.bind (A.pure (V.next (D.1,d,()))) λr=>A.pure (V.done r)) (0,0,D.1,())) (V.bD (λ(D:Int×(bz×z1'×List dx×List (z1'×(Int×Int)×Int×Int×Int)×z3'×Int)×Unit)=>A.pure (decide (Int.ofNat (List.length D.2.1.2.2.2.1) > 3)||decide (Int.ofNat (List.length D.2.1.2.2.1) > 4)||decide (Int.ofNat (List.length D.2.1.2.2.2.2.1) > 3)||decide (D.1 > 4))))))))
def Zh(an':Unit->A bz)(x:Unit):A (bI):=
 A.bind (an' ()) λy=>A.pure (y,[1,0,0,0],[(1,60,0,0,[0]),(1,60,7,0,[]),(2,65,0,1,[0]),(2,60,0,0,[0,1])],[([1],(55,65),7,3,500),([1,2],(60,60),0,5,400),([2],(60,70),9,8,700),([2],(65,65),0,5,300)],[(4,2,1),(6,3,1)],2)
abbrev bq:ab:=.int .i64
abbrev dj:ab:=.bool
abbrev fO:ab:=.slice bq
abbrev l7:ab:=.st (.az bq bq)
abbrev kO:ab:=.st (.az bq (.az bq l7))
abbrev q1:ab:=.st (.az bq (.az fO l7))
abbrev k8:ab:=.st (.slice q1)
abbrev j0:ab:=.st (.az bq (.az bq (.az bq bq)))
abbrev lD:ab:=.st (.az (.slice kO) (.az (.slice k8) (.az bq (.slice j0))))
attribute [simp] qR Vw vV A.dG A.FN A.Rr A.gQ A.e4 A.od A.jd A.kn A.b2 A.pS cn gY Vv V.ho
abbrev cp:aM:=⟨.az bq (.az bq bq),dj,λ_=>True,λx=>decide (x.2.1<=x.1)&&decide (x.1<=x.2.2)⟩
theorem aoa(x):A.le (ajM x) (cp.sh x):=A.bu λ_=>rfl
abbrev o7:aM:=⟨.az fO bq,dj,λx=>x.1.length<2 ^ 63,λx=>x.1.contains x.2⟩
abbrev IH:Type:=Int×Int×Int×Int
abbrev wy:Type:=Int×z1'×Int×Int
abbrev mL:Type:=Int×Int×Int×Int
def ht(w:bz):Prop:=w.1.length<2 ^ 63/\w.2.1.length<2 ^ 63/\w.2.2.2.length<2 ^ 63/\∀ m∈w.2.1,m.length<2 ^ 63/\∀ s∈m,s.2.1.length<2 ^ 63
def hb(w:bz)(n:Int):Bool:=decide (0<=n)&&decide (n<(w.1.length:Int))
def oo(w:bz)(n:Int):Bool:=decide (0<=n)&&decide (n<(w.2.1.length:Int))
def jA(w:bz)(m:Int):List wy:=w.2.1.getD m.toNat []
def iT(w:bz)(m k:Int):Bool:=oo w m&&(decide (0<=k)&&decide (k<((jA w m).length:Int)))
theorem uW{w:bz}{n:Int}:hb w n=true<->0<=n/\n<(w.1.length:Int):=by simp[hb]
theorem II{w:bz}{n:Int}:oo w n=true<->0<=n/\n<(w.2.1.length:Int):=by simp[oo]
theorem Bu{w:bz}{m k:Int}:iT w m k=true<->(0<=m/\m<(w.2.1.length:Int))/\0<=k/\k<((jA w m).length:Int):=by simp[iT,oo]
theorem IJ{w:bz}(hw:ht w)(m:Int):(jA w m).length<2 ^ 63:=by
 unfold jA;rw[List.getD_eq_getElem?_getD];cases h:w.2.1[m.toNat]? with
 | none=>simp
 | some x=>exact (hw.2.2.2 x (List.mem_of_getElem? h)).1
theorem r0(n m:Int):decide (n<=m - 1)=decide (n<m):=by
 grind
abbrev p4:aM:=⟨.az lD bq,dj,λx=>ht x.1,λx=>hb x.1 x.2⟩
theorem Zi(w:bz)(n:Int)(h:ht w):N1 cp.sh (w,n)=A.pure (hb w n):=by
 unfold N1;have ai:=h.1;have hw:=bF (n:=(w.1.length:Int) - 1) (by omega) (by omega);simp[aM.sh,cp,hw,hb,r0]
theorem aob(x):A.le (N1 cp.sh x) (p4.sh x):=A.bu λh=>Zi x.1 x.2 h
abbrev Bv:aM:=⟨.az lD bq,dj,λx=>ht x.1,λx=>oo x.1 x.2⟩
theorem aoc(w:bz)(n:Int)(h:ht w):N4 cp.sh (w,n)=A.pure (oo w n):=by
 unfold N4;have ai:=h.2.1;have hw:=bF (n:=(w.2.1.length:Int) - 1) (by omega) (by omega);simp[aM.sh,cp,hw,oo,r0]
theorem aod(x):A.le (N4 cp.sh x) (Bv.sh x):=A.bu λh=>aoc x.1 x.2 h
abbrev r1:aM:=⟨.az lD (.az bq bq),dj,λx=>ht x.1,λx=>iT x.1 x.2.1 x.2.2⟩
theorem Zj(w:bz)(m k:Int)(h:ht w):H6 cp.sh Bv.sh (w,m,k)=A.pure (iT w m k):=by
 unfold H6;have ai:=IJ h m;have hw:=bF (n:=((jA w m).length:Int) - 1) (by omega) (by omega);unfold jA at hw;simp only[aM.sh,cp,Bv,A.dG,A.jd,bW,hw,r0,A.bt h];rw[A.bt,A.bt (by simp)]
 ·simp only[iT,jA];simp
 ·intro hm;exact⟨⟨hm,hm⟩,II.1 hm,trivial⟩
theorem aoe(x):A.le (H6 cp.sh Bv.sh x) (r1.sh x):=A.bu λh=>Zj x.1 x.2.1 x.2.2 h
def wz(s:Int×Int):Bool:=(decide (0<=s.1)&&decide (s.1<=s.2))&&decide (s.2<=999)
abbrev pa:aM:=⟨l7,dj,λ_=>True,wz⟩
theorem Zk(s:Int×Int):N7 cp.sh s=A.pure (wz s):=by
 unfold N7;simp[aM.sh,cp,wz]
theorem aof(x):A.le (N7 cp.sh x) (pa.sh x):=A.bu λ_=>Zk x
def rY(l:z1'):Bool:=(List.range (l.length - 1)).all λi=>decide (l.getD i 0<l.getD (i+1) 0)
abbrev uX:aM:=⟨fO,dj,λx=>x.length<2 ^ 63,rY⟩
theorem Zl(l:z1')(h:l.length<2 ^ 63):N3 l=A.pure (rY l):=by
 unfold N3;rw[A.et (List.range (l.length - 1)) (λi (_:Unit)=>(l,((i+1:Nat):Int),())) (λi b=>if (decide (l.getD i 0<l.getD (i+1) 0))=true then .next b else .done (.done false)) (λ_=>.next ()) () ?_ ?_ ?_]
 ·rw[H0];unfold rY;cases (List.range (l.length - 1)).all λi=>decide (l.getD i 0<l.getD (i+1) 0)<;>simp
 ·simp
 ·intro i G b;have dI:i+1<l.length:=by grind
  have hw:=bF (n:=(i:Int)+1+1) (by omega) (by omega);have gX:=bF (n:=(i:Int)+1 - 1) (by omega) (by omega);have ax:((i:Int)+1).toNat=i+1:=by omega
  have aO:((i:Int)+1 - 1).toNat=i:=by omega
  have cf:(0:Int)<=(i:Int)+1/\(i:Int)+1<(l.length:Int):=by omega
  have cI:(0:Int)<=(i:Int)+1 - 1/\(i:Int)+1 - 1<(l.length:Int):=by omega
  simp only[bW,Int.natCast_add,Int.cast_ofNat_Int,hw,gX,cf,cI,A.bt,ax,aO,cn,List.getElem_range,decide_eq_true_eq,if_true,A.aF,decide_true,and_self,Int.natCast_one];generalize l.getD i 0=aJ;generalize l.getD (i+1) 0=B;by_cases hc:aJ<B
  ·simp[hc,Int.not_le.2 hc]
  ·simp[hc,Int.not_lt.1 hc]
 ·intro b;have:¬(((List.range (l.length - 1)).length:Int)+1<(l.length:Int)):=by grind
  simp[this];omega
theorem aog(x):A.le (N3 x) (uX.sh x):=A.bu λh=>Zl x h
def q2(n:Int):Bool:=decide (0<=n)&&decide (n<=9)
def p5(s:wy):Bool:=s.2.1.all q2&&(q2 s.1&&decide ((s.2.1.length:Int)<=4)&&rY s.2.1&&wz s.2.2)
def r2(s:IH):Bool:=q2 s.1&&q2 s.2.1&&wz s.2.2
def tl(w:bz)(t:mL):Bool:=hb w t.1&&iT w t.2.1 t.2.2.1&&(decide (0<=t.2.2.2)&&decide (t.2.2.2<=1))
def q3(m:List wy):Bool:=!decide ((m.length:Int) > 4)&&m.all p5
def wA(w:bz):Bool:=!(decide ((w.1.length:Int) > 10)||decide ((w.2.1.length:Int) > 6)||!(decide (0<=w.2.2.1)&&decide (w.2.2.1<=99))||decide ((w.2.2.2.length:Int) > 30))
def k9(w:bz):Bool:=wA w&&w.1.all r2&&w.2.1.all q3&&w.2.2.2.all (tl w)
abbrev tm:aM:=⟨q1,dj,λx=>x.2.1.length<2 ^ 63,p5⟩
theorem aoh(s:wy)(h:s.2.1.length<2 ^ 63):N8 uX.sh cp.sh pa.sh s=A.pure (p5 s):=by
 unfold N8;rw[A.et s.2.1 (λi (_:Unit)=>((i:Int),s,())) (λn b=>if q2 n=true then .next b else .done (.done false)) (λ_=>.next (s,())) () ?_ ?_ ?_]
 ·rw[H0];unfold p5;cases s.2.1.all q2 with
  | false=>simp
  | true=>
   simp only[aM.sh,cp,uX,pa,A.bt h,q2,if_true,A.aF,A.b2,A.dG,A.jd,A.bn,bW,h,implies_true,Bool.true_and];simp
 ·rfl
 ·intro i G b;have hw:=bF (n:=(i:Int)+1) (by omega) (by omega);simp[aM.sh,cp,G,hw,q2];grind
 simp
theorem aoi(x):A.le (N8 uX.sh cp.sh pa.sh x) (tm.sh x):=A.bu λh=>aoh x h
abbrev tn:aM:=⟨lD,dj,ht,k9⟩
theorem aoj(w:bz)(h:ht w):N5 p4.sh r1.sh cp.sh pa.sh tm.sh w=A.pure (k9 w):=by
 have aD:=h;obtain⟨E,U,ag,a6⟩:=h;unfold N5;simp only[aM.sh,cp,A.jd,A.dG,implies_true,A.bn,bW,qR];split
 ·rename_i hc;have:wA w=false:=by unfold wA;grind
  simp[k9,this]
 ·rename_i hc;have cT:wA w=true:=by unfold wA;grind
  have ayN:w.2.1.length<=6:=by grind
  rw[A.et w.1 (λi (_:Unit)=>((i:Int),w,())) (λn b=>if (!q2 n.1||!q2 n.2.1||!wz n.2.2)=true then .done (.done false) else .next b) (λ_=>.next (w,())) () ?_ ?_ ?_]
  ·rw[k0 (q:=r2) _ _ (λt=>by simp only[r2,Bool.not_and])];cases ir:w.1.all r2 with
   | false=>simp[k9,ir]
   | true=>
    simp only[A.aF,if_true,A.b2];rw[A.et w.2.1 (λi (_:Unit)=>((i:Int),w,())) (λm b=>if q3 m=true then .next b else .done (.done false)) (λ_=>.next (w,())) () ?_ ?_ ?_]
    ·rw[H0];cases aS:w.2.1.all q3 with
     | false=>simp[k9,aS]
     | true=>
      simp only[A.aF,if_true,A.b2];rw[A.et w.2.2.2 (λi (_:Unit)=>((i:Int),w,())) (λt b=>if (!hb w t.1||!iT w t.2.1 t.2.2.1||!(decide (0<=t.2.2.2)&&decide (t.2.2.2<=1)))=true then .done (.done false) else .next b) (λ_=>.next ()) () ?_ ?_ ?_]
      ·rw[k0 (q:=tl w) _ _ (λt=>by simp only[tl,Bool.not_and])];cases jq:w.2.2.2.all (tl w)<;>simp[k9,ir,aS,jq,cT]
      ·rfl
      ·intro i G b;have hw:=bF (n:=(i:Int)+1) (by omega) (by omega);simp only[bW,cX G,if_true,dk G,cH G,A.bn,aM.sh,p4,r1,A.dG,A.jd,aD,implies_true,qR,A.aF,cn,hw];exact nj (mk:=λ_:Unit=>((i:Int)+1,w,()))
      simp
    ·rfl
    ·intro i G b;have hw:=bF (n:=(i:Int)+1) (by omega) (by omega);obtain⟨km,pN⟩:=a6 w.2.1[i] (List.getElem_mem G);simp only[bW,Int.ofNat_lt,G,decide_true,if_true,dk G,Int.natCast_nonneg,and_self,A.bn];by_cases hlen:(w.2.1[i].length:Int) > 4
     ·simp[hlen,q3]
     ·simp only[hlen,decide_false,Bool.false_eq_true,if_false];rw[A.et w.2.1[i] (λk (_:Unit)=>((i:Int),(k:Int),w,())) (λs b=>if (!p5 s)=true then .done (.done (.done (.done false))) else .next b) (λ_=>.next ((i:Int),w,())) () ?_ ?_ ?_]
      ·rw[k0 (q:=p5) _ _ (λ_=>rfl)];cases PE:w.2.1[i].all p5<;>simp[q3,PE,hlen,hw]
      ·rfl
      ·intro k al b;have mK:=bF (n:=(k:Int)+1) (by omega) (by omega);have Bw:=pN w.2.1[i][k] (List.getElem_mem al);simp only[bW,cX al,cX G,if_true,dk G,dk al,cH G,cH al,A.bn,tm,A.dG,Bw,A.bt Bw,A.aF,cn,mK];exact nj (mk:=λ_:Unit=>((i:Int),(k:Int)+1,w,()))
      simp_all
    simp
  ·rfl
  ·intro i G b;have hw:=bF (n:=(i:Int)+1) (by omega) (by omega);simp only[bW,cX G,if_true,dk G,cH G,A.bn,aM.sh,pa,A.dG,A.jd,implies_true,qR,A.aF,cn,hw,Bool.not_not];exact nj (mk:=λ_:Unit=>((i:Int)+1,w,()))
  simp
theorem aok(x):A.le (N5 p4.sh r1.sh cp.sh pa.sh tm.sh x) (tn.sh x):=A.bu λh=>aoj x h
abbrev q4:mL:=(0,0,0,0)
def nw(a b:mL):Bool:=decide (a.1=b.1)&&decide (a.2.1=b.2.1)&&decide (a.2.2.1=b.2.2.1)&&decide (a.2.2.2≠b.2.2.2)
def oc(l:List mL):Bool:=(List.range l.length).all λi=>(List.range i).all λk=>!nw (l.getD k q4) (l.getD i q4)
def cN(w:bz):Int:=if k9 w=true then (if oc w.2.2.2=true then 0 else 71) else 70
theorem Zm{a b:Nat}(h:a<b):((0:Int)<=(a:Int)/\(a:Int)<(b:Int))=True:=cH h
abbrev h2:aM:=⟨lD,bq,ht,cN⟩
theorem aol(w:bz)(h:ht w):N2 tn.sh w=A.pure (cN w):=by
 have aD:=h;obtain⟨E,U,ag,a6⟩:=h;unfold N2;simp only[aM.sh,tn,A.dG,A.bt aD];unfold cN;cases hw:k9 w with
 | false=>simp
 | true=>
  simp only[Bool.not_true,Bool.false_eq_true,if_false,if_true];rw[A.et (List.range w.2.2.2.length) (λi (_:Unit)=>((i:Int),w,())) (λi b=>if (List.range i).any (λk=>nw (w.2.2.2.getD k q4) (w.2.2.2.getD i q4))=true then .done (.done (71:Int)) else .next b) (λ_=>.next ()) () ?_ ?_ ?_]
  ·rw[k0 (q:=λi=>(List.range i).all λk=>!nw (w.2.2.2.getD k q4) (w.2.2.2.getD i q4)) _ _ (λi=>Vy (λk=>by simp) _)];have e:((List.range w.2.2.2.length).all λi=>(List.range i).all λk=>!nw (w.2.2.2.getD k q4) (w.2.2.2.getD i q4))=oc w.2.2.2:=rfl;rw[e];cases oc w.2.2.2<;>simp
  ·rfl
  ·intro i G b;have G:i<w.2.2.2.length:=by grind
   have h4:=bF (n:=(i:Int)+1) (by omega) (by omega);simp only[bW,cX G,if_true,List.getElem_range];rw[A.et (List.range i) (λk (_:Unit)=>((i:Int),(k:Int),w,())) (λk b=>if nw (w.2.2.2.getD k q4) (w.2.2.2.getD i q4)=true then .done (.done (.done (.done (71:Int)))) else .next b) (λ_=>.next ((i:Int),w,())) () ?_ ?_ ?_]
   ·rw[rU];cases (List.range i).any (λk=>nw (w.2.2.2.getD k q4) (w.2.2.2.getD i q4))<;>simp[h4]
   ·rfl
   ·intro k al b;have al:k<i:=by grind
    have wc:k<w.2.2.2.length:=by omega
    have mK:=bF (n:=(k:Int)+1) (by omega) (by omega);simp only[cX al,if_true,List.getElem_range,Zm wc,Zm G,A.bn,Int.toNat_natCast,A.aF,cn,mK];exact nj (mk:=λ_:Unit=>((i:Int),(k:Int)+1,w,()))
   simp
  simp
theorem aom(x):A.le (N2 tn.sh x) (h2.sh x):=A.bu λh=>aol x h
def gI(w:bz)(i:Int):IH:=w.1.getD i.toNat (0,0,0,0)
def uY(w:bz)(m k:Int):wy:=(jA w m).getD k.toNat (0,[],0,0)
theorem aon{w:bz}{i:Int}(h:hb w i=true):gI w i∈w.1:=by
 rw[uW]at h;exact yg h.1 h.2
theorem PF{w:bz}{m k:Int}(h:iT w m k=true):jA w m∈w.2.1:=by
 rw[Bu]at h;exact yg h.1.1 h.1.2
theorem Zn{w:bz}{m k:Int}(h:iT w m k=true):uY w m k∈jA w m:=by
 rw[Bu]at h;exact yg h.2.1 h.2.2
theorem Bx{w:bz}(h:k9 w=true):wA w=true/\(∀ s∈w.1,r2 s=true)/\(∀ m∈w.2.1,q3 m=true)/\∀ t∈w.2.2.2,tl w t=true:=by
 simp only[k9,Bool.and_eq_true,List.all_eq_true]at h;grind
theorem E0{w:bz}(h:k9 w=true):w.1.length<=10/\w.2.1.length<=6/\(0<=w.2.2.1/\w.2.2.1<=99)/\w.2.2.2.length<=30:=by
 have:=(Bx h).1;simp[wA]at this;omega
theorem aoo{w:bz}(h:k9 w=true){m k:Int}(hm:iT w m k=true):(jA w m).length<=4:=by
 have:=(Bx h).2.2.1 _ (PF hm);simp[q3]at this;omega
theorem aop{w:bz}(h:k9 w=true){m k:Int}(hm:iT w m k=true):p5 (uY w m k)=true:=by
 have:=(Bx h).2.2.1 _ (PF hm);simp only[q3,Bool.and_eq_true,List.all_eq_true]at this;exact this.2 _ (Zn hm)
theorem aoq{s:wy}(h:p5 s=true):0<=s.2.2.1/\s.2.2.1<=s.2.2.2/\s.2.2.2<=999:=by
 simp only[p5,wz,Bool.and_eq_true,decide_eq_true_eq]at h;omega
theorem Zo{w:bz}(h:k9 w=true){i:Int}(G:hb w i=true):0<=(gI w i).2.2.1/\(gI w i).2.2.1<=(gI w i).2.2.2/\(gI w i).2.2.2<=999:=by
 have:=(Bx h).2.1 _ (aon G);simp only[r2,wz,Bool.and_eq_true,decide_eq_true_eq]at this;omega
theorem aor{w:bz}(h:k9 w=true){t:mL}(aL:t∈w.2.2.2):hb w t.1=true/\iT w t.2.1 t.2.2.1=true:=by
 have:=(Bx h).2.2.2 _ aL;simp only[tl,Bool.and_eq_true]at this;grind
def wB(w:bz)(i n m k:Int):Bool:=
 decide ((gI w i).1=(uY w m k).1)&&(uY w m k).2.1.contains (gI w i).2.1&&(decide ((uY w m k).2.2.1<=n)&&decide (n<=(uY w m k).2.2.2+w.2.2.1))
def q5(w:bz):Prop:=ht w/\k9 w=true
abbrev E1:aM:=⟨.az lD (.az bq (.az bq (.az bq bq))),dj,λx=>q5 x.1/\hb x.1 x.2.1=true/\iT x.1 x.2.2.2.1 x.2.2.2.2=true,λx=>wB x.1 x.2.1 x.2.2.1 x.2.2.2.1 x.2.2.2.2⟩
theorem aos(w:bz)(i n m k:Int)(hw:q5 w)(G:hb w i=true)(hm:iT w m k=true):VH o7.sh cp.sh (w,i,n,m,k)=A.pure (wB w i n m k):=by
 unfold VH;have cf:=uW.1 G;have cI:=Bu.1 hm;have fj:=aoq (aop hw.2 hm);have Se:=(E0 hw.2).2.2.1;have Bw:(uY w m k).2.1.length<2 ^ 63:=(hw.1.2.2.2 _ (PF hm)).2 _ (Zn hm);have h4:=bF (n:=(uY w m k).2.2.2+w.2.2.1) (by omega) (by omega);unfold wB;simp only[uY,jA,gI]at *
 simp only[aM.sh,o7,cp,A.jd,A.dG,bW,cf,cI,and_self,A.bn,implies_true,cn,h4,vV,A.bt (λ_=>Bw),Bw];rfl
def uZ(w:bz)(i n:Int)(t:mL):Bool:=!(decide (t.1=i)&&!decide (wB w i n t.2.1 t.2.2.1=decide (t.2.2.2=1)))
def PG(w:bz)(i n:Int):Bool:=w.2.2.2.all (uZ w i n)&&(decide ((gI w i).2.2.1<=n)&&decide (n<=(gI w i).2.2.2))
def hd(w:bz)(i:Int):z1':=(ee (gI w i).2.2.1 (gI w i).2.2.2).filter (PG w i)
theorem Zp{w:bz}{i:Int}(hw:q5 w)(G:hb w i=true):(hd w i).length<=1000:=by
 have:=Zo hw.2 G;have U:=List.length_filter_le (PG w i) (ee (gI w i).2.2.1 (gI w i).2.2.2);rw[yh]at U;unfold hd;omega
theorem aot{w:bz}{i:Nat}(h:i<w.1.length):hb w (i:Int)=true:=by rw[uW];omega
def wC(w:bz):Bool:=(List.range w.1.length).all λi=>!decide (((hd w (i:Int)).length:Int)=0)
def eE(w:bz)(cb:Bool):Int:=if cN w≠0 then cN w else if cb=false then 1 else if wC w=true then 0 else 3
theorem PH{w:bz}(h:cN w=0):k9 w=true:=by
 unfold cN at h;grind
theorem E2{w:bz}{cb:Bool}(h:eE w cb=0):cN w=0/\cb=true/\wC w=true:=by
 unfold eE at h;grind
theorem Zq{w:bz}{cb:Bool}(aD:ht w)(h:eE w cb=0):q5 w:=⟨aD,PH (E2 h).1⟩
theorem aou{w:bz}(h:wC w=true){i:Int}(G:hb w i=true):0<(hd w i).length:=by
 rw[uW]at G;have:=List.all_eq_true.1 h i.toNat (by grind);grind
def wD(w:bz)(i:Int):(Int×Int)×Int:=if eE w (hb w i)≠0 then ((0,0),eE w (hb w i)) else (((hd w i).getD 0 0,(hd w i).getD ((hd w i).length - 1) 0),0)
abbrev yO:aM:=⟨.az lD bq,.az l7 bq,λx=>ht x.1,λx=>wD x.1 x.2⟩
def IK(some many:Int):Int:=if some=many then 1 else if some=0 then 2 else 3
abbrev IL:aM:=⟨.az bq bq,bq,λ_=>True,λx=>IK x.1 x.2⟩
theorem Zr{ak:Type}{p:ak->Bool}:∀ (l:List ak) (n:Int),l.foldl (λn x=>if p x=true then n+1 else n) n=n+(l.countP p:Int)
 | [],n=>by simp
 | x::l,n=>by
  simp only[List.foldl_cons,List.countP_cons];rw[Zr l];grind
def u0(w:bz)(i m k:Int):Int:=IK ((hd w i).countP λn=>wB w i n m k:Int) ((hd w i).length:Int)
def mb(w:bz)(i m k:Int):Int×Int:=if eE w (hb w i&&iT w m k)≠0 then (0,eE w (hb w i&&iT w m k)) else (u0 w i m k,0)
abbrev u1:aM:=⟨.az lD (.az bq (.az bq bq)),.az bq bq,λx=>ht x.1,λx=>mb x.1 x.2.1 x.2.2.1 x.2.2.2⟩
section
variable {ak:Type}
def yn(d:ak)(x:List ak×(ak->A Bool)):A Int:=
 A.bind (A.loop (λ(D:List ak×(ak->A Bool)×Int×Int×Unit)=>if decide (D.2.2.2.1<D.2.2.1)=true then A.ad (0<=D.2.2.2.1/\
 D.2.2.2.1<Int.ofNat (List.length D.1)) (A.bind (D.2.1 (List.getD D.1 (Int.toNat D.2.2.2.1) d)) λy=>if y=true then A.bind (A.bind (A.pure
 D.2.2.2.1) λr=>A.pure (V.done r)) λr=>A.pure (V.done r) else A.pure (V.next (D.1,D.2.1,D.2.2.1,IntKind.wrap .i64 (Add.add
 D.2.2.2.1 1),()))) else A.bind (A.pure (V.next ())) λr=>A.pure (V.done r)) (x.1,x.2,Int.ofNat (List.length x.1),0,())) (V.bD λ(D
 : Unit)=>A.pure (-1))
def Er(c:List ak×(ak->A Bool)->A Int)(x:List ak×(ak->A Bool)):A Bool:=A.bind (c x) λy=>A.pure (decide (y>=0))
def Zs(c:List ak×(ak->A Bool)->A Bool)(bC:ak×Option (ak->A Bool)->A Bool)(x:List ak×(ak->A Bool)):A Bool:=
 A.bind (c (x.1,λhA=>bC (hA,some x.2))) λy=>A.pure !y
def Zt(x:ak×Option (ak->A Bool)):A Bool:=A.bind (Option.getD x.2 (λx=>{ b1:=False,bQ:=λx=>False }) x.1) λy=>A.pure !y
def hP(p:ak->Bool):List ak->Int->Int
 | [],_=>-1
 | x::l,i=>if p x=true then i else hP p l (i+1)
theorem AZ(p:ak->Bool):∀ (l:List ak) (i:Int),0<=i->(decide (hP p l i>=0))=l.any p
 | [],i,_=>by rfl
 | x::l,i,h=>by
  simp only[hP,List.any_cons];by_cases ah:p x=true
  ·grind
  ·have:=AZ p l (i+1) (by omega);grind
theorem A0(p:ak->Bool):∀ (l:List ak) (i:Int),eX (λx (i:Int)=>if p x=true then (.done (.done i):V Int (V Unit Int)) else .next (i+1)) (λ_=>.next ()) l i=if l.any p=true then .done (hP p l i) else .next ()
 | [],i=>by rfl
 | x::l,i=>by
  simp only[eX,List.any_cons,hP];by_cases ah:p x=true
  ·grind
  ·have:=A0 p l (i+1);grind
theorem Es{p:ak->Bool}:∀ (l:List ak) (i:Int),¬l.any p=true->hP p l i=-1
 | [],_,_=>rfl
 | x::l,i,au=>by
  simp only[List.any_cons,Bool.or_eq_true,not_or]at au;simp only[hP,au.1,Bool.false_eq_true,if_false];exact Es l _ au.2
theorem OQ(d:ak)(l:List ak)(f:ak->A Bool)(h:l.length<2 ^ 63)(ar:∀ y∈l,∃ b,f y=A.pure b):yn d (l,f)=A.pure (hP (λy=>(f y).val false) l 0):=by
 unfold yn;rw[A.gv l (λi (b:Int)=>(l,f,(l.length:Int),b,())) (λy (i:Int)=>if (f y).val false=true then (.done (.done i):V Int (V Unit Int)) else .next (i+1)) (λ_=>.next ()) (λi b=>b=(i:Int)) 0 ?_ ?_ ?_ ?_]
 ·rw[A0 (λy=>(f y).val false)];by_cases a8:(l.any λy=>(f y).val false)=true
  ·simp[a8]
  ·have:hP (λy=>(f y).val false) l 0=-1:=by
    have:∀ (l:List ak) (i:Int),¬(l.any λy=>(f y).val false)=true->hP (λy=>(f y).val false) l i=-1:=by
     intro l;induction l with
     | nil=>intro i _;rfl
     | cons x l aH=>
      intro i au;simp only[List.any_cons,Bool.or_eq_true,not_or]at au;simp only[hP,au.1,Bool.false_eq_true,if_false];grind
    grind
   simp[a8,this]
 ·rfl
 ·rfl
 ·intro i G b W;subst W;have hw:=bF (n:=(i:Int)+1) (by omega) (by omega);refine⟨?_,λbd dd=>?_⟩
  ·obtain⟨b,W⟩:=ar _ (List.getElem_mem G);simp only[bW,cX G,if_true,dk G,cH G,A.bn,W,A.e4,A.aF,cn,hw];split<;>rfl
  grind
 simp
end
abbrev k5(e:ab):aM:=⟨.az (.slice e) (.fn e .bool),bq,λx=>x.1.length<2 ^ 63/\∀ y∈x.1,∃ b,x.2 y=A.pure b,λx=>hP (λy=>(x.2 y).val false) x.1 0⟩
theorem s7(e:ab)(x):A.le (yn e.de x) ((k5 e).sh x):=A.bu λh=>OQ e.de x.1 x.2 h.1 h.2
abbrev je(e:ab):aM:=⟨.az (.slice e) (.fn e .bool),dj,λx=>x.1.length<2 ^ 63/\∀ y∈x.1,∃ b,x.2 y=A.pure b,λx=>x.1.any λy=>(x.2 y).val false⟩
theorem s8(e:ab)(x):A.le (Er (k5 e).sh x) ((je e).sh x):=A.bu λh=>by
 unfold Er;simp only[aM.sh,k5,A.dG];rw[A.bt (by exact h)];exact congrArg A.pure (AZ (λy=>(x.2 y).val false) x.1 0 (by omega))
abbrev wF(e:ab):aM:=⟨.az e (.bG (.fn e .bool)),dj,λx=>∃ f,x.2=some f/\∃ b,f x.1=A.pure b,λx=>!((x.2.getD λ_=>A.fail) x.1).val false⟩
theorem E3(e:ab)(x):A.le (Zt x) ((wF e).sh x):=A.bu λh=>by
 obtain⟨y,o⟩:=x;obtain⟨f,ar,b,W⟩:=h;change o=some f at ar;subst ar;change f y=A.pure b at W;unfold Zt;simp_all
abbrev jB(e:ab):aM:=⟨.az (.slice e) (.fn e .bool),dj,λx=>x.1.length<2 ^ 63/\∀ y∈x.1,∃ b,x.2 y=A.pure b,λx=>x.1.all λy=>(x.2 y).val false⟩
theorem E4(e:ab)(x):A.le (Zs (je e).sh (wF e).sh x) ((jB e).sh x):=A.bu λh=>by
 obtain⟨l,f⟩:=x;obtain⟨E,U⟩:=h;unfold Zs;have hc:∀ y∈l,(wF e).sh (y,some f)=A.pure (!(f y).val false):=λy aR=>by
  obtain⟨b,W⟩:=U y aR;exact A.bO ⟨f,rfl,b,W⟩ _
 simp only[aM.sh,je,A.dG];rw[A.bt ⟨E,λy aR=>⟨_,hc y aR⟩⟩];refine congrArg A.pure ?_;rw[List.not_any_eq_all_not];simp
end Go.Fer
namespace Go.Fer
open A (V)
theorem IM{ak:Type}{p q:ak->Bool}:∀ {l:List ak},(∀ x∈l,p x=q x)->l.all p=l.all q
 | [],_=>rfl
 | x::l,h=>by
  grind
theorem aov(x):A.le (aj5 x) (cp.sh x):=A.bu λ_=>rfl
theorem aow(x):A.le (aj6 cp.sh x) (pa.sh x):=A.bu λ_=>Zk x
abbrev yP:aM:=⟨bq,dj,λ_=>True,q2⟩
theorem aox(x):A.le (VO cp.sh x) (yP.sh x):=A.bu λ_=>by
 unfold VO;simp only[aM.sh,cp,A.dG,A.bn,yP,q2]
theorem aoy(x):A.le (aj2 cp.sh x) (p4.sh x):=A.bu λh=>Zi x.1 x.2 h
theorem aoz(x):A.le (VM cp.sh x) (r1.sh x):=A.bu λh=>by
 obtain⟨w,m,k⟩:=x;change ht w at h;have:=Zj w m k h;unfold H6 at this;unfold VM;simp only[aM.sh,Bv,A.dG,A.bt h,cp,A.bn,bW]at this ⊢;have ai:=h.2.1;have hw:=bF (n:=(w.2.1.length:Int) - 1) (by omega) (by omega);simp only[hw,r0];exact this
theorem aoA(x):A.le (aj4 x) (uX.sh x):=A.bu λh=>Zl x h
theorem aoB(l:z1')(n:Int)(h:l.length<2 ^ 63):N9 (l,n)=A.pure (hP (λy=>decide (n=y)) l 0):=by
 unfold N9;rw[A.gv l (λi (b:Int)=>(l,n,(l.length:Int),b,())) (λy (i:Int)=>if decide (n=y)=true then (.done (.done i):V Int (V Unit Int)) else .next (i+1)) (λ_=>.next ()) (λi b=>b=(i:Int)) 0 ?_ ?_ ?_ ?_]
 ·rw[A0 (λy=>decide (n=y))];by_cases a8:(l.any λy=>decide (n=y))=true
  ·simp_all
  ·rw[if_neg a8,Es l 0 a8];simp
 ·rfl
 ·rfl
 ·intro i G b W;subst W;have hw:=bF (n:=(i:Int)+1) (by omega) (by omega);refine⟨?_,λbd dd=>?_⟩
  ·simp only[bW,cX G,if_true,dk G,cH G,A.bn,A.aF,cn,hw];split<;>rfl
  grind
 simp
abbrev IN:aM:=⟨.az fO bq,bq,λx=>x.1.length<2 ^ 63,λx=>hP (λy=>decide (x.2=y)) x.1 0⟩
theorem aoC(x):A.le (N9 x) (IN.sh x):=A.bu λh=>aoB x.1 x.2 h
theorem aoD(x):A.le (VJ IN.sh x) (o7.sh x):=A.bu λh=>by
 unfold VJ;simp only[aM.sh,IN,A.dG];rw[A.bt (by exact h),AZ _ _ _ (by omega)];grind
theorem aoE(x):A.le (VN yP.sh pa.sh x) ((⟨kO,dj,λ_=>True,r2⟩:aM).sh x):=A.bu λ_=>by
 unfold VN;simp only[aM.sh,yP,pa,A.dG,A.jd,A.bn,implies_true,vV,r2]
abbrev IP:aM:=⟨kO,dj,λ_=>True,r2⟩
theorem aoF(x):A.le (VP uX.sh (jB bq).sh yP.sh pa.sh x) (tm.sh x):=A.bu λh=>by
 unfold VP;simp only[aM.sh,uX,pa,jB,yP,A.dG,A.jd,A.bn,implies_true,A.gQ];rw[A.bt (by exact λ_=>⟨h,λy _=>⟨_,A.bO trivial _⟩⟩),A.bt (by omega)];simp only[vV,bW];refine congrArg A.pure ?_;show _=p5 x;unfold p5;grind
abbrev By:aM:=⟨.az k8 (.bG (.fn q1 .bool)),dj,λx=>∃ f,x.2=some f/\x.1.length<2 ^ 63/\∀ y∈x.1,∃ b,f y=A.pure b,λx=>decide ((x.1.length:Int)<=4)&&x.1.all λy=>((x.2.getD λ_=>A.fail) y).val false⟩
theorem aoG(x):A.le (VQ (jB q1).sh x) (By.sh x):=A.bu λh=>by
 obtain⟨m,o⟩:=x;obtain⟨f,ar,E,U⟩:=h;change o=some f at ar;subst ar;unfold VQ;simp only[aM.sh,jB,A.dG,A.jd,Option.getD_some];simp_all
abbrev Bz:aM:=⟨.az j0 (.bG lD),dj,λx=>∃ w,x.2=some w/\ht w,λx=>tl (x.2.getD ([],[],0,[])) x.1⟩
theorem aoH(x):A.le (VR p4.sh r1.sh cp.sh x) (Bz.sh x):=A.bu λh=>by
 obtain⟨t,o⟩:=x;obtain⟨w,ar,E⟩:=h;change o=some w at ar;subst ar;unfold VR;simp only[aM.sh,p4,r1,cp,A.dG,A.jd,Option.getD_some,A.bt E,E,implies_true,A.bn,vV,Bz,tl]
theorem aoI(x):A.le (VL cp.sh (jB kO).sh (jB k8).sh (jB j0).sh By.sh Bz.sh IP.sh tm.sh x) (tn.sh x):=A.bu λh=>by
 have aT:ht x:=h;obtain⟨E,U,ag,a6⟩:=(h:ht x)
 unfold VL;have d1:∀ s,IP.sh s=A.pure (r2 s):=λ_=>rfl;have d2:∀ m∈x.2.1,By.sh (m,some tm.sh)=A.pure (q3 m):=λm hm=>by
  refine (A.bO ⟨_,rfl,(a6 m hm).1,λy aR=>⟨_,A.bO ((a6 m hm).2 y aR) _⟩⟩ _).trans (congrArg A.pure ?_);simp only[By,Option.getD_some,q3,aM.sh,A.gQ];grind
 have d3:∀ t,Bz.sh (t,some x)=A.pure (tl x t):=λt=>A.bO ⟨_,rfl,aT⟩ _;have b':(x.1.all λy=>(IP.sh y).val false)=x.1.all r2:=IM λs _=>A.gQ;have a2:(x.2.1.all λy=>(By.sh (y,some tm.sh)).val false)=x.2.1.all q3:=IM λm hm=>(congrArg (λz:A Bool=>z.val false) (d2 m hm)).trans A.e4;have a3:(x.2.2.2.all λy=>(Bz.sh (y,some x)).val false)=x.2.2.2.all (tl x):=IM λt _=>A.gQ;have ax:∀ y,(jB kO).sh y=A.dP ((jB kO).pre y) ((jB kO).g y):=λ_=>rfl;have aO:∀ y,(jB k8).sh y=A.dP ((jB k8).pre y) ((jB k8).g y):=λ_=>rfl;have cv:∀ y,(jB j0).sh y=A.dP ((jB j0).pre y) ((jB j0).g y):=λ_=>rfl;have ec:∀ y,cp.sh y=A.pure (cp.g y):=λ_=>rfl;simp only[ax,aO,cv,ec,A.dG,A.jd,A.kn,A.aF];rw[A.bt (by grind),A.bt (by grind),A.bt (by exact λ_=>⟨ag,λy _=>⟨_,d3 y⟩⟩)];simp only[vV,bW];refine congrArg A.pure ?_;show _=k9 x;rw[b',a2,a3];unfold k9 wA;grind
end Go.Fer
