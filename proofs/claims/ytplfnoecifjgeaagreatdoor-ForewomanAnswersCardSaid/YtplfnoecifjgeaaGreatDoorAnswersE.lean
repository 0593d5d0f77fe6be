/- Part 5 of the proof of Answers: shallow programs of Go functions, and what they compute. No condition. -/
import Derived.Test.YtplfnoecifjgeaaGreatDoorAnswersD
noncomputable section
set_option linter.unusedVariables false
set_option linter.unusedSimpArgs false
namespace Go.Fer.H
open A (V)
abbrev br:ab:=.int .i64
abbrev dk:ab:=.bool
abbrev fP:ab:=.slice br
abbrev l9:ab:=.st (.aA br br)
abbrev OT:ab:=.st (.aA br (.aA br (.aA br (.aA br (.aA br (.aA br br))))))
abbrev kq:ab:=.st (.aA (.slice l9) (.aA (.slice hr) (.aA fP (.aA (.slice l9) OT))))
abbrev Ip:ab:=.st (.aA hr br)
abbrev yq:ab:=.st (.aA fP (.array 10 (.slice Ip)))
abbrev s_:ab:=.st (.aA kq (.aA (.slice hr) (.slice (.bH yq))))
attribute [simp] qU VA v7 A.dH A.FR A.Rv A.gR A.e5 A.og A.je A.ko A.b3 A.pV cp gZ Vz V.hp
section
variable {ak:Type}
def yr(d:ak)(x:List ak×(ak->A Bool)):A Int:=
 A.bind (A.loop (λ(D:List ak×(ak->A Bool)×Int×Int×Unit)=>if decide (D.2.2.2.1<D.2.2.1)=true then A.ad (0<=D.2.2.2.1/\
 D.2.2.2.1<Int.ofNat (List.length D.1)) (A.bind (D.2.1 (List.getD D.1 (Int.toNat D.2.2.2.1) d)) λy=>if y=true then A.bind (A.bind (A.pure
 D.2.2.2.1) λr=>A.pure (V.done r)) λr=>A.pure (V.done r) else A.pure (V.next (D.1,D.2.1,D.2.2.1,IntKind.wrap .i64 (Add.add
 D.2.2.2.1 1),()))) else A.bind (A.pure (V.next ())) λr=>A.pure (V.done r)) (x.1,x.2,Int.ofNat (List.length x.1),0,())) (V.bE λ(D
 : Unit)=>A.pure (-1))
def Ev(c:List ak×(ak->A Bool)->A Int)(x:List ak×(ak->A Bool)):A Bool:=A.bind (c x) λy=>A.pure (decide (y>=0))
def hQ(p:ak->Bool):List ak->Int->Int
 | [],_=>-1
 | x::l,i=>if p x=true then i else hQ p l (i+1)
theorem A3(p:ak->Bool):∀ (l:List ak) (i:Int),0<=i->(decide (hQ p l i>=0))=l.any p
 | [],i,_=>by rfl
 | x::l,i,h=>by
  simp only[hQ,List.any_cons];by_cases ah:p x=true
  ·grind
  ·have:=A3 p l (i+1) (by omega);grind
theorem A4(p:ak->Bool):∀ (l:List ak) (i:Int),eY (λx (i:Int)=>if p x=true then (.done (.done i):V Int (V Unit Int)) else .next (i+1)) (λ_=>.next ()) l i=if l.any p=true then .done (hQ p l i) else .next ()
 | [],i=>by rfl
 | x::l,i=>by
  simp only[eY,List.any_cons,hQ];by_cases ah:p x=true
  ·grind
  ·have:=A4 p l (i+1);grind
theorem Ew{p:ak->Bool}:∀ (l:List ak) (i:Int),¬l.any p=true->hQ p l i=-1
 | [],_,_=>rfl
 | x::l,i,aw=>by
  simp only[List.any_cons,Bool.or_eq_true,not_or]at aw;simp only[hQ,aw.1,Bool.false_eq_true,if_false];exact Ew l _ aw.2
theorem OU(d:ak)(l:List ak)(f:ak->A Bool)(h:l.length<2 ^ 63)(au:∀ y∈l,∃ b,f y=A.pure b):yr d (l,f)=A.pure (hQ (λy=>(f y).val false) l 0):=by
 unfold yr;rw[A.gw l (λi (b:Int)=>(l,f,(l.length:Int),b,())) (λy (i:Int)=>if (f y).val false=true then (.done (.done i):V Int (V Unit Int)) else .next (i+1)) (λ_=>.next ()) (λi b=>b=(i:Int)) 0 ?_ ?_ ?_ ?_]
 ·rw[A4 (λy=>(f y).val false)];by_cases a_:(l.any λy=>(f y).val false)=true
  ·simp[a_]
  ·have:hQ (λy=>(f y).val false) l 0=-1:=by
    have:∀ (l:List ak) (i:Int),¬(l.any λy=>(f y).val false)=true->hQ (λy=>(f y).val false) l i=-1:=by
     intro l;induction l with
     | nil=>intro i _;rfl
     | cons x l aI=>
      intro i aw;simp only[List.any_cons,Bool.or_eq_true,not_or]at aw;simp only[hQ,aw.1,Bool.false_eq_true,if_false];grind
    grind
   simp[a_,this]
 ·rfl
 ·rfl
 ·intro i G b W;subst W;have hw:=bG (n:=(i:Int)+1) (by omega) (by omega);refine⟨?_,λbe de=>?_⟩
  ·obtain⟨b,W⟩:=au _ (List.getElem_mem G);simp only[bX,cY G,if_true,dm G,cI G,A.bo,W,A.e5,A.aG,cp,hw];split<;>rfl
  grind
 simp
end
abbrev k6(e:ab):aN:=⟨.aA (.slice e) (.fn e .bool),br,λx=>x.1.length<2 ^ 63/\∀ y∈x.1,∃ b,x.2 y=A.pure b,λx=>hQ (λy=>(x.2 y).val false) x.1 0⟩
theorem ta(e:ab)(x):A.le (yr e.df x) ((k6 e).sh x):=A.bw λh=>OU e.df x.1 x.2 h.1 h.2
abbrev jf(e:ab):aN:=⟨.aA (.slice e) (.fn e .bool),dk,λx=>x.1.length<2 ^ 63/\∀ y∈x.1,∃ b,x.2 y=A.pure b,λx=>x.1.any λy=>(x.2 y).val false⟩
theorem tb(e:ab)(x):A.le (Ev (k6 e).sh x) ((jf e).sh x):=A.bw λh=>by
 unfold Ev;simp only[aN.sh,k6,A.dH];rw[A.bu (by exact h)];exact congrArg A.pure (A3 (λy=>(x.2 y).val false) x.1 0 (by omega))
abbrev jX(s:a8):Int:=s.1
abbrev p2(s:a8):Int:=s.2.1
abbrev yt(s:a8):Int:=s.2.2.1
abbrev eb(s:a8):Int:=s.2.2.2.1
abbrev uM(s:a8):Int:=s.2.2.2.2.1
abbrev ij(s:a8):Int:=s.2.2.2.2.2
def j7(c:a6):Prop:=c.1.length<2 ^ 63/\c.2.1.length<2 ^ 63/\c.2.2.1.length<2 ^ 63/\c.2.2.2.1.length<2 ^ 63
def b1(n aY G:Int):Bool:=decide (aY<=n)&&decide (n<=G)
theorem oi{n aY G:Int}:b1 n aY G=true<->aY<=n/\n<=G:=by simp[b1]
def o8(t:p0):Bool:=b1 t.1 0 9999&&b1 t.2.1 1 9999&&b1 t.2.2.2.2.1 1 9999&&b1 t.2.2.1 0 100000&&b1 t.2.2.2.1 0 100000&&b1 t.2.2.2.2.2.1 0 100000&&b1 t.2.2.2.2.2.2 0 100000
def lC(n:Nat)(s:a8):Bool:=b1 (jX s) 0 99&&b1 (p2 s) 0 ((n:Int) - 1)&&b1 (yt s) 0 9999&&b1 (uM s) 0 9&&b1 (ij s) 0 99&&(decide (eb s=1)||decide (eb s=2)&&decide (ij s=0))
abbrev cq:aN:=⟨.aA br (.aA br br),dk,λ_=>True,λx=>b1 x.1 x.2.1 x.2.2⟩
theorem alp(x):A.le (WQ cq.sh x) (cq.sh x):=A.bw λ_=>by
 unfold WQ;simp[aN.sh,cq]
theorem alq(x):A.le (akT x) (cq.sh x):=A.bw λ_=>rfl
abbrev yu:aN:=⟨br,dk,λ_=>True,λx=>b1 x 0 9999⟩
theorem alr(x):A.le (Wy cq.sh x) (yu.sh x):=A.bw λ_=>by
 unfold Wy;simp[aN.sh,cq]
abbrev wb:aN:=⟨br,dk,λ_=>True,λx=>b1 x 0 99⟩
theorem als(x):A.le (WJ cq.sh x) (wb.sh x):=A.bw λ_=>by
 unfold WJ;simp[aN.sh,cq]
abbrev wc:aN:=⟨OT,dk,λ_=>True,λx=>o8 x⟩
theorem alu(x):A.le (W0 cq.sh x) (wc.sh x):=A.bw λ_=>by
 unfold W0;show _=A.pure (o8 x);unfold o8;simp only[aN.sh,cq,A.nS,A.aG,A.ko];simp
theorem alv(x):A.le (WW cq.sh x) (wc.sh x):=A.bw λ_=>by
 unfold WW;rw[A.eu [x.2.2.1,x.2.2.2.1,x.2.2.2.2.2.1,x.2.2.2.2.2.2] (λi (_:Unit)=>(4,(i:Int),x,[x.2.2.1,x.2.2.2.1,x.2.2.2.2.2.1,x.2.2.2.2.2.2],())) (λy b=>if (!b1 y 0 100000)=true then .done (.done false) else .next b) (λ_=>.next (x,())) () ?_ ?_ ?_]
 ·rw[k1 (q:=λy=>b1 y 0 100000) _ _ (λ_=>rfl)];show _=A.pure (o8 x);unfold o8;simp only[List.all_cons,List.all_nil,Bool.and_true,aN.sh,cq,A.nS,A.aG,A.ko];cases E:b1 x.1 0 9999<;>cases U:b1 x.2.1 1 9999<;>cases ag:b1 x.2.2.2.2.1 1 9999<;>cases b1 x.2.2.1 0 100000<;>cases b1 x.2.2.2.1 0 100000<;>cases b1 x.2.2.2.2.2.1 0 100000<;>cases b1 x.2.2.2.2.2.2 0 100000<;>simp[E,U,ag]
 ·rfl
 ·intro i G b;have dJ:i<4:=by omega
  have hw:=bG (n:=(i:Int)+1) (by omega) (by omega);have E:decide ((i:Int)<4)=true:=by grind
  simp only[E,if_true,bX,dm G,cI G,A.bo,aN.sh,cq,A.nS,A.aG,cp,hw];exact nl (mk:=λ(_:Unit)=>((4:Int),((i+1:Nat):Int),x,[x.2.2.1,x.2.2.2.1,x.2.2.2.2.2.1,x.2.2.2.2.2.2],()))
 simp
abbrev we:aN:=⟨.aA kq hr,dk,λx=>x.1.1.length<2 ^ 63,λx=>lC x.1.1.length x.2⟩
theorem alw(x):A.le (W1 cq.sh x) (we.sh x):=A.bw λh=>by
 have hw:=bG (n:=(x.1.1.length:Int) - 1) (by omega) (by omega);unfold W1;show _=A.pure (lC x.1.1.length x.2);unfold lC;simp only[aN.sh,cq,A.nS,A.aG,A.ko,bX,hw];grind
theorem alx(x):A.le (WY cq.sh wb.sh x) (we.sh x):=A.bw λh=>by
 have hw:=bG (n:=(x.1.1.length:Int) - 1) (by omega) (by omega);unfold WY;show _=A.pure (lC x.1.1.length x.2);unfold lC;simp only[aN.sh,cq,wb,A.nS,A.aG,A.ko,bX,hw];grind
abbrev Ex:aN:=⟨.aA hr (.bH kq),dk,λx=>∃ c:a6,x.2=some c/\c.1.length<2 ^ 63,λx=>!lC (x.2.getD ([],[],[],[],0,0,0,0,0,0,0)).1.length x.1⟩
theorem aly(x):A.le (WX we.sh x) (Ex.sh x):=A.bw λh=>by
 obtain⟨s,o⟩:=x;obtain⟨c,hc,h⟩:=h;change o=some c at hc;subst hc;unfold WX;simp only[Option.getD_some,aN.sh,we,A.dH];simp_all
abbrev A5:aN:=⟨br,dk,λ_=>True,λx=>!b1 x 0 99⟩
theorem alz(x):A.le (WZ wb.sh x) (A5.sh x):=A.bw λ_=>by
 unfold WZ;simp[aN.sh,wb]
theorem Xi(a b:a8):(decide (a.1=b.1)&&(decide (a.2.1=b.2.1)&&(decide (a.2.2.1=b.2.2.1)&&(decide (a.2.2.2.1=b.2.2.2.1)&&(decide (a.2.2.2.2.1=b.2.2.2.2.1)&&decide (a.2.2.2.2.2=b.2.2.2.2.2))))))=decide (a=b):=by
 grind
def uN(a b:a8):Bool:=decide (jX a=jX b)&&!decide (a=b)
abbrev Iq:aN:=⟨.aA hr hr,dk,λ_=>True,λx=>uN x.1 x.2⟩
theorem alA(x):A.le (WO x) (Iq.sh x):=A.bw λ_=>by
 have h:=Xi x.1 x.2;unfold WO;show _=A.pure (uN x.1 x.2);unfold uN;grind
abbrev o9:aN:=⟨.aA fP br,dk,λx=>x.1.length<2 ^ 63,λx=>x.1.contains x.2⟩
theorem alB(x):A.le (ald x) ((k6 hr).sh x):=ta hr x
theorem alC(x):A.le (ak9 (k6 hr).sh x) ((jf hr).sh x):=tb hr x
abbrev o_:aN:=⟨fP,fP,λx=>x.length<=3000000,λx=>x⟩
theorem ft{n:Nat}(h:n<65536):b_ n:=by unfold b_;omega
theorem alD(x):A.le (W3 x) (o_.sh x):=A.s4 λh=>by
 unfold W3;rw[A.fZ];refine⟨⟨false,by simp⟩,λb W=>?_⟩;change b=true->x=[]at W;cases b with
 | true=>rw[W rfl];exact A.d'.2 rfl
 | false=>
  simp only[Bool.false_eq_true,if_false];exact A.kS.2 ⟨by change List.length x<=3000000 at h;simp only[gZ,b_];omega,A.d'.2 (by simp)⟩
abbrev alE(c:a6):Prop:=c.1.length<=20/\c.2.1.length<=40/\c.2.2.1.length<=60/\c.2.2.2.1.length<=40
abbrev Ir:aN:=⟨br,dk,λ_=>True,λ_=>false⟩
theorem alF(x):A.le (W7 x) (Ir.sh x):=A.bw λ_=>by simp[W7]
abbrev Is:aN:=⟨.aA br br,br,λ_=>True,λx=>if x.1<x.2 then -1 else if x.1 > x.2 then 1 else 0⟩
theorem alG(x):A.le (W5 Ir.sh x) (Is.sh x):=A.bw λ_=>by
 unfold W5;simp only[aN.sh,Ir,A.nS,A.aG,Bool.false_eq_true,if_false,decide_eq_true_eq];grind
abbrev l_:aN:=⟨.aA Ip Ip,br,λ_=>True,λx=>if x.1.2<x.2.2 then -1 else if x.1.2 > x.2.2 then 1 else 0⟩
theorem alH(x):A.le (W4 Is.sh x) (l_.sh x):=A.bw λ_=>by
 unfold W4;simp only[aN.sh,Is,A.nS,A.aG]
abbrev OV:aN:=⟨.int .u64,br,λx=>0<=x/\x<=12,λx=>(Et x).val 0⟩
theorem alI(x):A.le (Et x) (OV.sh x):=A.bw λh=>by
 have key:∃ v,Et x=A.pure v:=by
  change Int at x;change (0:Int)<=x/\x<=12 at h;unfold Et;have ay:¬(x>=4294967296):=by omega
  have aP:¬(x>=65536):=by omega
  have cw:¬(x>=256):=by omega
  have ed:IntKind.wrap .u8 x=x:=by
   show (if (false&&decide (x % 2 ^ 8>=(2 ^ (8 - 1):Int)))=true then x % 2 ^ 8 - 2 ^ 8 else x % 2 ^ 8)=x;grind
  have j8:0<=x/\x<Int.ofNat 256:=⟨h.1,by grind⟩
  simp only[decide_eq_true_eq,ay,aP,cw,if_false,A.aG,A.b3,ed,A.bu j8];grind
 obtain⟨v,ae⟩:=key;simp_all
abbrev OW:aN:=⟨.int .u64,br,λx=>0<=x/\x<=12,λx=>(Et x).val 0⟩
theorem alJ(f)(x):A.le (W2 f OV.sh x) (OW.sh x):=A.bw λh=>by
 unfold W2;simp only[aN.sh,A.dH];simp_all
end Go.Fer.H
namespace Go.Fer.H
open A (V)
section
variable {ak:Type} (d:ak) (lt:ak->ak->Bool)
def wg(l:List ak):Nat->List ak
 | 0=>l
 | k+1=>if lt (l.getD (k+1) d) (l.getD k d)=true then wg ((l.set (k+1) (l.getD k d)).set k (l.getD (k+1) d)) k else l
def p3(e:ak):List ak->List ak
 | []=>[e]
 | a::r=>if lt e a=true then a::p3 e r else e::a::r
def uO(l:List ak):List ak:=l.foldl (λr e=>p3 lt e r) []
def fu(l:List ak):List ak:=(uO lt l).reverse
theorem Xj:∀ (r:List ak) (e:ak) (R:List ak),wg d lt (r.reverse++e::R) r.length=(p3 lt e r).reverse++R
 | [],e,R=>rfl
 | a::r,e,R=>by
  have ay:((a::r).reverse++e::R).getD (r.length+1) d=e:=by
   simp
  have aP:((a::r).reverse++e::R).getD r.length d=a:=by
   simp
  show wg d lt ((a::r).reverse++e::R) (r.length+1)=_;unfold wg;rw[ay,aP];unfold p3;split
  ·have cw:(((a::r).reverse++e::R).set (r.length+1) a).set r.length e=r.reverse++e::(a::R):=by
    simp
   rw[cw,Xj r e (a::R)];simp
  ·simp
theorem OX(e:ak):∀ r:List ak,(p3 lt e r).Perm (e::r)
 | []=>.refl _
 | a::r=>by
  unfold p3;split
  ·exact ((OX e r).cons a).trans (List.Perm.swap e a r)
  rfl
theorem Xk:∀ (l r:List ak),(l.foldl (λr e=>p3 lt e r) r).Perm (l++r)
 | [],r=>.refl _
 | x::l,r=>by
  simp only[List.foldl_cons];refine (Xk l _).trans ?_;refine ((OX lt x r).append_left l).trans ?_;simp
theorem Xl(l:List ak):(uO lt l).Perm l:=by
 have:=Xk lt l [];rwa [List.append_nil]at this
theorem Ey(l:List ak):(fu lt l).Perm l:=(List.reverse_perm _).trans (Xl lt l)
theorem Xm(l:List ak):(uO lt l).length=l.length:=(Xl lt l).length_eq
theorem It(l:List ak):(fu lt l).length=l.length:=(Ey lt l).length_eq
theorem Xn{l:List ak}{x:ak}:x∈fu lt l<->x∈l:=(Ey lt l).mem_iff
theorem alK(l:List ak)(e:ak):uO lt (l++[e])=p3 lt e (uO lt l):=by simp[uO]
def qX(l:List ak)(n:Nat):List ak:=(uO lt (l.take n)).reverse++l.drop n
theorem alL(l:List ak):qX lt l 1=l:=by
 cases l with
 | nil=>rfl
 | cons x l=>rfl
theorem alM(l:List ak):qX lt l l.length=fu lt l:=by simp[qX,fu]
theorem alN(l:List ak)(n:Nat)(h:n<=l.length):(qX lt l n).length=l.length:=by
 simp[qX,Xm,Nat.min_eq_left h];omega
theorem alO{l:List ak}{n:Nat}(h:n<l.length):wg d lt (qX lt l n) n=qX lt l (n+1):=by
 have ay:(uO lt (l.take n)).length=n:=by rw[Xm];grind
 have:=Xj d lt (uO lt (l.take n)) l[n] (l.drop (n+1));rw[ay]at this;unfold qX;rw[List.drop_eq_getElem_cons h,this,List.take_add_one,List.getElem?_eq_getElem h,Option.toList_some,alK]
theorem OY(ck:∀ a b,lt a b=false->lt b a=true\/lt b a=false)(aX:∀ a b c:ak,lt a b=false->lt b c=false->lt a c=false)(Xo:∀ a b,lt a b=true->lt b a=false)(e:ak):∀ r:List ak,r.Pairwise (λa b=>lt a b=false)->(p3 lt e r).Pairwise (λa b=>lt a b=false)
 | [],_=>by simp[p3]
 | a::r,h=>by
  rw[List.pairwise_cons]at h;unfold p3;split
  ·rename_i he;refine List.pairwise_cons.2 ⟨λx ah=>?_,OY ck aX Xo e r h.2⟩;rcases List.mem_cons.1 ((OX lt e r).mem_iff.1 ah) with rfl | ah
   ·exact Xo _ _ he
   ·exact h.1 x ah
  ·rename_i he;have he:lt e a=false:=by grind
   refine List.pairwise_cons.2 ⟨λx ah=>?_,List.pairwise_cons.2 h⟩;grind
end
def ht(a b:Int):Bool:=decide (a<b)
def h2(a b:bx):Bool:=decide (a.2<b.2)
theorem Xp:∀ (l r:z1'),r.Pairwise (λa b=>ht a b=false)->(l.foldl (λr e=>p3 ht e r) r).Pairwise (λa b=>ht a b=false)
 | [],r,h=>h
 | x::l,r,h=>Xp l _ (OY ht (λa b _=>by simp) (λa b c E U=>by simp[ht]at *;omega) (λa b h=>by simp[ht]at *;omega) x r h)
theorem OZ(l:z1'):(fu ht l).Pairwise (·<=·):=by
 have:=Xp l [] .nil;unfold fu;rw[List.pairwise_reverse];exact this.imp λh=>by simp[ht]at h;exact h
theorem Xq:∀ (l r:List bx),r.Pairwise (λa b=>h2 a b=false)->(l.foldl (λr e=>p3 h2 e r) r).Pairwise (λa b=>h2 a b=false)
 | [],r,h=>h
 | x::l,r,h=>Xq l _ (OY h2 (λa b _=>by simp) (λa b c E U=>by simp[h2]at *;omega) (λa b h=>by simp[h2]at *;omega) x r h)
theorem alP(l:List bx):(fu h2 l).Pairwise λa b=>a.2<=b.2:=by
 have:=Xq l [] .nil;unfold fu;rw[List.pairwise_reverse];exact this.imp λh=>by simp[h2]at h;exact h
theorem A6{l m:z1'}(h:m.Pairwise (·<=·))(ao:l.Perm m):fu ht l=m:=
 List.Perm.eq_of_pairwise (λa b _ _ E U=>by omega) (OZ l) h ((Ey ht l).trans ao)
theorem Xr{l m:z1'}(ao:l.Perm m):fu ht l=fu ht m:=A6 (OZ m) (ao.trans (Ey ht m).symm)
theorem alQ{ak:Type}{d:ak}{lt:ak->ak->Bool}{D aJ:Type}{body:D->A (V D aJ)}{s0:D}(mk:Nat->List ak->D)(fin:List ak->aJ)(ho:Nat)(fg:List ak)(nj:s0=mk ho fg)(nb:ho<fg.length)
  (aE:∀ k l,l.length=fg.length->k<fg.length->body (mk k l)=A.pure (if 0<k/\lt (l.getD k d) (l.getD (k - 1) d)=true then .next (mk (k - 1) ((l.set k (l.getD (k - 1) d)).set (k - 1) (l.getD k d))) else .done (fin l))) :
  A.loop body s0=A.pure (fin (wg d lt fg ho)):=by
 subst nj;have key:∀ k l,l.length=fg.length->k<fg.length->A.loop body (mk k l)=A.pure (fin (wg d lt l k)):=by
  intro k;induction k with
  | zero=>
   intro l ai al;exact A.sg (by rw[aE 0 l ai al,if_neg (by simp)];rfl)
  | succ k aI=>
   intro l ai al;unfold wg;by_cases h:lt (l.getD (k+1) d) (l.getD k d)=true
   ·rw[if_pos h,A.zt (s':=mk k ((l.set (k+1) (l.getD k d)).set k (l.getD (k+1) d)))]
    ·exact aI _ (by simpa using ai) (by omega)
    ·rw[aE (k+1) l ai al,if_pos ⟨by omega,h⟩];rfl
   ·rw[if_neg h];exact A.sg (by grind)
 grind
theorem O0{ak:Type}{l:List ak}{d:ak}{k:Nat}:l.getD ((k:Int) - 1).toNat d=l.getD (k - 1) d:=by
 simp
theorem Xs{ak:Type}{l:List ak}{d:ak}{k:Nat}:l.getD ((k:Int)).toNat d=l.getD k d:=by rfl
theorem alR{D aJ:Type}{c:Bool}{p:Prop}[Decidable p](h:c=decide p){x y:A (V D aJ)}{a b:V D aJ}(E:p->x=A.pure a)(U:¬p->y=A.pure b):(if c=true then x else y)=A.pure (if p then a else b):=by
 grind
def Iu(x:Int×Int×(bx×a8×Int->A Int)×List bx×Unit):A (List bx×Unit):=A.dQ (x.1=0/\x.2.1=(x.2.2.2.1.length:Int)/\x.2.2.2.1.length<=12/\x.2.2.1=l_.sh) (fu h2 x.2.2.2.1,())
theorem alS(x):A.le (W' x) (Iu x):=A.bw λh=>by
 obtain⟨a,b,f,l,u⟩:=x;obtain⟨E,U,ag,a7⟩:=h;change a=0 at E;change b=(l.length:Int) at U;change l.length<=12 at ag;change f=l_.sh at a7;subst E;subst U;subst a7;unfold W';rw[A.eu (List.range (l.length - 1)) (λi (_:Unit)=>(0,(l.length:Int),l_.sh,((i+1:Nat):Int),qX h2 l (i+1),())) (λ_ _=>.next ()) (λ_=>(fu h2 l,())) () ?_ ?_ ?_]
 ·rw[fs]
 ·show (0,(l.length:Int),l_.sh,IntKind.wrap .i64 (Add.add 0 1),l,())=(0,(l.length:Int),l_.sh,((0+1:Nat):Int),qX h2 l (0+1),())
  rw[alL];rfl
 ·intro i G _;have G:i+1<l.length:=by grind
  have ai:=alN h2 l (i+1) (by omega);have hw:=bG (n:=((i+1:Nat):Int)+1) (by omega) (by omega);have ar:decide (((i+1:Nat):Int)<(l.length:Int))=true:=by grind
  simp only[ar,if_true];rw[alQ (d:=((0,0,0,0,0,0),0)) (lt:=h2) (λk m=>(0,(l.length:Int),l_.sh,((i+1:Nat):Int),(k:Int),m,())) (λm=>.next (0,(l.length:Int),l_.sh,((i+1:Nat):Int),m,())) (i+1) (qX h2 l (i+1)) rfl (by omega) ?_]
  ·simp only[A.aG,A.b3,cp,hw,alO ((0,0,0,0,0,0),0) h2 G];rfl
  ·intro k m hm al;have gY:0<k->IntKind.wrap .i64 ((k:Int) - 1)=(k:Int) - 1:=λ_=>bG (by omega) (by omega);by_cases nb:0<k
   ·have ao:decide ((k:Int) > 0)=true:=by grind
    have cg:(0:Int)<=(k:Int)/\(k:Int)<Int.ofNat m.length:=⟨by omega,by grind⟩
    have cJ:(0:Int)<=(k:Int) - 1/\(k:Int) - 1<Int.ofNat m.length:=⟨by omega,by omega⟩
    have et:(0:Int)<=(k:Int) - 1/\(k:Int) - 1<Int.ofNat (m.set k (m.getD (k - 1) ((0,0,0,0,0,0),0))).length:=⟨by omega,by grind⟩
    have Iv:((k:Int) - 1)=((k - 1:Nat):Int):=by omega
    simp only[ao,gY nb,cg,cJ,forall_const,and_self,true_and,A.bo,aN.sh,l_,A.nS,A.ko,A.aG,if_true,Bool.true_and,O0,Xs,Int.toNat_natCast,et];rw[show ((k:Int) - 1).toNat=k - 1 from by omega];refine alR (p:=0<k/\h2 (m.getD k ((0,0,0,0,0,0),0)) (m.getD (k - 1) ((0,0,0,0,0,0),0))=true) ?_ (λ_=>?_) (λ_=>rfl)
    ·rw[Bool.eq_iff_iff];simp only[h2,nb,true_and,decide_eq_true_eq];grind
    rw[Iv]
   ·have Xt:k=0:=by omega
    subst Xt;simp[cu]
 ·intro _;have e:qX h2 l (l.length - 1+1)=fu h2 l:=by
   cases l with
   | nil=>rfl
   | cons x r=>exact alM h2 (x::r)
  have ar:decide (((l.length - 1+1:Nat):Int)<(l.length:Int))=false:=by grind
  simp only[List.length_range,ar,Bool.false_eq_true,if_false,e,A.aG]
def Iw(x:Int×Int×Int×(bx×a8×Int->A Int)×List bx×Unit):A (List bx×Unit):=A.dQ (x.1=0/\x.2.1=(x.2.2.2.2.1.length:Int)/\x.2.2.2.2.1.length<=12/\x.2.2.2.1=l_.sh) (fu h2 x.2.2.2.2.1,())
theorem alT(x):A.le (Xf Iu x) (Iw x):=A.bw λh=>by
 obtain⟨a,b,c,f,l,u⟩:=x;obtain⟨E,U,ag,a7⟩:=h;change a=0 at E;change b=(l.length:Int) at U;change l.length<=12 at ag;change f=l_.sh at a7;subst E;subst U;subst a7;unfold Xf;refine A.sg ?_;have hw:=bG (n:=(l.length:Int) - 0) (by omega) (by omega);have ar:decide ((l.length:Int) - 0<=12)=true:=by grind
 simp only[hw,ar,if_true];unfold Iu;simp_all
theorem alU{n:Int}(h:0<=n)(U:n<=12):IntKind.wrap .u64 n=n:=by
 show (if (false&&decide (n % 2 ^ 64>=(2 ^ (64 - 1):Int)))=true then n % 2 ^ 64 - 2 ^ 64 else n % 2 ^ 64)=n;grind
def yv(x:z1'×Unit):A (z1'×Unit):=A.dQ (x.1.length<4611686018427387904) (fu ht x.1,())
def A7(x:(bx×a8×Int->A Int)×List bx×Unit):A (List bx×Unit):=A.dQ (x.2.1.length<=12/\x.1=l_.sh) (fu h2 x.2.1,())
theorem alV(x):A.le (Xh OW.sh Iw x) (A7 x):=A.bw λh=>by
 obtain⟨f,l,u⟩:=x;obtain⟨h,a7⟩:=h;change l.length<=12 at h;change f=l_.sh at a7;subst a7;unfold Xh;have hw:=alU (n:=(l.length:Int)) (by omega) (by omega);show A.bind (A.dQ (0<=IntKind.wrap .u64 (l.length:Int)/\IntKind.wrap .u64 (l.length:Int)<=12) _) _=_;rw[A.dH,A.bu (by omega)];unfold Iw;simp_all
def A8(x:(z1'->Prop)×Unit):A (z1'×Unit):=⟨(∃ L,x.1 L)/\∀ L,x.1 L->L.length<60000,λy=>x.1 y.1⟩
theorem Xu:∀ (L acc:z1'),L.length+acc.length<60000->jR (λ(D:z1'×Unit) (y:Int)=>A.bind (A.ad (b_ (Add.add (List.length D.1) (Add.add 0 1))) (A.pure (dj.normal,D.1++[y],()))) λp=>A.pure (p.1,p.2.1,())) L (acc,())=A.pure (.normal,acc++L,())
 | [],acc,_=>by simp[jR]
 | x::L,acc,h=>by
  simp only[List.length_cons]at h;unfold jR;rw[A.bu (ft (by grind))];simp only[A.aG];rw[Xu L (acc++[x]) (by grind)];simp
theorem alW(x):A.le (W8 x) (A8 x):=λh=>by
 obtain⟨S,u⟩:=x;obtain⟨E,U⟩:=h;show A.cv _ _;unfold W8;rw[A.fZ];refine⟨E,λL iP=>?_⟩;have iP:S L:=iP;show A.cv (A.bind (jR _ L ([],())) _) _;rw[Xu L [] (by grind)];simp only[A.aG,sM,List.nil_append];exact A.d'.2 iP
theorem alX(x):A.le (W9 A8 x) (A8 x):=λh=>by
 obtain⟨S,u⟩:=x;show A.cv _ _;unfold W9;rw[A.fZ];exact⟨h,λy aS=>A.d'.2 aS⟩
open Classical in
def A9(S:z1'->Prop):z1':=if h:∃ L,S L then fu ht h.choose else []
abbrev tc:aN:=⟨.cr br,fP,λS=>(∃ L,S L)/\(∀ L e4,S L->S e4->L.Perm e4)/\∀ L,S L->L.length<60000,λS=>A9 S⟩
theorem alY(x):A.le (WA yv A8 x) (tc.sh x):=A.s4 λh=>by
 obtain⟨E,U,ag⟩:=h;unfold WA;rw[A.fZ];refine⟨⟨E,λL iP=>by grind⟩,λy aS=>?_⟩;have aS:x y.1:=aS;unfold yv;show A.cv (A.bind (A.dQ _ _) _) _;rw[A.dH,A.kS];refine⟨Nat.lt_trans (ag _ aS) (by decide),A.d'.2 ?_⟩;show fu ht y.1=A9 x;unfold A9;rw[dif_pos E];exact Xr (U _ _ aS E.choose_spec)
theorem alZ{S:z1'->Prop}{L:z1'}(h:S L)(U:∀ L e4,S L->S e4->L.Perm e4):A9 S=fu ht L:=by
 have E:∃ L,S L:=⟨L,h⟩
 unfold A9;rw[dif_pos E];exact Xr (U _ _ E.choose_spec h)
def jY{ak:Type}(x:Option (List (Int×ak)))(L:z1'):Prop:=∃ m,x=some m/\(m.map (·.1)).Perm L
abbrev Ix:aN:=⟨.map br br,.cr br,λ_=>True,λx=>jY (some x)⟩
theorem al0(x):A.le (akV jY x) (Ix.sh x):=A.bw λ_=>rfl
abbrev yw:aN:=⟨.map br hr,.cr br,λ_=>True,λx=>jY (some x)⟩
theorem al1(x):A.le (ala jY x) (yw.sh x):=A.bw λ_=>rfl
theorem uP{ak:Type}{m:List (Int×ak)}{L:z1'}:jY (some m) L<->(m.map (·.1)).Perm L:=⟨λ⟨dx,h,k⟩=>by grind,λh=>⟨m,rfl,h⟩⟩
theorem Xv{ak:Type}{m:List (Int×ak)}(h:m.length<60000):tc.pre (jY (some m)):=
 ⟨⟨_,uP.2 (.refl _)⟩,λL e4 E U=>(uP.1 E).symm.trans (uP.1 U),λL iP=>by rw[<-(uP.1 iP).length_eq];grind⟩
theorem Xw{ak:Type}{m:List (Int×ak)}:A9 (jY (some m))=fu ht (m.map (·.1)):=
 alZ (uP.2 (.refl _)) λL e4 E U=>(uP.1 E).symm.trans (uP.1 U)
end Go.Fer.H
namespace Go.Fer.H
open A (V)
def td(s:Int×Int):Bool:=b1 s.1 (-30) s.2&&!decide (s.2 > 30)
def iS(l:z4')(i:Nat):Bool:=b1 (l.getD i (0,0)).1 0 (l.getD i (0,0)).2&&!decide ((l.getD i (0,0)).2 > 9999)&&!(decide (0<i)&&decide ((l.getD i (0,0)).1<=(l.getD (i - 1) (0,0)).2))
def A_(l:z4'):Bool:=(List.range l.length).all (iS l)
def te(c:a6):Bool:=!(decide ((c.1.length:Int) > 3)||decide ((c.2.1.length:Int) > 12)||decide ((c.2.2.1.length:Int) > 12)||decide ((c.2.2.2.1.length:Int) > 4))&&o8 c.2.2.2.2
def jZ(c:a6):Bool:=te c&&c.1.all td&&c.2.1.all (lC c.1.length)&&c.2.2.1.all (λn=>b1 n 0 99)&&A_ c.2.2.2.1
abbrev wh:aN:=⟨kq,dk,j7,λc=>jZ c⟩
theorem Iy{D aJ β:Type}{mk:β->D}{b:β}{q:Bool}{r:aJ}{m:A (V D aJ)}(E:q=true->m=A.pure (.next (mk b)))(U:q=false->m=A.pure (.done r)):m=A.pure (V.hp mk (if (!q)=true then .done r else .next b)):=by
 cases q
 ·exact U rfl
 ·exact E rfl
theorem Xx{ak:Type}{a t:Bool}{m n:ak}:(if (a||!(if (!a)=true then t else false))=true then m else n)=if (!a&&t)=true then n else m:=by grind
theorem al2(x):A.le (WM cq.sh wc.sh we.sh x) (wh.sh x):=A.bw λh=>by
 obtain⟨aR,aW,bL,fA⟩:=h;unfold WM;show _=A.pure (jZ x);simp only[aN.sh,wc,A.nS,A.ko,A.aG,bX,Xx];unfold jZ;rw[show (!(decide ((x.1.length:Int) > 3)||decide ((x.2.1.length:Int) > 12)||decide ((x.2.2.1.length:Int) > 12)||decide ((x.2.2.2.1.length:Int) > 4))&&o8 x.2.2.2.2)=te x from rfl];cases W:te x with
 | false=>rfl
 | true=>
  rw[if_pos rfl];rw[A.eu x.1 (λi (_:Unit)=>((i:Int),x,())) (λy b=>if (!td y)=true then .done (.done false) else .next b) (λ_=>.next (x,())) () ?_ ?_ ?_]
  ·rw[k1 (q:=td) _ _ (λ_=>rfl)];cases hc:x.1.all td with
   | false=>simp
   | true=>
    simp only[if_true,A.aG,A.b3];rw[A.eu x.2.1 (λi (_:Unit)=>((i:Int),x,())) (λy b=>if (!lC x.1.length y)=true then .done (.done false) else .next b) (λ_=>.next (x,())) () ?_ ?_ ?_]
    ·rw[k1 (q:=lC x.1.length) _ _ (λ_=>rfl)];cases ar:x.2.1.all (lC x.1.length) with
     | false=>simp
     | true=>
      simp only[if_true,A.aG,A.b3];rw[A.eu x.2.2.1 (λi (_:Unit)=>((i:Int),x,())) (λy b=>if (!b1 y 0 99)=true then .done (.done false) else .next b) (λ_=>.next (x,())) () ?_ ?_ ?_]
      ·rw[k1 (q:=λn=>b1 n 0 99) _ _ (λ_=>rfl)];cases he:x.2.2.1.all (λn=>b1 n 0 99) with
       | false=>simp
       | true=>
        simp only[if_true,A.aG,A.b3];rw[A.eu (List.range x.2.2.2.1.length) (λi (_:Unit)=>((i:Int),x,())) (λy b=>if (!iS x.2.2.2.1 y)=true then .done (.done false) else .next b) (λ_=>.next ()) () ?_ ?_ ?_]
        ·rw[k1 (q:=iS x.2.2.2.1) _ _ (λ_=>rfl)];unfold A_;cases (List.range x.2.2.2.1.length).all (iS x.2.2.2.1)<;>simp
        ·rfl
        ·intro i G b;have G:i<x.2.2.2.1.length:=by grind
         have hw:=bG (n:=(i:Int)+1) (by omega) (by omega);have gY:=bG (n:=(i:Int) - 1) (by omega) (by omega);have jy:x.2.2.2.1.getD i (0,0)=x.2.2.2.1[i]:=by grind
         have tf:(decide ((i:Int) > 0))=decide (0<i):=by simp
         have M:decide (0<i)=true->((0:Int)<=(i:Int) - 1/\(i:Int) - 1<(x.2.2.2.1.length:Int)):=λh=>by grind
         refine Iy (mk:=λ(_:Unit)=>(((i+1:Nat):Int),x,())) (b:=b) ?_ ?_<;>intro bq<;>
         ·simp only[List.getElem_range,iS,jy]at bq;simp only[bX,cY G,if_true,dm G,cI G,A.bo,aN.sh,cq,A.nS,A.hR,A.e5,cp,hw,gY,tf,O0,List.getElem_range];revert bq;generalize b1 x.2.2.2.1[i].1 0 x.2.2.2.1[i].2=ds;generalize decide (x.2.2.2.1[i].2 > 9999)=ec;generalize decide (x.2.2.2.1[i].1<=(x.2.2.2.1.getD (i - 1) (0,0)).2)=lJ;revert M;generalize decide (0<i)=qm;intro M;cases qm
          ·cases ds<;>cases ec<;>cases lJ<;>simp
          ·have M:=M rfl;cases ds<;>cases ec<;>cases lJ<;>simp[M,(by omega:(1:Int)<=(i:Int))]
        simp
      ·rfl
      ·intro i G b;have hw:=bG (n:=(i:Int)+1) (by omega) (by omega);simp only[bX,cY G,if_true,dm G,cI G,A.bo,aN.sh,cq,A.nS,A.aG,cp,hw];exact nl (mk:=λ(_:Unit)=>(((i+1:Nat):Int),x,()))
      simp
    ·rfl
    ·intro i G b;have hw:=bG (n:=(i:Int)+1) (by omega) (by omega);simp only[bX,cY G,if_true,dm G,cI G,A.bo,aN.sh,we,A.og,A.gR,A.aG,cp,hw];rw[A.bu aR];exact nl (mk:=λ(_:Unit)=>(((i+1:Nat):Int),x,()))
    simp
  ·rfl
  ·intro i G b;have hw:=bG (n:=(i:Int)+1) (by omega) (by omega);refine Iy (mk:=λ(_:Unit)=>(((i+1:Nat):Int),x,())) (b:=b) ?_ ?_<;>intro bq<;>
   ·simp only[td]at bq;simp only[bX,cY G,if_true,dm G,cI G,A.bo,aN.sh,cq,A.nS,A.hR,A.e5,cp,hw];revert bq;generalize b1 x.1[i].1 (-30) x.1[i].2=ds;generalize decide (x.1[i].2 > 30)=ec;simp_all
  simp
theorem Xy{ak:Type}{p:ak->Bool}(l:List ak):(l.any λy=>!p y)=!l.all p:=by grind
theorem al3(x):A.le (WL cq.sh (jf hr).sh wc.sh (jf br).sh Ex.sh A5.sh x) (wh.sh x):=A.bw λh=>by
 obtain⟨aR,aW,bL,fA⟩:=h;unfold WL;show _=A.pure (jZ x);simp only[show wc.sh x.2.2.2.2=A.pure (o8 x.2.2.2.2) from rfl,A.ko,A.aG,bX,Xx];unfold jZ;rw[show (!(decide ((x.1.length:Int) > 3)||decide ((x.2.1.length:Int) > 12)||decide ((x.2.2.1.length:Int) > 12)||decide ((x.2.2.2.1.length:Int) > 4))&&o8 x.2.2.2.2)=te x from rfl];cases W:te x with
 | false=>rfl
 | true=>
  rw[if_pos rfl];rw[A.eu x.1 (λi (_:Unit)=>(x.1,(x.1.length:Int),(i:Int),x,())) (λy b=>if (!td y)=true then .done (.done false) else .next b) (λ_=>.next (x,())) () ?_ ?_ ?_]
  ·rw[k1 (q:=td) _ _ (λ_=>rfl)];cases hc:x.1.all td with
   | false=>simp
   | true=>
    simp only[if_true,A.aG,A.b3];rw[A.eu (List.range x.2.2.2.1.length) (λi (_:Unit)=>(x.2.2.2.1,(x.2.2.2.1.length:Int),(i:Int),x,())) (λy b=>if (!iS x.2.2.2.1 y)=true then .done (.done false) else .next b) (λ_=>.next (x,())) () ?_ ?_ ?_]
    ·rw[k1 (q:=iS x.2.2.2.1) _ _ (λ_=>rfl)];unfold A_;cases ar:(List.range x.2.2.2.1.length).all (iS x.2.2.2.1) with
     | false=>simp
     | true=>
      simp only[if_true,A.aG,A.b3];have ay:(jf hr).sh (x.2.1,λy=>Ex.sh (y,some x))=A.pure (!x.2.1.all (lC x.1.length)):=by
       have au:∀ y,Ex.sh (y,some x)=A.pure (!lC x.1.length y):=λy=>A.bP ⟨x,rfl,aR⟩ _;refine (A.bP ⟨aW,λy _=>⟨_,au y⟩⟩ _).trans ?_;refine congrArg A.pure ?_;rw[<-Xy];simp_all
      have aP:(jf br).sh (x.2.2.1,A5.sh)=A.pure (!x.2.2.1.all (λn=>b1 n 0 99)):=by
       refine (A.bP ⟨bL,λy _=>⟨_,rfl⟩⟩ _).trans ?_;refine congrArg A.pure ?_;rw[<-Xy];show (x.2.2.1.any λy=>(A5.sh y).val false)=_;simp only[show ∀ y,A5.sh y=A.pure (!b1 y 0 99) from λ_=>rfl,A.e5]
      rw[ay,aP];simp only[A.aG,A.ko];grind
    ·rfl
    ·intro i G b;have G:i<x.2.2.2.1.length:=by grind
     have hw:=bG (n:=(i:Int)+1) (by omega) (by omega);have gY:=bG (n:=(i:Int) - 1) (by omega) (by omega);have jy:x.2.2.2.1.getD i (0,0)=x.2.2.2.1[i]:=by grind
     have tf:(decide ((i:Int) > 0))=decide (0<i):=by simp
     have M:decide (0<i)=true->((0:Int)<=(i:Int) - 1/\(i:Int) - 1<(x.2.2.2.1.length:Int)):=λh=>by grind
     refine Iy (mk:=λ(_:Unit)=>(x.2.2.2.1,(x.2.2.2.1.length:Int),((i+1:Nat):Int),x,())) (b:=b) ?_ ?_<;>intro bq<;>
     ·simp only[List.getElem_range,iS,jy]at bq;simp only[bX,cY G,if_true,dm G,cI G,A.bo,aN.sh,cq,A.nS,A.hR,A.e5,cp,hw,gY,tf,O0,List.getElem_range];revert bq;generalize b1 x.2.2.2.1[i].1 0 x.2.2.2.1[i].2=ds;generalize decide (x.2.2.2.1[i].2 > 9999)=ec;generalize decide (x.2.2.2.1[i].1<=(x.2.2.2.1.getD (i - 1) (0,0)).2)=lJ;revert M;generalize decide (0<i)=qm;intro M;cases qm
      ·cases ds<;>cases ec<;>cases lJ<;>simp
      ·have M:=M rfl;cases ds<;>cases ec<;>cases lJ<;>simp[M,(by omega:(1:Int)<=(i:Int))]
    simp
  ·rfl
  ·intro i G b;have hw:=bG (n:=(i:Int)+1) (by omega) (by omega);refine Iy (mk:=λ(_:Unit)=>(x.1,(x.1.length:Int),((i+1:Nat):Int),x,())) (b:=b) ?_ ?_<;>intro bq<;>
   ·simp only[td]at bq;simp only[bX,cY G,if_true,dm G,cI G,A.bo,aN.sh,cq,A.nS,A.aG,cp,hw];grind
  simp
abbrev iT:a8:=(0,0,0,0,0,0)
def k7(l:List a8):Bool:=(List.range l.length).any λi=>(List.range i).any λk=>uN (l.getD k iT) (l.getD i iT)
def cO(c:a6):Int:=if jZ c=true then (if k7 c.2.1=true then 91 else 0) else 90
abbrev h3:aN:=⟨kq,br,j7,λc=>cO c⟩
theorem th{ak:Type}{l:List ak}{i:Nat}{d:ak}(h:i<l.length):l.getD i d=l[i]:=by grind
theorem al4(x):A.le (Wt wh.sh Iq.sh x) (h3.sh x):=A.bw λh=>by
 obtain⟨aR,aW,bL,fA⟩:=id h;unfold Wt;show _=A.pure (cO x);rw[show wh.sh x=A.pure (jZ x) from A.bP h _];unfold cO;cases jZ x with
 | false=>simp
 | true=>
  simp only[A.aG,Bool.not_true,Bool.false_eq_true,if_false,if_true];rw[A.eu (List.range x.2.1.length) (λi (_:Unit)=>((i:Int),x,())) (λi b=>if ((List.range i).any λk=>uN (x.2.1.getD k iT) (x.2.1.getD i iT))=true then .done (.done 91) else .next b) (λ_=>.next ()) () ?_ ?_ ?_]
  ·rw[rY];unfold k7;cases (List.range x.2.1.length).any λi=>(List.range i).any λk=>uN (x.2.1.getD k iT) (x.2.1.getD i iT)<;>simp
  ·rfl
  ·intro i G b;have G:i<x.2.1.length:=by grind
   have hw:=bG (n:=(i:Int)+1) (by omega) (by omega);have ar:decide ((i:Int)<Int.ofNat x.2.1.length)=true:=cY G;simp only[ar,if_true,List.getElem_range];rw[A.eu (List.range i) (λk (_:Unit)=>((i:Int),(k:Int),x,())) (λk b=>if uN (x.2.1.getD k iT) (x.2.1.getD i iT)=true then .done (.done (.done (.done 91))) else .next b) (λ_=>(.next ((i:Int),x,()):V (Int×a6×Unit) (V (Int×a6×Unit) (V Unit Int)))) () ?_ ?_ ?_]
   ·rw[rY];cases (List.range i).any λk=>uN (x.2.1.getD k iT) (x.2.1.getD i iT)<;>simp[hw]
   ·rfl
   ·intro k al b;have al:k<i:=by grind
    have wi:k<x.2.1.length:=by omega
    have hw:=bG (n:=(k:Int)+1) (by omega) (by omega);have ar:decide ((k:Int)<(i:Int))=true:=by grind
    simp only[ar,if_true,bX,cI wi,cI G,A.bo,aN.sh,Iq,A.nS,A.hR,A.e5,A.aG,cp,hw,List.getElem_range,Xs];exact nl (mk:=λ(_:Unit)=>((i:Int),((k+1:Nat):Int),x,()))
   simp
  simp
def g_(l:List a8):List a8:=(ef 0 99).filterMap λid=>l.find? λs=>s.1 == id
def fl(c:a6):List a8:=(g_ c.2.1).filter λs=>!c.2.2.1.contains s.1
theorem al5(l:List a8):(g_ l).length<=100:=by
 refine Nat.le_trans (List.length_filterMap_le _ _) ?_;rw[show (ef 0 99).length=100 from by decide];omega
def jz(m:List (Int×a8))(k:Int):Option a8:=(m.find? λp=>decide (k=p.1)).map (·.2)
def jg(m:List (Int×a8)):z1':=m.map (·.1)
theorem O1(p:Int×a8)(m:List (Int×a8))(k:Int)(v:a8):k3 (p::m) k v=if decide (k=p.1)=true then (p.1,v)::m else p::k3 m k v:=rfl
theorem O2(k:Int)(v:a8):k3 [] k v=[(k,v)]:=rfl
theorem Xz(k:Int)(v:a8):∀ m:List (Int×a8),(k3 m k v).length<=m.length+1
 | []=>by rw[O2];simp
 | p::m=>by
  rw[O1];split
  ·simp
  ·simp;exact Xz k v m
theorem O3(k:Int)(v:a8)(x:Int):∀ m:List (Int×a8),jz (k3 m k v) x=if x=k then some v else jz m x
 | []=>by
  rw[O2];by_cases h:x=k<;>simp[jz,h]
 | p::m=>by
  rw[O1];have aI:=O3 k v x m;unfold jz at aI ⊢;grind
theorem Ez(k:Int)(v:a8):∀ m:List (Int×a8),((jg m).Nodup->(jg (k3 m k v)).Nodup)/\∀ x,x∈jg (k3 m k v)<->x∈jg m\/x=k
 | []=>by rw[O2];simp[jg]
 | p::m=>by
  obtain⟨E,U⟩:=Ez k v m;rw[O1];by_cases h:k=p.1
  ·subst h;simp only[decide_true,if_true];refine⟨λh=>h,λx=>?_⟩;show x∈p.1::jg m<->x∈p.1::jg m\/x=p.1;grind
  ·simp only[h,decide_false,Bool.false_eq_true,if_false];refine⟨λaw=>?_,λx=>?_⟩
   ·show (p.1::jg (k3 m k v)).Nodup;have C6:(p.1::jg m).Nodup:=aw;grind
   ·show x∈p.1::jg (k3 m k v)<->x∈p.1::jg m\/x=k;grind
theorem XA{m:List (Int×a8)}{k:Int}:k∈jg m<->(jz m k).isSome=true:=by
 unfold jz jg;simp
def A'(l:List a8):Prop:=∀ a∈l,∀ b∈l,a.1=b.1->a=b
def qY(l:List a8)(k:Int):Option a8:=l.find? λs=>s.1 == k
def r1:List a8->List (Int×a8)->Option (List (Int×a8))
 | [],m=>some m
 | s::l,m=>if ((jz m s.1).isSome&&!decide ((jz m s.1).getD iT=s))=true then none else r1 l (k3 m s.1 s)
structure uQ(P:List a8)(m:List (Int×a8)):Prop where
 o4:∀ k,jz m k=qY P k
 mG:(jg m).Nodup
 Ba:A' P
 EA:m.length<=P.length
theorem XB{l:List a8}{k:Int}{s:a8}(h:qY l k=some s):s∈l/\s.1=k:=by
 unfold qY at h;grind
theorem al6{l:List a8}{k:Int}(h:qY l k=none):∀ s∈l,s.1≠k:=by
 unfold qY at h;grind
theorem uQ.nil:uQ [] []:=⟨λ_=>rfl,.nil,λa h=>by simp,Nat.le_refl _⟩
theorem Bb:∀ (l P:List a8) (m:List (Int×a8)),uQ P m->(A' (P++l)->∃ dx,r1 l m=some dx/\uQ (P++l) dx)/\(¬A' (P++l)->r1 l m=none)
 | [],P,m,h=>by simp only[List.append_nil];exact⟨λ_=>⟨m,rfl,h⟩,λaw=>absurd h.Ba aw⟩
 | s::l,P,m,h=>by
  unfold r1;rw[h.o4];cases au:qY P s.1 with
  | some o=>
   obtain⟨af,G⟩:=XB au;by_cases he:o=s
   ·subst he;simp only[Option.isSome_some,Option.getD_some,decide_true,Bool.not_true,Bool.and_false,Bool.false_eq_true,if_false];have:=Bb l (P++[o]) (k3 m o.1 o) ⟨λk=>?_,(Ez _ _ _).1 h.mG,?_,?_⟩
    ·grind
    ·rw[O3,h.o4];unfold qY at au ⊢;grind
    ·intro a a_ b W wj;simp only[List.mem_append,List.mem_singleton]at a_ W;exact h.Ba a (a_.elim id λe=>e ▸ af) b (W.elim id λe=>e ▸ af) wj
    ·have hm:o.1∈jg m:=XA.2 (by rw[h.o4,au];rfl);have ai:(jg (k3 m o.1 o)).length<=(jg m).length:=by
      have E:=(Ez o.1 o m).1 h.mG;have U:jg (k3 m o.1 o) ⊆ jg m:=λx ah=>by
       rcases ((Ez o.1 o m).2 x).1 ah with ah | ah
       ·exact ah
       ·exact ah ▸ hm
      exact E.length_le_of_subset U
     have:=h.EA;simp only[jg,List.length_map]at ai;grind
   ·simp only[Option.isSome_some,Option.getD_some,he,decide_false,Bool.not_false,Bool.and_self,if_true];refine⟨λaw=>absurd (aw o (by grind) s (by simp) G) he,λ_=>trivial⟩
  | none=>
   simp only[Option.isSome_none,Bool.false_and,Bool.false_eq_true,if_false];have:=Bb l (P++[s]) (k3 m s.1 s) ⟨λk=>?_,(Ez _ _ _).1 h.mG,?_,?_⟩
   ·grind
   ·rw[O3,h.o4];have rP:=au;unfold qY at au ⊢;grind
   ·have au:=al6 au;intro a a_ b W wj;simp only[List.mem_append,List.mem_singleton]at a_ W;rcases a_ with a_ | rfl<;>rcases W with W | rfl
    ·exact h.Ba a a_ b W wj
    ·exact absurd wj (au a a_)
    ·exact absurd wj.symm (au b W)
    ·rfl
   ·have:=Xz s.1 s m;have:=h.EA;grind
theorem Bc(l:List a8):k7 l=false<->A' l:=by
 unfold k7 uN;rw[<-Bool.not_eq_true,List.any_eq_true];constructor
 ·intro h a a_ b W wj;obtain⟨i,G,rfl⟩:=List.mem_iff_getElem.1 a_;obtain⟨k,al,rfl⟩:=List.mem_iff_getElem.1 W;by_cases he:l[i]=l[k]
  ·exact he
  ·exfalso;have eC:i≠k:=λe=>he (by grind);rcases Nat.lt_or_gt_of_ne eC with ck | ck
   ·refine h ⟨k,by grind,List.any_eq_true.2 ⟨i,by grind,?_⟩⟩;grind
   ·refine h ⟨i,by grind,List.any_eq_true.2 ⟨k,by grind,?_⟩⟩;grind
 ·rintro h ⟨i,G,al⟩;obtain⟨k,al,hc⟩:=List.any_eq_true.1 al;simp only[List.mem_range]at G al;rw[th G,th (by omega:k<l.length)]at hc;simp only[Bool.and_eq_true,decide_eq_true_eq,Bool.not_eq_true',decide_eq_false_iff_not]at hc;exact hc.2 (h _ (List.getElem_mem _) _ (List.getElem_mem _) hc.1)
theorem al7{l:List a8}:k7 l=true<->¬A' l:=by rw[<-Bc];simp
theorem XC{l:List a8}{m:List (Int×a8)}(h:uQ l m)(hid:∀ s∈l,b1 s.1 0 99=true):(fu ht (jg m)).map (λk=>(jz m k).getD iT)=g_ l:=by
 have ay:fu ht (jg m)=(ef 0 99).filter λk=>(qY l k).isSome:=by
  refine A6 ?_ ?_
  ·refine List.Pairwise.filter _ ?_;unfold ef;rw[List.pairwise_map];exact (List.pairwise_lt_range).imp λh=>by omega
  ·refine (List.perm_ext_iff_of_nodup h.mG ?_).2 λk=>?_
   ·refine List.Pairwise.filter _ ?_;unfold ef;rw[List.pairwise_map];exact (List.pairwise_lt_range).imp λh=>by omega
   ·rw[XA,h.o4,List.mem_filter,pW];refine⟨λaE=>⟨?_,aE⟩,λaE=>aE.2⟩;obtain⟨s,aE⟩:=Option.isSome_iff_exists.1 aE;obtain⟨E,U⟩:=XB aE;exact U ▸ oi.1 (hid s E)
 rw[ay];unfold g_;have:∀ L:z1',(L.filter λk=>(qY l k).isSome).map (λk=>(jz m k).getD iT)=L.filterMap λid=>l.find? λs=>s.1 == id:=by
  intro L;induction L with
  | nil=>rfl
  | cons k L aI=>
   rw[List.filter_cons,List.filterMap_cons];have e:(l.find? λs=>s.1 == k)=qY l k:=rfl;rw[e];cases au:qY l k with
   | none=>grind
   | some s=>
    have ik:(jz m k).getD iT=s:=by rw[h.o4,au];rfl
    grind
 grind
theorem al8{l:List a8}{m:List (Int×a8)}(h:uQ l m)(hid:∀ s∈l,b1 s.1 0 99=true):(g_ l).length<=l.length:=by
 rw[<-XC h hid,List.length_map,It,jg,List.length_map];exact h.EA
theorem XD{aJ:Type}{r:aJ}{fin:List (Int×a8)->aJ}:∀ (l:List a8) (m:List (Int×a8)),eY (λs m=>if ((jz m s.1).isSome&&!decide ((jz m s.1).getD iT=s))=true then .done r else .next (k3 m s.1 s)) fin l m=match r1 l m with | none=>r | some dx=>fin dx
 | [],m=>rfl
 | s::l,m=>by
  simp only[eY,r1];by_cases h:((jz m s.1).isSome&&!decide ((jz m s.1).getD iT=s))=true
  ·grind
  ·simp only[h,Bool.false_eq_true,if_false];exact XD l _
def wk(l:List a8):Prop:=l.length<=24/\∀ s∈l,b1 s.1 0 99=true
abbrev Bd:aN:=⟨.slice hr,.aA (.slice hr) .bool,wk,λl=>if k7 l=true then ([],false) else (g_ l,true)⟩
theorem al9{m:List (Int×a8)}{yx:z1'}{aJ:Type}(h:yx.length<=24) :
 A.loop (λ(D:z1'×Int×Int×List a8×List (Int×a8)×Unit)=>if decide (D.2.2.1<D.2.1)=true then A.ad (0<=D.2.2.1/\D.2.2.1<Int.ofNat (List.length D.1)) (A.ad (b_
 (Add.add (List.length D.2.2.2.1) (Add.add 0 1))) (A.pure (V.next (D.1,D.2.1,IntKind.wrap .i64 (Add.add D.2.2.1 1),D.2.2.2.1++[Option.getD
 (Option.map (λx=>x.2) (List.find? (λp=>decide (List.getD D.1 (Int.toNat D.2.2.1) 0=p.1)) D.2.2.2.2.1)) (0,0,0,0,0,0)],D.2.2.2.2.1,())))) else A.bind (A.pure (V.next (D.2.2.2.1,()))) λr=>A.pure (V.done r)) (yx,Int.ofNat (List.length yx),0,[],m,())=A.pure (V.next (yx.map (λk=>(jz m k).getD iT),()):V (List a8×Unit) aJ):=by
 rw[A.gw yx (λi (b:List a8)=>(yx,(yx.length:Int),(i:Int),b,m,())) (λk b=>.next (b++[(jz m k).getD iT])) (λb=>.next (b,())) (λi b=>b.length=i) [] ?_ ?_ ?_ ?_]
 ·rw[fs,yj];rfl
 ·rfl
 ·rfl
 ·intro i G b W;have hw:=bG (n:=(i:Int)+1) (by omega) (by omega);refine⟨?_,λbe de=>?_⟩
  ·simp only[bX,cY G,if_true,dm G,cI G,A.bo,cp,hw];rw[A.bu (ft (by grind))];rfl
  grind
 simp
def ti{gB:Type}(R:A gB):List a8×Int×Int×List (Int×a8)×Unit->A (V (List a8×Int×Int×List (Int×a8)×Unit) (V (List (Int×a8)×Unit) gB)):=λ(D:List a8×Int×Int×List (Int×a8)×Unit)=>if decide (D.2.2.1<D.2.1)=true then A.ad (0<=D.2.2.1/\D.2.2.1 <
 Int.ofNat (List.length D.1)) (if (Option.isSome (Option.map (λx=>x.2) (List.find? (λp=>decide ((List.getD D.1 (Int.toNat D.2.2.1) (0,0,0,0,0,0)).1=p.1)) D.2.2.2.1))&&!(decide ((Option.getD (Option.map (λx=>x.2) (List.find? (λp=>decide ((List.getD D.1 (Int.toNat D.2.2.1)
 (0,0,0,0,0,0)).1=p.1)) D.2.2.2.1)) (0,0,0,0,0,0)).1=(List.getD D.1 (Int.toNat D.2.2.1) (0,0,0,0,0,0)).1)&&(decide ((Option.getD
 (Option.map (λx=>x.2) (List.find? (λp=>decide ((List.getD D.1 (Int.toNat D.2.2.1) (0,0,0,0,0,0)).1=p.1)) D.2.2.2.1)) (0,0,0,0,0,0)).2.1=(List.getD D.1 (Int.toNat D.2.2.1) (0,0,0,0,0,0)).2.1)&&(decide ((Option.getD (Option.map (λx=>x.2) (List.find? (λp=>
 decide ((List.getD D.1 (Int.toNat D.2.2.1) (0,0,0,0,0,0)).1=p.1)) D.2.2.2.1)) (0,0,0,0,0,0)).2.2.1=(List.getD D.1 (Int.toNat D.2.2.1)
 (0,0,0,0,0,0)).2.2.1)&&(decide ((Option.getD (Option.map (λx=>x.2) (List.find? (λp=>decide ((List.getD D.1 (Int.toNat D.2.2.1) (0,0,0,0,0,0)).1=p.1)) D.2.2.2.1)) (0,0,0,0,0,0)).2.2.2.1=(List.getD D.1 (Int.toNat D.2.2.1) (0,0,0,0,0,0)).2.2.2.1)&&(decide
 ((Option.getD (Option.map (λx=>x.2) (List.find? (λp=>decide ((List.getD D.1 (Int.toNat D.2.2.1) (0,0,0,0,0,0)).1=p.1)) D.2.2.2.1))
 (0,0,0,0,0,0)).2.2.2.2.1=(List.getD D.1 (Int.toNat D.2.2.1) (0,0,0,0,0,0)).2.2.2.2.1)&&decide ((Option.getD (Option.map (λx=>x.2)
 (List.find? (λp=>decide ((List.getD D.1 (Int.toNat D.2.2.1) (0,0,0,0,0,0)).1=p.1)) D.2.2.2.1)) (0,0,0,0,0,0)).2.2.2.2.2=(List.getD
 D.1 (Int.toNat D.2.2.1) (0,0,0,0,0,0)).2.2.2.2.2)))))))=true then A.bind (A.bind R λr=>A.pure (V.done r)) λr=>
 A.pure (V.done r) else A.pure (V.next (D.1,D.2.1,IntKind.wrap .i64 (Add.add D.2.2.1 1),k3 D.2.2.2.1 (List.getD D.1 (Int.toNat D.2.2.1)
 (0,0,0,0,0,0)).1 (List.getD D.1 (Int.toNat D.2.2.1) (0,0,0,0,0,0)),()))) else A.bind (A.pure (V.next (D.2.2.2.1,()))) λr=>A.pure
 (V.done r)
theorem XE{gB:Type}{R:A gB}{l:List a8}(ai:l.length<=24){i:Nat}(G:i<l.length)(m:List (Int×a8)):ti R (l,(l.length:Int),(i:Int),m,())=if ((jz m l[i].1).isSome&&!decide ((jz m l[i].1).getD iT=l[i]))=true then A.bind (A.bind R λr=>A.pure (V.done r)) λr=>A.pure (V.done r) else A.pure (.next (l,(l.length:Int),((i+1:Nat):Int),k3 m l[i].1 l[i],())):=by
 have hw:=bG (n:=(i:Int)+1) (by omega) (by omega);have es:=Xi ((jz m l[i].1).getD iT) l[i];unfold ti;simp only[bX,cY G,if_true,dm G,cI G,A.bo,cp,hw];rw[show (Option.map (λx=>x.2) (List.find? (λp=>decide (l[i].1=p.1)) m))=jz m l[i].1 from rfl];grind
theorem XF{gB:Type}{R:A gB}{l:List a8}(m:List (Int×a8)):ti R (l,(l.length:Int),(l.length:Int),m,())=A.pure (.done (.next (m,()))):=by
 unfold ti;simp
def Be{gB:Type}(k:List a8->A gB):List (Int×a8)×Unit->A gB:=λ(D:List (Int×a8)×Unit)=>A.bind (A.bind
 (yw.sh D.1) λy=>A.bind (tc.sh y) λy=>A.loop (λ(D:z1'×Int×Int×List a8×
 List (Int×a8)×Unit)=>if decide (D.2.2.1<D.2.1)=true then A.ad (0<=D.2.2.1/\D.2.2.1<Int.ofNat (List.length D.1)) (A.ad (b_
 (Add.add (List.length D.2.2.2.1) (Add.add 0 1))) (A.pure (V.next (D.1,D.2.1,IntKind.wrap .i64 (Add.add D.2.2.1 1),D.2.2.2.1++[Option.getD
 (Option.map (λx=>x.2) (List.find? (λp=>decide (List.getD D.1 (Int.toNat D.2.2.1) 0=p.1)) D.2.2.2.2.1)) (0,0,0,0,0,0)],D.2.2.2.2.1,())))) else A.bind (A.pure (V.next (D.2.2.2.1,()))) λr=>A.pure (V.done r)) (y,Int.ofNat (List.length y),0,[],D.1,())) (V.bE λ(D
 : List a8×Unit)=>k D.1)
theorem al_{l:List a8}{m:List (Int×a8)}(eA:uQ l m)(hid:wk l){gB:Type}(k:List a8->A gB):Be k (m,())=k (g_ l):=by
 obtain⟨ai,hid⟩:=hid;have ao:tc.pre (jY (some m)):=Xv (by have:=eA.EA;omega);have e:tc.sh (jY (some m))=A.pure (fu ht (jg m)):=by
  refine (A.bP ao _).trans (congrArg A.pure ?_);exact Xw
 unfold Be;show A.bind (A.bind (yw.sh m) _) _=_;rw[show yw.sh m=A.pure (jY (some m)) from rfl,A.aG,e,A.aG,al9 (by rw[It,jg,List.length_map];have:=eA.EA;omega),A.aG,A.b3,XC eA hid]
theorem XG(l:List a8)(h:wk l)(hc:k7 l=false){gB:Type}(k:List a8->A gB)(R:A gB) :
  A.bind (A.loop (ti R) (l,Int.ofNat (List.length l),0,[],())) (V.bE (Be k))=k (g_ l):=by
 have aw:=(Bc l).1 hc;obtain⟨E,_⟩:=Bb l [] [] .nil;rw[List.nil_append]at E;obtain⟨m,hm,eA⟩:=E aw;have key:A.loop (ti R) (l,Int.ofNat (List.length l),0,[],())=A.pure (.next (m,())):=by
  have gen:∀ (k:Nat) (i:Nat) (dx:List (Int×a8)),l.length - i=k->i<=l.length->r1 (l.drop i) dx=some m->uQ (l.take i) dx->A.loop (ti R) (l,(l.length:Int),(i:Int),dx,())=A.pure (.next (m,())):=by
   intro k;induction k with
   | zero=>
    intro i dx al G af _;have:i=l.length:=by omega
    subst this;rw[List.drop_length]at af;simp only[r1,Option.some.injEq]at af;subst af;exact A.sg (XF _)
   | succ k aI=>
    intro i dx al G af NL;have G:i<l.length:=by omega
    rw[List.drop_eq_getElem_cons G]at af;unfold r1 at af;split at af
    ·cases af
    ·rename_i Gv;refine (A.zt ((XE h.1 G dx).trans (if_neg Gv))).trans ?_;refine aI (i+1) _ (by omega) G af ?_;obtain⟨g1,_⟩:=Bb [l[i]] (l.take i) dx NL;have p4:l.take i++[l[i]]=l.take (i+1):=by simp
     rw[p4]at g1;obtain⟨ayO,ay,aP⟩:=g1 λa a_ b W=>aw a (List.mem_of_mem_take a_) b (List.mem_of_mem_take W);unfold r1 at ay;rw[if_neg Gv]at ay;simp only[r1,Option.some.injEq]at ay;grind
  exact gen l.length 0 [] rfl (Nat.zero_le _) hm .nil
 rw[key,A.aG,A.b3,al_ eA h]
theorem al'(l:List a8)(h:wk l)(hc:k7 l=true){gB:Type}(k:List a8->A gB)(r:gB) :
  A.bind (A.loop (ti (A.pure r)) (l,Int.ofNat (List.length l),0,[],())) (V.bE (Be k))=A.pure r:=by
 rw[A.eu l (λi (m:List (Int×a8))=>(l,(l.length:Int),(i:Int),m,())) (λs m=>if ((jz m s.1).isSome&&!decide ((jz m s.1).getD iT=s))=true then (.done (.done r):V (List (Int×a8)) (V (List (Int×a8)×Unit) _)) else .next (k3 m s.1 s)) (λm=>.next (m,())) [] ?_ ?_ ?_]
 ·rw[XD];obtain⟨_,U⟩:=Bb l [] [] .nil;rw[U (al7.1 hc)];simp
 ·rfl
 ·intro i G m;rw[XE h.1 G m,A.aG,A.aG];exact VD (mk:=λ(m:List (Int×a8))=>(l,(l.length:Int),((i+1:Nat):Int),m,()))
 ·intro m;exact XF m
theorem ama(x):A.le (ak5 tc.sh yw.sh x) (Bd.sh x):=A.bw λh=>by
 show A.bind (A.loop (ti (A.pure ([],false))) (x,Int.ofNat (List.length x),0,[],())) (V.bE (Be λa=>A.pure (a,true)))=A.pure (if k7 x=true then ([],false) else (g_ x,true));cases hc:k7 x with
 | true=>exact al' x h hc _ _
 | false=>exact XG x h hc _ _
def Iz(x:List a8×Unit):A (Bool×List a8×Unit):=A.dQ (wk x.1/\k7 x.1=false) (true,g_ x.1,())
theorem amb(x):A.le (alg tc.sh yw.sh x) (Iz x):=A.bw λh=>by
 show A.bind (A.loop (ti (A.pure (false,[],()))) (x.1,Int.ofNat (List.length x.1),0,[],())) (V.bE (Be λa=>A.pure (true,a,())))=_;exact XG x.1 h.1 h.2 _ _
theorem IA{c:a6}(h:jZ c=true):wk c.2.1:=by
 unfold jZ te at h;simp only[Bool.and_eq_true,List.all_eq_true,Bool.not_eq_true',Bool.or_eq_false_iff,decide_eq_false_iff_not]at h;obtain⟨⟨⟨⟨⟨bk,_⟩,_⟩,U⟩,_⟩,_⟩:=h;refine⟨by omega,λs aE=>?_⟩;have:=U s aE;unfold lC at this;grind
theorem amc(x):A.le (Ws wh.sh Bd.sh x) (h3.sh x):=A.bw λh=>by
 unfold Ws;show _=A.pure (cO x);rw[show wh.sh x=A.pure (jZ x) from A.bP h _];unfold cO;cases hc:jZ x with
 | false=>simp
 | true=>
  simp only[A.aG,Bool.not_true,Bool.false_eq_true,if_false,if_true];rw[show Bd.sh x.2.1=A.pure (if k7 x.2.1=true then ([],false) else (g_ x.2.1,true)) from A.bP (IA hc) _];cases k7 x.2.1<;>simp
def IB(x:(a8->A Bool)×List a8×Unit):A ((Nat×Nat)×List a8×Unit):=A.dQ (x.2.1.length<2 ^ 63/\∀ y∈x.2.1,∃ b,x.1 y=A.pure b)
 ((0,(x.2.1.filter λs=>!(x.1 s).val false).length),(x.2.1.filter λs=>!(x.1 s).val false)++List.replicate (x.2.1.length - (x.2.1.filter λs=>!(x.1 s).val false).length) iT,())
theorem XH{ak:Type}(p:ak->Bool):∀ (l:List ak) (i:Int),(l.any p=true->∃ k:Nat,∃ h:k<l.length,hQ p l i=i+k/\p l[k]=true/\(∀ y∈l.take k,p y=false))
 | [],i,h=>by grind
 | x::l,i,h=>by
  unfold hQ;by_cases ah:p x=true
  ·grind
  ·have nY:p x=false:=by grind
   simp only[List.any_cons,nY,Bool.false_or]at h;obtain⟨k,al,E,U,ag⟩:=XH p l (i+1) h;refine⟨k+1,by grind,by grind,by grind,?_⟩;grind
theorem amd(x):A.le (W_ (k6 hr).sh x) (IB x):=A.bw λh=>by
 obtain⟨f,l,u⟩:=x;obtain⟨E,U⟩:=h;change l.length<2 ^ 63 at E;change ∀ y∈l,∃ b,f y=A.pure b at U;unfold W_;rw[show (k6 hr).sh (l,f)=A.pure (hQ (λy=>(f y).val false) l 0) from A.bP ⟨E,U⟩ _];rw[A.aG];by_cases a_:(l.any λy=>(f y).val false)=true
 ·obtain⟨k,al,ay,aP,cw⟩:=XH (λy=>(f y).val false) l 0 a_;have hw:=bG (n:=(k:Int)+1) (by omega) (by omega);have eC:¬(decide ((0:Int)+k=-1)=true):=by simp
  rw[ay,if_neg eC];generalize bq:(λs=>!(f s).val false)=q at *
  have ame:∀ s,(!(f s).val false)=q s:=λs=>by grind
  have p4:l.take k=(l.take k).filter q:=by
   rw[List.filter_eq_self.2];grind
  have Iv:(l.take (k+1)).filter q=l.take k:=by
   rw[List.take_add_one,List.getElem?_eq_getElem al,Option.toList_some,List.filter_append,<-p4];grind
  rw[A.eu (l.drop (k+1)) (λi (_:Unit)=>(f,(((l.take (k+1+i)).filter q).length:Int),((k+1+i:Nat):Int),(l.take (k+1+i)).filter q++l.drop ((l.take (k+1+i)).filter q).length,())) (λ_ u=>.next u) (λ_=>.next (((l.filter q).length:Int),l.filter q++l.drop (l.filter q).length,())) () ?_ ?_ ?_]
  ·rw[fs];have hlen:(l.filter q).length<=l.length:=List.length_filter_le _ _;have gr:(l.filter q++l.drop (l.filter q).length).length=l.length:=by grind
   simp only[A.aG,A.b3,bX,gr];rw[A.bu (by omega)];simp only[A.bo,Int.toNat_natCast];have EB:List.take (l.filter q).length (l.filter q++l.drop (l.filter q).length)=l.filter q:=List.take_left;rw[EB];refine (A.bu ⟨by omega,by omega,by grind⟩ _).trans ?_;refine congrArg A.pure (Prod.ext rfl (Prod.ext ?_ rfl));show (_++_++_:List a8)=_;exact (congrArg (λz=>_++z) (List.drop_eq_nil_iff.2 (by simp))).trans (List.append_nil _)
  ·show (f,(0:Int)+k,IntKind.wrap .i64 (Add.add ((0:Int)+k) 1),l,())=_;rw[Int.zero_add,cp,hw];refine Prod.ext rfl (Prod.ext ?_ (Prod.ext ?_ (Prod.ext ?_ rfl)))
   ·grind
   ·rfl
   ·show l=(l.take (k+1+0)).filter q++l.drop ((l.take (k+1+0)).filter q).length;rw[Nat.add_zero,Iv,List.length_take,Nat.min_eq_left (by omega),List.take_append_drop]
  ·intro i G _;have G:k+1+i<l.length:=by grind
   have hle:((l.take (k+1+i)).filter q).length<=k+i:=by
    have E:=List.length_filter_le q (l.drop (k+1) |>.take i);rw[List.take_add,List.filter_append,List.length_append,Iv];grind
   have ck:((l.take (k+1+i)).filter q).length<l.length:=by omega
   have lV:((l.take (k+1+i)).filter q++l.drop ((l.take (k+1+i)).filter q).length).length=l.length:=by grind
   have hw:=bG (n:=((k+1+i:Nat):Int)+1) (by omega) (by omega);have gY:=bG (n:=(((l.take (k+1+i)).filter q).length:Int)+1) (by omega) (by omega);have dA:k+1+i<((l.take (k+1+i)).filter q++l.drop ((l.take (k+1+i)).filter q).length).length:=by omega
   have CO:((l.take (k+1+i)).filter q).length<((l.take (k+1+i)).filter q++l.drop ((l.take (k+1+i)).filter q).length).length:=by omega
   have jy:((l.take (k+1+i)).filter q++l.drop ((l.take (k+1+i)).filter q).length)[k+1+i]=l[k+1+i]:=by
    rw[List.getElem_append_right (by omega),List.getElem_drop];congr 1;omega
   obtain⟨b,W⟩:=U _ (List.getElem_mem G);have ae:q l[k+1+i]=!b:=by rw[<-ame,W,A.e5]
   have p4:(l.take (k+1+(i+1))).filter q=(l.take (k+1+i)).filter q++(if (!b)=true then [l[k+1+i]] else []):=by
    rw[show k+1+(i+1)=k+1+i+1 from rfl,List.take_add_one,List.getElem?_eq_getElem G,Option.toList_some,List.filter_append,List.filter_cons,ae,List.filter_nil]
   simp only[bX,cY dA,if_true,dm dA,cI dA,cI CO,A.bo,jy,W,A.aG,cp,gY];simp only[Int.toNat_natCast];cases b with
   | true=>
    simp only[Bool.not_true,Bool.false_eq_true,if_false,A.aG,A.b3,hw,V.hp,List.append_nil]at p4 ⊢;grind
   | false=>
    simp only[Bool.not_false,if_true,A.aG,A.b3,hw,V.hp]at p4 ⊢;have es:(List.filter q (List.take (k+1+i) l)++List.drop (List.filter q (List.take (k+1+i) l)).length l).set (List.filter q (List.take (k+1+i) l)).length l[k+1+i]=(l.take (k+1+(i+1))).filter q++l.drop ((l.take (k+1+(i+1))).filter q).length:=by
     rw[p4,List.set_append_right _ _ (Nat.le_refl _),Nat.sub_self,List.drop_eq_getElem_cons ck,List.set_cons_zero];simp
    rw[es];have Na:(((l.take (k+1+i)).filter q).length:Int)+1=(((l.take (k+1+(i+1))).filter q).length:Int):=by grind
    grind
  ·intro _;have ai:(l.drop (k+1)).length=l.length - (k+1):=by simp
   have bF:k+1+(l.drop (k+1)).length=l.length:=by omega
   have hle:(l.filter q).length<=l.length:=List.length_filter_le _ _;simp only[bF,List.take_length];rw[if_neg (by grind),A.aG]
 ·rw[Ew _ _ a_];have:(l.filter λs=>!(f s).val false)=l:=by
   simp_all
  simp only[decide_true,if_true,this,Nat.sub_self,List.replicate_zero,List.append_nil]
abbrev bF:bx:=((0,0,0,0,0,0),0)
def o'(c:a6)(w:z1')(u:Int):List bx:=((fl c).filter λs=>decide (uM s=u)).map λs=>(s,yt s+w.getD (p2 s).toNat 0)
def b7(c:a6)(w:z1')(u:Int):List bx:=fu h2 (o' c w u)
def qZ(l:List bx)(i:Nat):Bool:=!(decide (0<i)&&decide ((l.getD i bF).2=(l.getD (i - 1) bF).2))&&decide (eb (l.getD i bF).1=1+((i % 2:Nat):Int))
def eE(l:List bx):Bool:=(List.range l.length).all (qZ l)
structure ha(c:a6):Prop where
 O4:cO c=0
 dO:c.1.length<=3
 ej:c.2.1.length<=12
 jM:c.2.2.1.length<=12
 n4:c.2.2.2.1.length<=4
 i':jZ c=true
 Ba:A' c.2.1
 EC:o8 c.2.2.2.2=true
 clk:∀ s∈c.1,-30<=s.1/\s.1<=s.2/\s.2<=30
 jh:∀ s∈c.2.1,lC c.1.length s=true
 iC:A_ c.2.2.2.1=true
theorem l'{c:a6}(h:cO c=0):ha c:=by
 have aU:=h;unfold cO at h;split at h
 ·rename_i hc;split at h
  ·omega
  ·rename_i aw;have lY:=hc;unfold jZ te at hc;simp only[Bool.and_eq_true,List.all_eq_true,Bool.not_eq_true',Bool.or_eq_false_iff,decide_eq_false_iff_not]at hc;obtain⟨⟨⟨⟨⟨⟨⟨⟨ca,a2⟩,a3⟩,a4⟩,a5⟩,fY⟩,gA⟩,h4⟩,a9⟩:=hc;refine⟨aU,by omega,by omega,by omega,by omega,lY,(Bc _).1 (by grind),a5,λs aE=>?_,gA,a9⟩;have:=fY s aE;unfold td at this;simp only[Bool.and_eq_true,Bool.not_eq_true',decide_eq_false_iff_not,oi]at this;omega
 omega
theorem Bf{n:Nat}{s:a8}:lC n s=true<->(0<=jX s/\jX s<=99)/\(0<=p2 s/\p2 s<=(n:Int) - 1)/\(0<=yt s/\yt s<=9999)/\(0<=uM s/\uM s<=9)/\(0<=ij s/\ij s<=99)/\(eb s=1\/eb s=2/\ij s=0):=by
 unfold lC;simp only[Bool.and_eq_true,oi,Bool.or_eq_true,decide_eq_true_eq,and_assoc]
theorem ha.amf{c:a6}(h:ha c):∃ m,uQ c.2.1 m:=by
 obtain⟨E,_⟩:=Bb c.2.1 [] [] .nil;rw[List.nil_append]at E;obtain⟨m,_,eA⟩:=E h.Ba;grind
theorem ha.IC{c:a6}(h:ha c):(fl c).length<=12:=by
 obtain⟨m,eA⟩:=h.amf;have E:=al8 eA (IA h.i').2;have U:=List.length_filter_le (λs:a8=>!c.2.2.1.contains s.1) (g_ c.2.1);have:=h.ej;unfold fl;omega
theorem ED{l:List a8}{s:a8}(h:s∈g_ l):s∈l:=by
 unfold g_ at h;grind
theorem amg{c:a6}{s:a8}(h:s∈fl c):s∈c.2.1:=ED (List.mem_filter.1 h).1
theorem ha.Bg{c:a6}(h:ha c){s:a8}(aE:s∈fl c):lC c.1.length s=true:=h.jh s (amg aE)
def oj(c:a6)(w:z1'):Prop:=w.length=c.1.length/\∀ n∈w,-30<=n/\n<=30
theorem oj.at{c:a6}{w:z1'}(h:oj c w)(aC:ha c){s:a8}(aE:s∈fl c):0<=p2 s/\p2 s<(w.length:Int)/\-30<=w.getD (p2 s).toNat 0/\w.getD (p2 s).toNat 0<=30:=by
 have E:=(Bf.1 (aC.Bg aE)).2.1;have ai:p2 s<(w.length:Int):=by rw[h.1];omega
 exact⟨E.1,ai,h.2 _ (yk E.1 ai)⟩
theorem EE{c:a6}(h:ha c)(w:z1')(u:Int):(b7 c w u).length<=12:=by
 unfold b7 o';rw[It,List.length_map];exact Nat.le_trans (List.length_filter_le _ _) h.IC
theorem EF{c:a6}{w:z1'}{u:Int}{e:bx}(h:e∈b7 c w u):e.1∈fl c/\uM e.1=u/\e.2=yt e.1+w.getD (p2 e.1).toNat 0:=by
 unfold b7 at h;rw[Xn]at h;unfold o' at h;grind
theorem XI(i:Nat):Int.tmod (i:Int) 2=((i % 2:Nat):Int):=by
 rfl
theorem amh(l:List bx)(i:Nat):(decide ((i:Int) > 0)&&decide ((l.getD i bF).2=(l.getD (i - 1) bF).2)||decide (eb (l.getD i bF).1≠1+((i % 2:Nat):Int)))=!qZ l i:=by
 unfold qZ;simp
def kr(a b:Int)(s:Int×Int):Int:=max 0 (min (b - 1) s.2 - max a s.1+1)
def ma(cl:z4')(a b:Int):Int:=cl.foldl (λn s=>n - kr a b s) (b - a)
def XJ(cl:z4'):Prop:=cl.length<=4/\∀ s∈cl,0<=s.1/\s.1<=s.2/\s.2<=9999
theorem ha.O5{c:a6}(h:ha c):XJ c.2.2.2.1:=by
 refine⟨h.n4,λs aE=>?_⟩;have:=h.iC;unfold A_ at this;rw[List.all_eq_true]at this;obtain⟨i,G,rfl⟩:=List.mem_iff_getElem.1 aE;have:=this i (by grind);unfold iS at this;rw[th G]at this;simp only[Bool.and_eq_true,oi,Bool.not_eq_true',decide_eq_false_iff_not]at this;omega
abbrev Bh(x:a6×Int×Int):Prop:=XJ x.1.2.2.2.1/\-100<=x.2.1/\x.2.1<=x.2.2/\x.2.2<=11000
theorem ami{a b:Int}{s:Int×Int}(a_:-100<=a)(W:b<=11000)(aE:0<=s.1/\s.1<=s.2/\s.2<=9999):0<=kr a b s/\kr a b s<=20000:=by
 unfold kr;omega
theorem XK{n:Int}:(if n > 0 then n else 0)=max 0 n:=by omega
theorem XL{a b:Int}:(if a<b then a else b)=min b a:=by omega
theorem amj{a b:Int}:(if a<b then a else b)=min a b:=by omega
theorem amk{a b:Int}:(if a > b then a else b)=max b a:=by omega
theorem aml{a b:Int}:(if a > b then a else b)=max a b:=by omega
abbrev wm:aN:=⟨.aA kq (.aA br br),br,Bh,λx=>ma x.1.2.2.2.1 x.2.1 x.2.2⟩
theorem amm(x):A.le (WR x) (wm.sh x):=A.bw λh=>by
 obtain⟨c,a,b⟩:=x;obtain⟨⟨E,U⟩,ag,a7,bN⟩:=h;change -100<=a at ag;change a<=b at a7;change b<=11000 at bN;change c.2.2.2.1.length<=4 at E;change ∀ s∈c.2.2.2.1,_ at U;unfold WR;have AO:=bG (n:=b - a) (by omega) (by omega);rw[A.gw c.2.2.2.1 (λi (n:Int)=>(a,b,n,c.2.2.2.1,(c.2.2.2.1.length:Int),(i:Int),())) (λs n=>.next (n - kr a b s)) (λn=>.next (n,())) (λi n=>-(20000*(i:Int))<=n/\n<=20000) (b - a) ?_ ?_ ?_ ?_]
 ·rw[fs,A.aG];rfl
 ·grind
 ·omega
 ·intro i G n aw;have aE:=U _ (List.getElem_mem G);have hc:=ami (a:=a) (b:=b) ag bN aE;have hw:=bG (n:=(i:Int)+1) (by omega) (by omega);refine⟨?_,λbe de=>?_⟩
  ·simp only[Prod.cZ,bX,cY G,if_true,dm G,cI G,A.bo,cp,hw];have b':=bG (n:=b - 1) (by omega) (by omega);have c8:=bG (n:=min (b - 1) c.2.2.2.1[i].2 - max a c.2.2.2.1[i].1) (by omega) (by omega);have eW:=bG (n:=min (b - 1) c.2.2.2.1[i].2 - max a c.2.2.2.1[i].1+1) (by omega) (by omega);have Bi:=bG (n:=n - kr a b c.2.2.2.1[i]) (by omega) (by omega);simp only[b',amj,aml,c8,eW,XK];rw[show max (min (b - 1) c.2.2.2.1[i].2 - max a c.2.2.2.1[i].1+1) 0=kr a b c.2.2.2.1[i] from Int.max_comm _ _,Bi];rfl
  grind
 simp
def jA(t:p0)(m:Int):Int:=if m>=t.2.2.2.2.1 then t.2.2.2.2.2.1 else min t.2.2.2.1 ((max 0 (m - t.1)+t.2.1 - 1) / t.2.1*t.2.2.1)
abbrev yy(x:p0×Int):Prop:=o8 x.1=true/\-100000<=x.2/\x.2<=20000
abbrev wo:aN:=⟨.aA OT br,br,yy,λx=>jA x.1 x.2⟩
theorem ID{t:p0}:o8 t=true<->(0<=t.1/\t.1<=9999)/\(1<=t.2.1/\t.2.1<=9999)/\(1<=t.2.2.2.2.1/\t.2.2.2.2.1<=9999)/\(0<=t.2.2.1/\t.2.2.1<=100000)/\(0<=t.2.2.2.1/\t.2.2.2.1<=100000)/\(0<=t.2.2.2.2.2.1/\t.2.2.2.2.2.1<=100000)/\(0<=t.2.2.2.2.2.2/\t.2.2.2.2.2.2<=100000):=by
 unfold o8;simp only[Bool.and_eq_true,oi,and_assoc]
theorem XM{t:p0}{m:Int}(h:yy (t,m)):0<=(max 0 (m - t.1)+t.2.1 - 1) / t.2.1/\(max 0 (m - t.1)+t.2.1 - 1) / t.2.1<=30000/\0<=(max 0 (m - t.1)+t.2.1 - 1) / t.2.1*t.2.2.1/\(max 0 (m - t.1)+t.2.1 - 1) / t.2.1*t.2.2.1<=3000000000:=by
 obtain⟨E,U,ag⟩:=h;change -100000<=m at U;change m<=20000 at ag;obtain⟨ca,a2,a3,a4,a5,fY,gA⟩:=(ID (t:=t)).1 E;have ds:0<=(max 0 (m - t.1)+t.2.1 - 1) / t.2.1:=Int.ediv_nonneg (by omega) (by omega);have ec:(max 0 (m - t.1)+t.2.1 - 1) / t.2.1<=max 0 (m - t.1)+t.2.1 - 1:=Int.ediv_le_self _ (by omega);have lJ:(max 0 (m - t.1)+t.2.1 - 1) / t.2.1<=30000:=by omega
 refine⟨ds,lJ,Int.mul_nonneg ds a4.1,?_⟩;calc (max 0 (m - t.1)+t.2.1 - 1) / t.2.1*t.2.2.1<=30000*100000:=Int.mul_le_mul lJ a4.2 a4.1 (by omega)
  _=3000000000:=by decide
theorem XN{t:p0}{m:Int}(h:yy (t,m)):0<=jA t m/\jA t m<=100000:=by
 have:=XM h;obtain⟨E,U,ag⟩:=h;obtain⟨ca,a2,a3,a4,a5,fY,gA⟩:=(ID (t:=t)).1 E;unfold jA;omega
theorem amn(x):A.le (WD x) (wo.sh x):=A.bw λh=>by
 obtain⟨t,m⟩:=x;have hu:=XM h;obtain⟨E,U,ag⟩:=h;change -100000<=m at U;change m<=20000 at ag;obtain⟨ca,a2,a3,a4,a5,fY,gA⟩:=(ID (t:=t)).1 E;have b':=bG (n:=m - t.1) (by omega) (by omega);have c8:=bG (n:=max 0 (m - t.1)+t.2.1) (by omega) (by omega);have eW:=bG (n:=max 0 (m - t.1)+t.2.1 - 1) (by omega) (by omega);have Bi:=bG (n:=(max 0 (m - t.1)+t.2.1 - 1) / t.2.1) (by omega) (by omega);have amo:=bG (n:=(max 0 (m - t.1)+t.2.1 - 1) / t.2.1*t.2.2.1) (by omega) (by omega);have EG:Int.tdiv (max 0 (m - t.1)+t.2.1 - 1) t.2.1=(max 0 (m - t.1)+t.2.1 - 1) / t.2.1:=Int.tdiv_eq_ediv_of_nonneg (by omega);unfold WD;show _=A.pure (jA t m);unfold jA;simp only[Prod.cZ,b',XK,cp,c8,eW,EG,Bi,Int.mul_comm t.2.2.1,amo,XL,decide_eq_true_eq];rw[A.bu (show t.2.1≠0 from by omega)];grind
def gI(c:a6)(w:z1')(u:Int):List bx:=if eE (b7 c w u)=true then b7 c w u else []
def mb(l:List bx)(minute:Int):Int×Int:=l.foldl (λb e=>if e.2<=minute then (if eb e.1=2 then (-1,e.2) else (ij e.1,e.2)) else b) (-1,0)
def yz(c:a6)(w:z1')(minute:Int):Int:=((ef 0 9).foldl (λn u=>if (mb (gI c w u) minute).1>=0 then n+1 else n) (0:Int))
theorem amp(c:a6)(w:z1')(t:Int):0<=yz c w t/\yz c w t<=10:=by
 have key:∀ (l:z1') (n:Int),0<=n->0<=l.foldl (λn u=>if (mb (gI c w u) t).1>=0 then n+1 else n) n/\l.foldl (λn u=>if (mb (gI c w u) t).1>=0 then n+1 else n) n<=n+l.length:=by
  intro l;induction l with
  | nil=>simp
  | cons u l aI=>
   grind
 have:=key (ef 0 9) 0 (by omega);rw[show (ef 0 9).length=10 from by decide]at this;unfold yz;omega
def uR(l:List bx):List (bx×bx):=l.zip (l.drop 1)
def EH(cl:z4')(jh:Int)(l:List bx):Option Int:=((uR l).find? λp=>jX p.1.1 == jh&&eb p.1.1 == 1).map λp=>ma cl p.1.2 p.2.2
def iy(c:a6)(w:z1')(jh:Int):Option Int:=(ef 0 9).findSome? λu=>EH c.2.2.2.1 jh (gI c w u)
theorem amq{l:List bx}{i:Nat}(h:i+1<(fu h2 l).length):(fu h2 l)[i].2<=(fu h2 l)[i+1].2:=by
 have:=List.pairwise_iff_getElem.1 (alP l) i (i+1) (by omega) h (by omega);omega
theorem EI{c:a6}(aC:ha c){w:z1'}(U:oj c w){u:Int}{e:bx}(he:e∈b7 c w u):-30<=e.2/\e.2<=10029:=by
 obtain⟨E,_,ag⟩:=EF he;have aR:=(U.at aC E).2.2;have aW:=(Bf.1 (aC.Bg E)).2.2.1;omega
theorem Bj{c:a6}{w:z1'}{u:Int}{e:bx}(he:e∈gI c w u):e∈b7 c w u:=by
 unfold gI at he;grind
theorem amr{c:a6}{w:z1'}{u:Int}{i:Nat}(h:i+1<(gI c w u).length):(gI c w u)[i].2<=(gI c w u)[i+1].2:=by
 have key:∀ l,gI c w u=l->∀ (h:i+1<l.length),l[i].2<=l[i+1].2:=by
  intro l ai h;unfold gI at ai;split at ai
  ·subst ai;exact amq h
  grind
 grind
theorem XO{c:a6}(aC:ha c){w:z1'}(U:oj c w){u:Int}{i:Nat}(h:i+1<(gI c w u).length):Bh (c,(gI c w u)[i].2,(gI c w u)[i+1].2):=by
 have ag:=EI aC U (Bj (List.getElem_mem (by omega:i<(gI c w u).length)));have a7:=EI aC U (Bj (List.getElem_mem h));exact⟨aC.O5,show -100<=(gI c w u)[i].2 by omega,amr h,show (gI c w u)[i+1].2<=11000 by omega⟩
theorem ams{l:List bx}{i:Nat}(h:i<(uR l).length):∃ U:i+1<l.length,(uR l)[i]=(l[i],l[i+1]):=by
 unfold uR at h ⊢;grind
theorem amt{a b:Int}{s:Int×Int}(h:b<=s.1):kr a b s=0:=by unfold kr;omega
def r2:z4'->Prop
 | []=>True
 | s::r=>s.1<=s.2/\(∀ t∈r,s.2<t.1)/\r2 r
theorem O6:∀ (cl:z4') (a b n:Int),cl.foldl (λn s=>n - kr a b s) n=n - (cl.map (kr a b)).sum
 | [],a,b,n=>by simp
 | s::r,a,b,n=>by simp only[List.foldl_cons,List.map_cons,List.sum_cons];rw[O6 r];omega
theorem XP:∀ (cl:z4') (a b:Int),r2 cl->a<=b->(cl.map (kr a b)).sum<=b - a
 | [],a,b,_,h=>by grind
 | s::r,a,b,⟨E,U,ag⟩,h=>by
  simp only[List.map_cons,List.sum_cons];by_cases W:s.2+1<=b
  ·have aI:=XP r (max a (s.2+1)) b ag (by omega);have e:r.map (kr a b)=r.map (kr (max a (s.2+1)) b):=by
    refine List.map_congr_left λt aM=>?_;have:=U t aM;unfold kr;omega
   rw[e];have:kr a b s<=max a (s.2+1) - a:=by unfold kr;omega
   omega
  ·have e:∀ l:z4',(∀ t∈l,b<=t.1)->(l.map (kr a b)).sum=0:=by
    intro l;induction l with
    | nil=>simp
    | cons t l aI=>
     intro ai;simp only[List.map_cons,List.sum_cons];rw[amt (ai t (by simp)),aI λx ah=>ai x (by grind)];rfl
   rw[e r λt aM=>by grind];unfold kr;omega
theorem XQ:∀ (cl:z4'),(∀ i,(h:i+1<cl.length)->cl[i].2<cl[i+1].1)->(∀ s∈cl,s.1<=s.2)->r2 cl
 | [],_,_=>trivial
 | s::r,h,U=>by
  have M:r2 r:=XQ r (λi G=>by have:=h (i+1) (by grind);grind) λt aM=>U t (by grind);refine⟨U s (by simp),?_,M⟩;cases r with
  | nil=>simp
  | cons t r=>
   have aU:=h 0 (by simp);simp at aU;intro u hu;rcases List.mem_cons.1 hu with rfl | hu
   ·exact aU
   ·have:=M.2.1 u hu;grind
theorem ha.amu{c:a6}(h:ha c):r2 c.2.2.2.1:=by
 have hc:=h.iC;unfold A_ at hc;rw[List.all_eq_true]at hc;refine XQ _ (λi G=>?_) λs aE=>(h.O5.2 s aE).2.1;have:=hc (i+1) (by grind);unfold iS at this;grind
theorem amv{cl:z4'}{a b:Int}(h:r2 cl)(wj:a<=b):0<=ma cl a b:=by
 unfold ma;rw[O6];have:=XP cl a b h wj;omega
theorem XR:∀ (cl:z4') (a b:Int),0<=(cl.map (kr a b)).sum
 | [],_,_=>by simp
 | s::r,a,b=>by
  simp only[List.map_cons,List.sum_cons];have:=XR r a b;have:0<=kr a b s:=by unfold kr;omega
  omega
theorem amw{cl:z4'}{a b:Int}:ma cl a b<=b - a:=by
 unfold ma;rw[O6];have:=XR cl a b;omega
theorem amx{cl:z4'}{jh:Int}{l:List bx}{m:Int}(h:EH cl jh l=some m):∃ i,∃ G:i+1<l.length,l[i].1.1=jh/\eb l[i].1=1/\m=ma cl l[i].2 l[i+1].2:=by
 unfold EH at h;rw[Option.map_eq_some_iff]at h;obtain⟨p,ao,rfl⟩:=h;have U:=List.find?_some ao;obtain⟨i,G,rfl⟩:=List.mem_iff_getElem.1 (List.mem_of_find?_eq_some ao);obtain⟨dA,e⟩:=ams G;grind
theorem IE{c:a6}(aC:ha c){w:z1'}(U:oj c w){jh m:Int}(h:iy c w jh=some m):0<=m/\m<=11000:=by
 unfold iy at h;obtain⟨u,_,hu⟩:=List.exists_of_findSome?_eq_some h;obtain⟨i,G,_,_,rfl⟩:=amx hu;have ao:=XO aC U G;have hm:=amv aC.amu ao.2.2.1;have ag:=EI aC U (Bj (List.getElem_mem (by omega:i<(gI c w u).length)));have a7:=EI aC U (Bj (List.getElem_mem G));have bN:=@amw c.2.2.2.1 (gI c w u)[i].2 (gI c w u)[i+1].2;grind
def yA(c:a6)(w:z1')(amy:Int):Int:=(fl c).foldl (λn s=>if (eb s=1/\ij s=amy)/\(iy c w (jX s)).isSome=true then n+jA c.2.2.2.2 ((iy c w (jX s)).getD 0) else n) 0
def Bk(c:a6)(jh:Int):Bool:=(fl c).any λs=>jX s == jh&&eb s == 1
def tj(c:a6)(w:z1'):Bool:=(List.range w.length).all λi=>b1 (w.getD i 0) (c.1.getD i (0,0)).1 (c.1.getD i (0,0)).2
def iz(c:a6)(w:z1'):Bool:=decide (w.length=c.1.length)&&tj c w&&(ef 0 9).all λu=>eE (b7 c w u)
theorem XS{c:a6}(aC:ha c){w:z1'}(ai:w.length=c.1.length)(h:tj c w=true):oj c w:=by
 refine⟨ai,λn aw=>?_⟩;obtain⟨i,G,rfl⟩:=List.mem_iff_getElem.1 aw;unfold tj at h;rw[List.all_eq_true]at h;have E:=h i (by grind);rw[th G,th (by omega:i<c.1.length),oi]at E;have:=aC.clk _ (List.getElem_mem (by omega:i<c.1.length));omega
def ks:z4'->Nat
 | []=>1
 | s::r=>(s.2 - s.1+1).toNat*ks r
def np(c:a6):z4'->z1'->List (z1')
 | [],w=>if iz c w=true then [w] else []
 | s::r,w=>(ef s.1 s.2).flatMap λn=>np c r (w++[n])
theorem O7{ak β:Type}(f:ak->List β)(k:Nat):∀ (l:List ak),(∀ x∈l,(f x).length<=k)->(l.flatMap f).length<=l.length*k
 | [],_=>by simp
 | x::l,h=>by
  simp only[List.flatMap_cons,List.length_append,List.length_cons];have:=O7 f k l λy aS=>h y (by grind);grind
theorem O8(c:a6):∀ (r:z4') (w:z1'),(np c r w).length<=ks r
 | [],w=>by unfold np ks;grind
 | s::r,w=>by
  unfold np ks;have:=O7 (λn=>np c r (w++[n])) (ks r) (ef s.1 s.2) λn _=>O8 c r _;rw[yl]at this;omega
theorem XT{ak β:Type}(f:ak->List β):∀ (l:List ak) (b:List β),l.foldl (λb x=>b++f x) b=b++l.flatMap f
 | [],b=>by simp
 | x::l,b=>by simp only[List.foldl_cons,List.flatMap_cons];rw[XT f l,List.append_assoc]
abbrev cP(c:a6):List (z1'):=np c c.1 []
def amz(c:a6):Prop:=cO c=0->ks c.1<=60
def fE(c:a6):Prop:=alE c/\amz c
theorem fE.gq{c:a6}(h:fE c):j7 c:=by
 obtain⟨⟨E,U,ag,a7⟩,_⟩:=h;exact⟨by omega,by omega,by omega,by omega⟩
def eF(c:a6)(b:Bool):List (z1')×Int:=if cO c≠0 then ([],cO c) else if b=false then ([],1) else if cP c=[] then ([],3) else (cP c,0)
theorem O9(c:a6):∀ (r:z4') (w x:z1'),x∈np c r w->iz c x=true
 | [],w,x,h=>by
  unfold np at h;grind
 | s::r,w,x,h=>by
  unfold np at h;rw[List.mem_flatMap]at h;obtain⟨n,_,aw⟩:=h;exact O9 c r _ x aw
theorem Bl{c:a6}(h:cO c=0){w:z1'}(hw:iz c w=true):oj c w:=by
 unfold iz at hw;simp only[Bool.and_eq_true,decide_eq_true_eq]at hw;exact XS (l' h) hw.1.1 hw.1.2
theorem IF{c:a6}{w:z1'}(hw:iz c w=true){u:Int}(hu:0<=u/\u<=9):eE (b7 c w u)=true:=by
 unfold iz at hw;simp only[Bool.and_eq_true,List.all_eq_true]at hw;exact hw.2 u (pW.2 hu)
theorem amA{c:a6}{b:Bool}{w:z1'}(h:w∈(eF c b).1):cO c=0/\w∈cP c/\iz c w=true/\oj c w:=by
 unfold eF at h;split at h
 ·grind
 ·rename_i hc;have hc:cO c=0:=by omega
  split at h
  ·grind
  ·split at h
   ·grind
   ·have:=O9 c _ _ _ h;exact⟨hc,h,this,Bl hc this⟩
def Bm:Option (Int×Int)->Int->Int×Int
 | none,n=>(n,n)
 | some s,n=>(min s.1 n,max s.2 n)
def yB(l:z1'):Option (Int×Int):=l.foldl (λo n=>some (Bm o n)) none
def tk(l:z1'):Int×Int:=(yB l).getD (0,0)
theorem amB(a b c:Int):cq.sh (a,b,c)=A.pure (b1 a b c):=rfl
def kN(c:a6)(jh:Int):z1'×Int:=if (eF c (Bk c jh)).2≠0 then ([],(eF c (Bk c jh)).2) else if (eF c (Bk c jh)).1.filterMap (λw=>iy c w jh)=[] then ([],3) else ((eF c (Bk c jh)).1.filterMap (λw=>iy c w jh),0)
def q0(c:a6)(n:Int):(Int×Int)×Int:=(tk (kN c n).1,(kN c n).2)
abbrev yC:aN:=⟨.aA kq br,.aA l9 br,λx=>fE x.1,λx=>q0 x.1 x.2⟩
def q1(c:a6)(n:Int):(Int×Int)×Int:=(tk ((kN c n).1.map λm=>jA c.2.2.2.2 m),(kN c n).2)
abbrev yD:aN:=⟨.aA kq br,.aA l9 br,λx=>fE x.1,λx=>q1 x.1 x.2⟩
def q2(c:a6)(g:Int):(Int×Int)×Int:=(tk ((eF c (b1 g 0 99)).1.map λw=>yA c w g),(eF c (b1 g 0 99)).2)
abbrev yE:aN:=⟨.aA kq br,.aA l9 br,λx=>fE x.1,λx=>q2 x.1 x.2⟩
def q3(c:a6)(t:Int):(Int×Int)×Int:=(tk ((eF c (b1 t 0 9999)).1.map λw=>yz c w t*c.2.2.2.2.2.2.2.2.2.2),(eF c (b1 t 0 9999)).2)
abbrev yF:aN:=⟨.aA kq br,.aA l9 br,λx=>fE x.1,λx=>q3 x.1 x.2⟩
def wq(u t:Int):Bool:=b1 u 0 9&&b1 t 0 9999
def O_(c:a6)(u t:Int):z1':=(eF c (wq u t)).1.map λw=>(mb (gI c w u) t).1
def nq(c:a6)(u t:Int):z1'×Int:=((ef (-1) 99).filter λg=>(O_ c u t).contains g,(eF c (wq u t)).2)
abbrev yG:aN:=⟨.aA kq (.aA br br),.aA fP br,λx=>fE x.1,λx=>nq x.1 x.2.1 x.2.2⟩
def EJ(c:a6)(w:z1')(u t:Int):Bool:=decide ((mb (gI c w u) t).1>=0)&&decide (ma c.2.2.2.1 (mb (gI c w u) t).2 t>=c.2.2.2.2.2.2.2.2.1)
def pa(c:a6)(l:List (z1'))(u t:Int):Nat:=(l.filter λw=>EJ c w u t).length
def nr(c:a6)(t:Int):z1'×z1'×Int:=
 if (eF c (b1 t 0 9999)).2≠0 then ([],[],(eF c (b1 t 0 9999)).2)
 else ((ef 0 9).filter (λu=>decide (pa c (eF c (b1 t 0 9999)).1 u t=(eF c (b1 t 0 9999)).1.length)),(ef 0 9).filter (λu=>decide (pa c (eF c (b1 t 0 9999)).1 u t > 0)),0)
abbrev yH:aN:=⟨.aA kq br,.aA fP (.aA fP br),λx=>fE x.1,λx=>nr x.1 x.2⟩
theorem O':∀ (l:List bx) (t:Int) (b:Int×Int),(∀ e∈l,(0<=ij e.1))->(l.foldl (λb e=>if e.2<=t then (if eb e.1=2 then (-1,e.2) else (ij e.1,e.2)) else b) b=b\/∃ e∈l,e.2<=t/\l.foldl (λb e=>if e.2<=t then (if eb e.1=2 then (-1,e.2) else (ij e.1,e.2)) else b) b=(if eb e.1=2 then (-1,e.2) else (ij e.1,e.2)))
 | [],t,b,_=>.inl rfl
 | x::l,t,b,h=>by
  simp only[List.foldl_cons];by_cases ah:x.2<=t
  ·rw[if_pos ah];rcases O' l t (if eb x.1=2 then (-1,x.2) else (ij x.1,x.2)) λe he=>h e (by grind) with E | ⟨e,he,E,U⟩
   ·exact .inr ⟨x,by simp,ah,E⟩
   ·exact .inr ⟨e,by simp[he],E,U⟩
  ·rw[if_neg ah];rcases O' l t b λe he=>h e (by grind) with E | ⟨e,he,E,U⟩
   ·exact .inl E
   ·exact .inr ⟨e,by simp[he],E,U⟩
theorem amC{c:a6}(aC:ha c){w:z1'}(U:oj c w){u t:Int}(aM:t<=9999)(h:(mb (gI c w u) t).1>=0):Bh (c,(mb (gI c w u) t).2,t):=by
 rcases O' (gI c w u) t (-1,0) (λe he=>((Bf.1 (aC.Bg (EF (Bj he)).1)).2.2.2.2.1).1) with E | ⟨e,he,E,ag⟩
 ·unfold mb at h;grind
 ·have:=EI aC U (Bj he);have aP:(mb (gI c w u) t).2=e.2:=by
   unfold mb;grind
  exact⟨aC.O5,by grind,by grind,show t<=11000 by omega⟩
abbrev kO(z:hq):a6:=(z.1,z.2.1,z.2.2.1,z.2.2.2.1,z.2.2.2.2.1,z.cZ,z.fb,z.gx,z.h1,z.jW,z.k4)
abbrev Pa(z:hq):List a8:=z.hP
abbrev XU(z:hq):List (Option dP):=z.nm
abbrev EK(c:a6)(l:List a8)(t:List (Option dP)):hq:=(c.1,c.2.1,c.2.2.1,c.2.2.2.1,c.2.2.2.2.1,c.2.2.2.2.2.1,c.2.2.2.2.2.2.1,c.2.2.2.2.2.2.2.1,c.2.2.2.2.2.2.2.2.1,c.2.2.2.2.2.2.2.2.2.1,c.2.2.2.2.2.2.2.2.2.2,l,t,())
def uS(l:List a8)(w:z1')(u:Int):List bx:=(l.filter λs=>decide (uM s=u)).map λs=>(s,yt s+w.getD (p2 s).toNat 0)
theorem amD{l:List a8}{w:z1'}{i:Nat}(h:i<l.length)(u:Int):uS (l.take (i+1)) w u=if l[i].2.2.2.2.1=u then uS (l.take i) w u++[(l[i],yt l[i]+w.getD (p2 l[i]).toNat 0)] else uS (l.take i) w u:=by
 unfold uS;rw[List.take_add_one,List.getElem?_eq_getElem h,Option.toList_some,List.filter_append,List.map_append];grind
theorem XV(l:List a8)(w:z1')(u:Int):(uS l w u).length<=l.length:=by
 unfold uS;grind
abbrev ns(c:a6)(w:z1'):List (List bx):=[b7 c w 0,b7 c w 1,b7 c w 2,b7 c w 3,b7 c w 4,b7 c w 5,b7 c w 6,b7 c w 7,b7 c w 8,b7 c w 9]
def tl(c:a6)(w:z1'):Bool:=(ef 0 9).all λu=>eE (b7 c w u)
theorem amE(c:a6)(w:z1'):tl c w=(eE (b7 c w 0)&&(eE (b7 c w 1)&&(eE (b7 c w 2)&&(eE (b7 c w 3)&&(eE (b7 c w 4)&&(eE (b7 c w 5)&&(eE (b7 c w 6)&&(eE (b7 c w 7)&&(eE (b7 c w 8)&&eE (b7 c w 9)))))))))):=by
 unfold tl;rw[show ef 0 9=[0,1,2,3,4,5,6,7,8,9] from by decide];simp
abbrev amF(x:z1'×hq):Prop:=cO (kO x.2)=0/\oj (kO x.2) x.1/\Pa x.2=fl (kO x.2)
def uT(x:z1'×hq):A (Option dP×Bool×hq):=A.dQ (amF x) (if tl (kO x.2) x.1=true then (some (x.1,ns (kO x.2) x.1),true,x.2) else (none,false,x.2))
theorem amG{bm aJ:Type}{body:Int×Int×Int×bm->A (V (Int×Int×Int×bm) aJ)}(l:List bx){a n:Int}{z:bm}(bad tm:aJ)
  (W:∀ i,i<l.length->body (a,n,(i:Int),z)=A.pure (if (!qZ l i)=true then .done bad else .next (a,n,((i+1:Nat):Int),z)))
  (he:body (a,n,(l.length:Int),z)=A.pure (.done tm)):A.loop body (a,n,0,z)=A.pure (if eE l=true then tm else bad):=by
 rw[A.eu (List.range l.length) (λi (_:Unit)=>(a,n,(i:Int),z)) (λi b=>if (!qZ l i)=true then .done bad else .next b) (λ_=>tm) () ?_ ?_ ?_]
 ·rw[k1 (q:=qZ l) _ _ (λ_=>rfl)];rfl
 ·rfl
 ·intro i G b;have G:i<l.length:=by grind
  rw[W i G,List.getElem_range];cases qZ l i<;>rfl
 grind
theorem XW{X:Type}{l:List bx}(ai:l.length<=12){i:Nat}(G:i<l.length){k:Int}(al:k=1+((i % 2:Nat):Int))(aK B:A X):OS l l[i] i k aK B=if (!qZ l i)=true then aK else B:=by
 unfold OS;have z':=amh l i;rw[Bool.or_comm,th G]at z';have ay:(decide (l[i].1.2.2.2.1≠k)||decide ((i:Int) > 0)&&decide (l[i].2=(List.getD l (Int.toNat (IntKind.wrap .i64 ((i:Int) - 1))) ((0,0,0,0,0,0),0)).2))=!qZ l i:=by
  rw[<-z',al];rcases Nat.eq_zero_or_pos i with aU | aU
  ·simp_all
  ·rw[bG (n:=(i:Int) - 1) (by omega) (by omega),show ((i:Int) - 1).toNat=i - 1 from by omega]
 rw[ay];have bN:decide ((i:Int) > 0)=true->(0<=IntKind.wrap .i64 ((i:Int) - 1)/\IntKind.wrap .i64 ((i:Int) - 1)<Int.ofNat (List.length l)):=λh=>by
  have h:=of_decide_eq_true h;rw[bG (n:=(i:Int) - 1) (by omega) (by omega),bX];omega
 simp_all
theorem amH{l:List bx}(h:l.length<=12):A7 (l_.sh,l,())=A.pure (fu h2 l,()):=A.bP ⟨h,rfl⟩ _
theorem amI{l:List a8}{w:z1'}{c:a6}(ai:l.length<=12)(aE:∀ s∈l,lC c.1.length s=true)(hw:oj c w){i:Nat}(G:i<l.length):0<=l[i].2.2.2.2.1/\l[i].2.2.2.2.1<=9/\(0<=l[i].2.1/\l[i].2.1<(w.length:Int))/\IntKind.wrap .i64 (l[i].2.2.1+w.getD l[i].2.1.toNat 0)=l[i].2.2.1+w.getD l[i].2.1.toNat 0:=by
 have h:=Bf.1 (aE _ (List.getElem_mem G));have E:p2 l[i]<(w.length:Int):=by rw[hw.1];omega
 have U:=hw.2 _ (yk (d:=0) h.2.1.1 E);have ag:=h.2.2.1;have a7:=h.2.2.2.1;exact⟨a7.1,a7.2,⟨h.2.1.1,E⟩,bG (by grind) (by grind)⟩
abbrev om(f:Nat->List bx)(c:hq):lB:=(f 0,f 1,f 2,f 3,f 4,f 5,f 6,f 7,f 8,f 9,c)
theorem Pb{f g:Nat->List bx}(h:∀ u,u<10->f u=g u)(c:hq):om f c=om g c:=by
 simp only[om,h 0 (by decide),h 1 (by decide),h 2 (by decide),h 3 (by decide),h 4 (by decide),h 5 (by decide),h 6 (by decide),h 7 (by decide),h 8 (by decide),h 9 (by decide)]
theorem Pc(f:Nat->List bx)(c:hq):∀ k,k<10->mK k (om f c)=f k
 | 0,_ | 1,_ | 2,_ | 3,_ | 4,_ | 5,_ | 6,_ | 7,_ | 8,_ | 9,_=>rfl
 | k+10,h=>by omega
theorem XX(f:Nat->List bx)(c:hq)(v:List bx):∀ k,k<10->Il k v (om f c)=om (λj=>if j=k then v else f j) c
 | 0,_ | 1,_ | 2,_ | 3,_ | 4,_ | 5,_ | 6,_ | 7,_ | 8,_ | 9,_=>rfl
 | k+10,h=>by omega
theorem XY{X:Type}(f:Nat->A X){v:Int}{u:Nat}(h:v=(u:Int)):∀ {n:Nat},u<=n->Io f v n=f u
 | 0,hu=>by
  obtain rfl:u=0:=by omega
  rfl
 | n+1,hu=>by
  unfold Io;simp only[gZ,bX,h];by_cases e:u=n+1
  ·rw[if_pos (by omega),e]
  ·rw[if_neg (by omega)];exact XY f rfl (by omega)
theorem amJ{c:a6}{w:z1'}(kj:∀ u,(b7 c w u).length<=12){z:hq}{g:Nat->List bx}{k:Nat}(al:k<10)(aC:g k=b7 c w k) :
  A.loop (Im k) (Int.ofNat k,Int.ofNat (List.length (b7 c w k)),0,w,om g z)=A.pure (if eE (b7 c w k)=true then .next (Int.ofNat k,w,om g z) else .done (.done (none,false,z))):=by
 have ay:mK k (om g z)=b7 c w k:=(Pc g z k al).trans aC;refine amG (b7 c w k) _ _ (λi G=>?_) ?_
 ·have hw:=bG (n:=(i:Int)+1) (by omega) (by have:=kj k;omega);unfold Im;simp only[bX,cY G,if_true,ay,cI G,dm G,A.bo];rcases Nat.mod_two_eq_zero_or_one i with hm | hm
  ·have ar:decide (Int.tmod (i:Int) 2=1)=false:=by rw[XI,hm];rfl
   simp only[ar,Bool.false_eq_true,if_false,A.FR,A.aG,A.b3];rw[A.bu (by decide),ay];refine (XW (kj k) G (by rw[hm];rfl) _ _).trans ?_;simp only[cp,hw];cases qZ (b7 c w k) i<;>rfl
  ·have ar:decide (Int.tmod (i:Int) 2=1)=true:=by rw[XI,hm];rfl
   simp only[ar,if_true,A.FR,A.aG,A.b3];rw[A.bu (by decide),ay];refine (XW (kj k) G (by rw[hm];rfl) _ _).trans ?_;simp only[cp,hw];cases qZ (b7 c w k) i<;>rfl
 ·unfold Im;simp
theorem XZ{c:a6}{w:z1'}(hlen:∀ u,(o' c w u).length<=12)(kj:∀ u,(b7 c w u).length<=12){z:hq}:∀ n k,k+n=10->
  Eu A7 l_.sh n k (w,om (λu=>if u<k then b7 c w u else o' c w u) z)=A.pure (if ((List.range' k n).all λu=>eE (b7 c w u))=true then .next (w,om (λu=>b7 c w u) z) else .done (none,false,z))
 | 0,k,h=>by
  unfold Eu;rw[Pb (g:=λu=>b7 c w u) λu hu=>if_pos (by omega)];rfl
 | n+1,k,h=>by
  have al:k<10:=by omega
  have aE:A7 (l_.sh,o' c w k,())=A.pure (b7 c w k,()):=amH (hlen k);have hw:=bG (n:=(k:Int)+1) (by omega) (by omega);have aP:Il k (b7 c w k) (om (λu=>if u<k then b7 c w u else o' c w u) z)=om (λu=>if u<k+1 then b7 c w u else o' c w u) z:=by
   rw[XX _ _ _ _ al];exact Pb (λu hu=>by
    by_cases e:u=k
    ·subst e;simp
    ·by_cases aP:u<k
     ·simp[e,aP,show u<k+1 by omega]
     ·simp[e,aP,show ¬u<k+1 by omega]) _
  unfold Eu;dsimp only;rw[A.bu (by simp only[bX];omega),Pc _ _ _ al,if_neg (Nat.lt_irrefl k),aE,A.aG];simp only[aP];rw[amJ kj al (if_pos (Nat.lt_succ_self k)),A.aG,List.range'_succ,List.all_cons];cases eE (b7 c w k) with
  | false=>rfl
  | true=>
   simp only[if_true,Bool.true_and,A.b3];rw[A.bu (by simp only[bX,cp,hw];omega)];exact XZ hlen kj n (k+1) (by omega)
theorem Pd(x):A.le (Xe o_.sh A7 l_.sh x) (uT x):=A.bw λh=>by
 obtain⟨w,z⟩:=x;obtain⟨E,U,ag⟩:=h;change cO (kO z)=0 at E;change oj (kO z) w at U;change z.hP=fl (kO z) at ag;show _=A.pure (if tl (kO z) w=true then (some (w,ns (kO z) w),true,z) else (none,false,z));generalize uy:kO z=c at *
 have aC:=l' E;have ai:=aC.IC;have pA:∀ s∈fl c,lC c.1.length s=true:=λs aE=>aC.Bg aE;have aw:=aC.dO;have hlen:∀ u,(o' c w u).length<=12:=λu=>Nat.le_trans (XV (fl c) w u) ai;have kj:∀ u,(b7 c w u).length<=12:=λu=>EE aC w u;have p5:∀ u,uS z.hP w u=o' c w u:=λu=>by rw[ag];rfl
 rw[<-ag]at ai pA;clear ag;unfold Xe;rw[show o_.sh w=A.pure w from A.bP (show w.length<=3000000 by have:=U.1;omega) _];simp only[A.aG,A.b3,A.bo];refine (congrArg (λm=>A.bind m _) (A.eu z.hP (λi (_:Unit)=>(w,z.hP,(z.hP.length:Int),(i:Int),w,om (λu=>uS (z.hP.take i) w u) z)) (λ_ b=>.next b) (λ_=>.next (w,om (λu=>o' c w u) z)) () ?_ ?_ ?_)).trans ?_
 ·simp only[bX,List.take_zero];rfl
 ·intro i G b;obtain⟨aR,aW,bL,fA⟩:=amI (c:=c) ai pA U G;have hw:=bG (n:=(i:Int)+1) (by omega) (by omega);have iH:∀ u,b_ (Add.add (uS (z.hP.take i) w u).length (Add.add 0 1)):=λu=>ft (by have:=XV (z.hP.take i) w u;rw[List.length_take]at this;simp only[gZ];omega);obtain⟨u,hu⟩:∃ u:Nat,z.hP[i].2.2.2.2.1=(u:Int):=⟨z.hP[i].2.2.2.2.1.toNat,by omega⟩
  have amK:u<=9:=by omega
  simp only[bX,cY G,if_true,dm G,cI G,A.bo];rw[A.bu (show (0<=z.hP[i].2.2.2.2.1/\z.hP[i].2.2.2.2.1<((10:Nat):Int)) from⟨aR,by omega⟩),XY _ hu amK];unfold Xd;simp only[dm G,bX,Pc _ _ u (show u<10 by omega),XX _ _ _ u (show u<10 by omega)];rw[A.bu trivial,A.bu (by omega),A.bu bL,A.bu (iH _),A.bu trivial,A.bu (by omega),A.aG,A.b3];simp only[cp,hw,fA];refine congrArg (λq=>A.pure (V.next (w,z.hP,(z.hP.length:Int),((i:Int)+1),w,q))) ?_;refine Pb (λj aF=>?_) _;rw[amD G,hu];by_cases e:j=u
  ·subst e;rw[if_pos rfl,if_pos rfl,<-hu]
  ·rw[if_neg e,if_neg (by omega)]
 ·intro b;simp only[List.take_length,p5];simp
 ·rw[fs,A.aG,A.b3];have bF:=XZ (c:=c) (w:=w) hlen kj (z:=z) 10 0 rfl;rw[A.bu (by decide)];rw[show (λu:Nat=>if u<0 then b7 c w u else o' c w u)=λu:Nat=>o' c w u from funext λu=>if_neg (Nat.not_lt_zero u)]at bF;rw[bF,A.aG];have ay:((List.range' 0 10).all λu=>eE (b7 c w u))=tl c w:=by
   rw[amE];simp[List.range']
  rw[ay];cases tl c w<;>rfl
abbrev iA(c:a6)(w:z1'):Option dP:=some (w,ns c w)
abbrev amL(f:Nat)(x:z1'×hq):Prop:=cO (kO x.2)=0/\Pa x.2=fl (kO x.2)/\x.1.length<=(kO x.2).1.length/\(kO x.2).1.length<x.1.length+f/\tj (kO x.2) x.1=true/\(XU x.2).length+ks ((kO x.2).1.drop x.1.length)<=60
def yI(f:Nat)(x:z1'×hq):A hq:=A.dQ (amL f x) (EK (kO x.2) (Pa x.2) (XU x.2++(np (kO x.2) ((kO x.2).1.drop x.1.length) x.1).map (iA (kO x.2))))
theorem amM(x):¬(yI 0 x).b2:=λh=>by have E:=h.2.2.1;have U:=h.2.2.2.1;omega
theorem amN{c:a6}{w:z1'}{n:Int}:tj c (w++[n])=(tj c w&&b1 n (c.1.getD w.length (0,0)).1 (c.1.getD w.length (0,0)).2):=by
 unfold tj;grind
theorem amO{c:a6}{w:z1'}(ai:w.length=c.1.length)(h:tj c w=true):iz c w=tl c w:=by
 unfold iz tl;grind
set_option maxHeartbeats 1000000 in
theorem amP(f:Nat)(x):A.le (Xg (yI f) uT x) (yI (f+1) x):=A.bw λh=>by
 obtain⟨w,a0,ca,a2,a3,a4,a5,fY,gA,h4,a9,hC,l,t,u⟩:=x;obtain⟨E,U,ag,a7,bN,du⟩:=h;change cO (a0,ca,a2,a3,a4,a5,fY,gA,h4,a9,hC)=0 at E;change l=fl (a0,ca,a2,a3,a4,a5,fY,gA,h4,a9,hC) at U;change w.length<=a0.length at ag;change a0.length<w.length+(f+1) at a7;change tj (a0,ca,a2,a3,a4,a5,fY,gA,h4,a9,hC) w=true at bN;change t.length+ks (a0.drop w.length)<=60 at du;show _=A.pure (EK (a0,ca,a2,a3,a4,a5,fY,gA,h4,a9,hC) l (t++(np (a0,ca,a2,a3,a4,a5,fY,gA,h4,a9,hC) (a0.drop w.length) w).map (iA (a0,ca,a2,a3,a4,a5,fY,gA,h4,a9,hC))));have aC:=l' E;have aw:a0.length<=3:=aC.dO;unfold Xg;simp only[Prod.cZ,Prod.fb,Prod.gx,Prod.h1,Prod.jW,Prod.k4,Prod.hP,Prod.nm,Prod.p1,Prod.s8,Prod.yp,Prod.OD,Prod.OE,Prod.OF,Prod.OG,bX,A.bo];by_cases ai:w.length=a0.length
 ·rw[if_pos (by simp only[decide_eq_true_eq];omega)];have amQ:oj (a0,ca,a2,a3,a4,a5,fY,gA,h4,a9,hC) w:=XS aC ai bN;have af:uT (w,a0,ca,a2,a3,a4,a5,fY,gA,h4,a9,hC,l,t,())=A.pure (if tl (a0,ca,a2,a3,a4,a5,fY,gA,h4,a9,hC) w=true then (iA (a0,ca,a2,a3,a4,a5,fY,gA,h4,a9,hC) w,true,a0,ca,a2,a3,a4,a5,fY,gA,h4,a9,hC,l,t,()) else (none,false,a0,ca,a2,a3,a4,a5,fY,gA,h4,a9,hC,l,t,())):=A.bP ⟨E,amQ,U⟩ _;rw[af,A.aG,ai,List.drop_length];unfold np;rw[amO ai bN];cases al:tl (a0,ca,a2,a3,a4,a5,fY,gA,h4,a9,hC) w with
  | true=>
   rw[if_pos rfl,if_pos rfl,A.bu (ft (by simp only[gZ];omega)),A.aG,A.b3];rfl
  | false=>
   simp only[Bool.false_eq_true,if_false,A.aG,A.b3,List.map_nil,List.append_nil]
 ·have ck:w.length<a0.length:=by omega
  rw[if_neg (by simp only[decide_eq_true_eq];omega),A.bu (show (0:Int)<=(w.length:Int)/\(w.length:Int)<(a0.length:Int) by omega)];rw[List.drop_eq_getElem_cons ck]at du ⊢;simp only[Int.toNat_natCast,th ck];have aE:=aC.clk _ (List.getElem_mem ck);change -30<=a0[w.length].1/\a0[w.length].1<=a0[w.length].2/\a0[w.length].2<=30 at aE;have nu:a0.getD w.length (0,0)=a0[w.length]:=th ck;generalize a0[w.length]=s at *
  unfold ks at du;have EL:∀ n (ts:List (Option dP)),s.1<=n->n<=s.2->ts.length+ks (a0.drop (w.length+1))<=60->yI f (w++[n],a0,ca,a2,a3,a4,a5,fY,gA,h4,a9,hC,l,ts,())=A.pure (EK (a0,ca,a2,a3,a4,a5,fY,gA,h4,a9,hC) l (ts++(np (a0,ca,a2,a3,a4,a5,fY,gA,h4,a9,hC) (a0.drop (w.length+1)) (w++[n])).map (iA (a0,ca,a2,a3,a4,a5,fY,gA,h4,a9,hC)))):=by
   intro n ts aR aW bL;refine (A.bP ⟨E,U,?_,?_,?_,?_⟩ _).trans (congrArg A.pure ?_)
   ·show EK (a0,ca,a2,a3,a4,a5,fY,gA,h4,a9,hC) l (ts++(np (a0,ca,a2,a3,a4,a5,fY,gA,h4,a9,hC) (a0.drop (w++[n]).length) (w++[n])).map (iA (a0,ca,a2,a3,a4,a5,fY,gA,h4,a9,hC)))=_;rw[List.length_append,List.length_singleton]
   ·show (w++[n]).length<=a0.length;simp;omega
   ·show a0.length<(w++[n]).length+f;simp;omega
   ·show tj (a0,ca,a2,a3,a4,a5,fY,gA,h4,a9,hC) (w++[n])=true;rw[amN,bN];show (true&&b1 n (a0.getD w.length (0,0)).1 (a0.getD w.length (0,0)).2)=true;rw[nu,Bool.true_and];exact oi.2 ⟨aR,aW⟩
   ·show ts.length+ks (a0.drop (w++[n]).length)<=60;rw[List.length_append,List.length_singleton];exact bL
  rw[A.gw (ef s.1 s.2) (λi (ts:List (Option dP))=>(w,(w.length:Int),s.1+(i:Int),a0,ca,a2,a3,a4,a5,fY,gA,h4,a9,hC,l,ts,())) (λn ts=>.next (ts++(np (a0,ca,a2,a3,a4,a5,fY,gA,h4,a9,hC) (a0.drop (w.length+1)) (w++[n])).map (iA (a0,ca,a2,a3,a4,a5,fY,gA,h4,a9,hC)))) (λts=>(a0,ca,a2,a3,a4,a5,fY,gA,h4,a9,hC,l,ts,())) (λi ts=>ts.length<=t.length+i*ks (a0.drop (w.length+1))) t ?_ ?_ ?_ ?_]
  ·rw[fs,XT (f:=λn=>(np (a0,ca,a2,a3,a4,a5,fY,gA,h4,a9,hC) (a0.drop (w.length+1)) (w++[n])).map (iA (a0,ca,a2,a3,a4,a5,fY,gA,h4,a9,hC)))];rw[<-List.map_flatMap];rfl
  ·rw[Int.natCast_zero,Int.add_zero]
  ·simp
  ·intro i G ts af;rw[yl]at G;have hw:=bG (n:=s.1+(i:Int)+1) (by omega) (by omega);have ar:decide (s.1+(i:Int)<=s.2)=true:=by simpa using (by omega:s.1+(i:Int)<=s.2)
   have hle:=O8 (a0,ca,a2,a3,a4,a5,fY,gA,h4,a9,hC) (a0.drop (w.length+1)) (w++[s.1+(i:Int)]);have amR:ts.length+ks (a0.drop (w.length+1))<=60:=by
    have:(i+1)*ks (a0.drop (w.length+1))<=(s.2 - s.1+1).toNat*ks (a0.drop (w.length+1)):=Nat.mul_le_mul_right _ (by omega);rw[Nat.succ_mul]at this;omega
   refine⟨?_,λbe de=>?_⟩
   ·simp only[Int.toNat_natCast,nu,ar,if_true,cp,hw,Ec,List.take_length];rw[A.bu (by omega),A.bu ⟨by omega,by omega,trivial,by omega⟩,A.bu ⟨by simp only[gZ];omega,ft (by simp only[gZ];omega)⟩,EL _ ts (by omega) (by omega) amR,A.aG];simp only[V.hp];rw[show s.1+((i+1:Nat):Int)=s.1+(i:Int)+1 from by omega]
   ·simp only[V.next.injEq,Ec]at de;subst de;rw[List.length_append,List.length_map,Nat.succ_mul];omega
  ·intro ts af;rw[yl];have ar:decide (s.1+(((s.2 - s.1+1).toNat:Nat):Int)<=s.2)=false:=by simpa using (by omega:s.2<s.1+(((s.2 - s.1+1).toNat:Nat):Int))
   simp only[Int.toNat_natCast,nu,ar,Bool.false_eq_true,if_false,A.aG];rw[A.bu (by omega)]
abbrev uU:a6:=([],[],[],[],0,0,0,0,0,0,0)
abbrev Bn:aN:=⟨.aA hr (.bH kq),dk,λx=>∃ c:a6,x.2=some c/\c.2.2.1.length<2 ^ 63,λx=>(x.2.getD uU).2.2.1.contains (jX x.1)⟩
theorem Pe(x):A.le (WT o9.sh x) (Bn.sh x):=A.bw λh=>by
 obtain⟨s,o⟩:=x;obtain⟨c,hc,h⟩:=h;change o=some c at hc;subst hc;unfold WT;simp only[Option.getD_some];rw[show o9.sh (c.2.2.1,s.1)=A.pure (c.2.2.1.contains s.1) from A.bP h _,A.aG]
abbrev uV(c:a6):d_:=(c,fl c,(cP c).map (iA c))
def EM(c:a6)(f:Option d_->A Bool):Bool:=(f (some (c,fl c,[]))).val false
def tn(c:a6)(b:Bool):Option d_×Int:=if cO c≠0 then (none,cO c) else if b=false then (none,1) else if cP c=[] then (none,3) else (some (uV c),0)
abbrev wu:aN:=⟨.aA kq (.fn (.bH s_) .bool),.aA (.bH s_) br,λx=>fE x.1/\(cO x.1=0->∃ b,x.2 (some (x.1,fl x.1,[]))=A.pure b),λx=>tn x.1 (EM x.1 x.2)⟩
theorem amS{c:a6}(aC:ha c):IB ((λs=>Bn.sh (s,some c)),g_ c.2.1,())=A.pure ((0,(fl c).length),fl c++List.replicate ((g_ c.2.1).length - (fl c).length) iT,()):=by
 have ae:∀ s,Bn.sh (s,some c)=A.pure (c.2.2.1.contains s.1):=λs=>A.bP ⟨c,rfl,by have:=aC.jM;omega⟩ _;have e:((g_ c.2.1).filter λs=>!(Bn.sh (s,some c)).val false)=fl c:=by
  unfold fl;simp_all
 have:=al5 c.2.1;refine (A.bP ⟨show (g_ c.2.1).length<2 ^ 63 by omega,λs _=>⟨_,ae s⟩⟩ _).trans (congrArg A.pure ?_);grind
set_option maxHeartbeats 1000000 in
theorem amT(x):A.le (Ww h3.sh Iz IB (yI 5) Bn.sh x) (wu.sh x):=A.bw λh=>by
 obtain⟨c,f⟩:=x;obtain⟨h,au⟩:=h;change fE c at h;change cO c=0->∃ b,f (some (c,fl c,[]))=A.pure b at au;unfold Ww;show _=A.pure (tn c (EM c f));unfold tn;rw[show h3.sh c=A.pure (cO c) from A.bP h.gq _];simp only[A.aG,decide_eq_true_eq];by_cases hc:cO c=0
 ·simp only[hc,ne_eq,not_true_eq_false,if_false];have aC:=l' hc;obtain⟨b,W⟩:=au hc;have E:=aC.dO;have hid:=IA aC.i';rw[show Iz (c.2.1,())=A.pure (true,g_ c.2.1,()) from A.bP ⟨hid,(Bc _).2 aC.Ba⟩ _,A.aG];simp only[A.bo];rw[amS aC,A.aG];have p4:List.drop 0 (List.take (fl c).length (fl c++List.replicate ((g_ c.2.1).length - (fl c).length) iT))=fl c:=by
   rw[List.drop_zero,List.take_left]
  simp only[p4];unfold EM;simp only[W,A.e5,A.aG];cases b with
  | false=>simp
  | true=>
   simp only[Bool.not_true,Bool.false_eq_true,if_false,A.aG,A.b3,reduceCtorEq];simp only[Prod.cZ,Prod.fb,Prod.gx,Prod.h1,Prod.jW,Prod.k4,Prod.hP,Prod.nm,Prod.p1,Prod.s8,Prod.yp,Prod.OD,Prod.OE,Prod.OF,Prod.OG,p4];have nu:yI 5 ([],c.1,c.2.1,c.2.2.1,c.2.2.2.1,c.2.2.2.2.1,c.2.2.2.2.2.1,c.2.2.2.2.2.2.1,c.2.2.2.2.2.2.2.1,c.2.2.2.2.2.2.2.2.1,c.2.2.2.2.2.2.2.2.2.1,c.2.2.2.2.2.2.2.2.2.2,fl c,[],())=A.pure (EK c (fl c) ((cP c).map (iA c))):=A.bP ⟨hc,rfl,Nat.zero_le _,show c.1.length<0+5 by omega,rfl,show 0+ks c.1<=60 by have:=h.2 hc;omega⟩ _;rw[nu,A.aG];simp only[bX,List.length_map];by_cases aM:cP c=[]
   ·simp[aM]
   ·have:¬((cP c).length:Int)=0:=λe=>aM (List.eq_nil_of_length_eq_zero (by omega));simp only[this,aM,if_false]
 ·simp only[hc,ne_eq,not_false_eq_true,if_true]
def wv(l:List (Option dP))(f:Option dP->A (Int×Bool)):Option (Int×Int):=yB (l.filterMap λt=>if ((f t).val (0,false)).2=true then some ((f t).val (0,false)).1 else none)
abbrev Bo:aN:=⟨.aA (.bH s_) (.fn (.bH yq) (.aA br .bool)),.aA l9 .bool,λx=>∃ b:d_,x.1=some b/\b.2.2.length<=60/\∀ t∈b.2.2,∃ r,x.2 t=A.pure r,λx=>((wv (x.1.getD (uU,[],[])).2.2 x.2).getD (0,0),(wv (x.1.getD (uU,[],[])).2.2 x.2).isSome)⟩
theorem X0{ak β gB:Type}(g:ak->Option β)(h:gB->β->gB):∀ (l:List ak) (b:gB),l.foldl (λb x=>(g x).elim b λy=>h b y) b=(l.filterMap g).foldl h b
 | [],b=>rfl
 | x::l,b=>by
  simp only[List.foldl_cons,List.filterMap_cons];rw[X0 g h l];grind
theorem amU(x):A.le (WG x) (Bo.sh x):=A.bw λh=>by
 obtain⟨o,f⟩:=x;obtain⟨b,W,ai,au⟩:=h;change o=some b at W;subst W;unfold WG;show _=A.pure ((wv b.2.2 f).getD (0,0),(wv b.2.2 f).isSome);simp only[Option.isSome_some,A.bo,Option.getD_some];change b.2.2.length<=60 at ai;change ∀ t∈b.2.2,∃ r,f t=A.pure r at au;generalize b.2.2=l at *
 rw[A.eu l (λi (o:Option (Int×Int))=>(f,o.isSome,l,(l.length:Int),(i:Int),o.getD (0,0),())) (λt o=>.next ((if ((f t).val (0,false)).2=true then some ((f t).val (0,false)).1 else none).elim o λn=>some (Bm o n))) (λo=>.next (o.isSome,o.getD (0,0),())) none ?_ ?_ ?_]
 ·rw[fs,X0 (λt=>if ((f t).val (0,false)).2=true then some ((f t).val (0,false)).1 else none) (λo n=>some (Bm o n)),A.aG];rfl
 ·rfl
 ·intro i G o;have hw:=bG (n:=(i:Int)+1) (by omega) (by omega);obtain⟨r,M⟩:=au _ (List.getElem_mem G);simp only[Prod.cZ,bX,cY G,if_true,dm G,cI G,A.bo,cp,hw,M,A.aG,A.e5,V.hp];obtain⟨n,cc⟩:=r;cases cc with
  | false=>simp_all
  | true=>
   cases o with
   | none=>simp only[Bool.not_true,Bool.false_eq_true,if_false,if_true,Option.isSome_none,Bool.not_false,A.aG,A.b3,hw,Option.elim];rfl
   | some s=>
    simp only[Bool.not_true,Bool.false_eq_true,if_false,if_true,Option.isSome_some,A.aG,A.b3,hw,Option.elim,Option.getD_some];rw[XL,amk];rfl
 simp
section
variable {ak:Type}
def X1(x:Nat×List (Int×ak)×(Nat×(z1'->Prop)×z1'×Bool)×Unit):A ((Nat×(z1'->Prop)×z1'×Bool)×Unit):=
 A.bind (A.pure ()) λy=>A.loop (λ(D:Nat×(Nat×(z1'->Prop)×z1'×Bool)×(Option (Int×ak)×List (Int×ak))×Unit)=>
 A.bind (GV D.2.2.1.2) λy=>if Option.isSome y=true then A.bind (A.ad (Option.isSome (n6 D.2.2.1.1 D.2.2.1.2 y)=true) (A.pure ())) λb4
 =>A.bind (A.ad (D.1=D.2.1.1/\D.2.1.2.2.2=false/\∃ (T:z1'),D.2.1.2.1 (D.2.1.2.2.1++Option.getD (Option.map (λx=>x.1) (n6
 D.2.2.1.1 D.2.2.1.2 y)) 0::T)) (A.any λx=>True)) λdL=>if (!dL)=true then A.bind (A.pure ((D.2.1.1,D.2.1.2.1,D.2.1.2.2.1++
 [Option.getD (Option.map (λx=>x.1) (n6 D.2.2.1.1 D.2.2.1.2 y)) 0],!dL),())) λr=>A.pure (V.done r) else A.pure (V.next (D.1,(D.2.1.1,D.2.1.2.1,D.2.1.2.2.1++[Option.getD (Option.map (λx=>x.1) (n6 D.2.2.1.1 D.2.2.1.2 y)) 0],!dL),(n6 D.2.2.1.1 D.2.2.1.2 y,Dj D.2.2.1.2 y),())) else A.bind (A.pure (D.2.1,())) λr=>A.pure (V.done r)) (x.1,x.2.2.1,(none,x.2.1),())
theorem X2{β:Type}:∀ (l:List β) (i:Nat) (h:i<l.length),(l[i]::l.eraseIdx i).Perm l
 | x::l,0,_=>.refl _
 | x::l,i+1,h=>by
  simp only[List.getElem_cons_succ,List.eraseIdx_cons_succ];exact (List.Perm.swap x _ _).trans ((X2 l i (by grind)).cons x)
theorem X3(l:Nat)(m:List (Int×ak)):A.cv (X1 (l,m,(l,jY (some m),[],false),())) λy=>y.1.2.2.2=false->jY (some m) y.1.2.2.1:=by
 unfold X1;rw[A.aG];refine A.Ch (λD=>∃ p c cm,D=(l,(l,jY (some m),p,false),(c,cm),())/\(m.map (·.1)).Perm (p++cm.map (·.1))) (λD=>D.2.2.1.2.length) ?_ _ ⟨[],none,m,rfl,.refl _⟩;rintro D ⟨p,c,cm,rfl,ao⟩;simp only;rw[A.fZ];refine⟨trivial,λy aS=>?_⟩;cases y with
 | none=>
  have M:cm=[]:=aS;subst M;simp only[Option.isSome_none,Bool.false_eq_true,if_false,A.aG];refine A.d'.2 λ_=>uP.2 (by grind)
 | some i=>
  have G:i<cm.length:=aS;have aw:n6 c cm (some i)=some cm[i]:=List.getElem?_eq_getElem G;have M:Dj cm (some i)=cm.eraseIdx i:=rfl;have EN:(m.map (·.1)).Perm (p++cm[i].1::(cm.eraseIdx i).map (·.1)):=ao.trans (List.Perm.append_left p ((X2 cm i G).symm.map (·.1)));simp only[Option.isSome_some,if_true,aw,M,A.bo,A.aG,Option.map_some,Option.getD_some];rw[A.fZ,A.kS];refine⟨⟨trivial,trivial,(cm.eraseIdx i).map (·.1),uP.2 EN⟩,⟨true,trivial⟩,λb _=>?_⟩;cases b with
  | false=>
   simp only[Bool.not_false,if_true,A.aG];exact A.d'.2 λh=>by cases h
  | true=>
   simp only[Bool.not_true,Bool.false_eq_true,if_false];refine A.d'.2 ⟨⟨p++[cm[i].1],some cm[i],cm.eraseIdx i,rfl,by grind⟩,?_⟩;grind
end
theorem amV(l:Nat)(m:z4'):A.cv (OQ (l,m,(l,jY (some m),[],false),())) λy=>y.1.2.2.2=false->jY (some m) y.1.2.2.1:=X3 l m
theorem amW(l:Nat)(m:List (Int×a8)):A.cv (OR (l,m,(l,jY (some m),[],false),())) λy=>y.1.2.2.2=false->jY (some m) y.1.2.2.1:=X3 l m
def dA(cl:z4'):List bx->List bx
 | a::b::r=>(a.1,ma cl a.2 b.2)::dA cl r
 | _=>[]
def EO(c:a6)(fV:List (List bx)):Prop:=fV.length=10/\∀ l∈fV,l.length<=12/\∀ i,(h:i+1<l.length)->Bh (c,l[i].2,l[i+1].2)
def p6(c:a6)(fV:List (List bx)):List bx:=fV.flatMap (dA c.2.2.2.1)
def tp(x:Option (Option dP)×Option (Option d_))(L:List bx):Prop:=∃ t b,x.1=some (some t)/\x.2=some (some b)/\EO b.1 t.2/\L=p6 b.1 t.2
theorem amX{cl:z4'}{l:List bx}{i:Nat}(h:i+1<l.length):dA cl (l.drop i)=(l[i].1,ma cl l[i].2 l[i+1].2)::dA cl (l.drop (i+2)):=by
 rw[List.drop_eq_getElem_cons (by omega:i<l.length),List.drop_eq_getElem_cons h];rfl
theorem amY{cl:z4'}{l:List bx}{i:Nat}(h:¬i+1<l.length):dA cl (l.drop i)=[]:=by
 have:(l.drop i).length<=1:=by grind
 match h:l.drop i with
 | []=>rfl
 | [_]=>rfl
 | _::_::_=>grind
set_option maxHeartbeats 1000000 in
theorem amZ(fg:Nat)(t:dP)(b:d_)(h:EO b.1 t.2):A.cv (Ik wm.sh (fg,some t,some b,(fg,tp (some (some t),some (some b)),[],false),())) λy=>y.1.2.2.2=false->tp (some (some t),some (some b)) y.1.2.2.1:=by
 obtain⟨E,U⟩:=h;have HB:∀ L,tp (some (some t),some (some b)) L<->L=p6 b.1 t.2:=λL=>⟨λ⟨cW,be,ay,aP,_,e⟩=>by cases ay;cases aP;exact e,λe=>⟨t,b,rfl,rfl,⟨E,U⟩,e⟩⟩
 generalize tp (some (some t),some (some b))=S at *
 unfold Ik;simp only[Option.isSome_some,A.bo,Option.getD_some];refine A.Ch (λD=>∃ (u:Nat),u<=10/\D=(fg,some b,t.2,(u:Int),(fg,S,(t.2.take u).flatMap (dA b.1.2.2.2.1),false),())) (λD=>(10 - D.2.2.2.1).toNat) ?_ _ ⟨0,by omega,rfl⟩;rintro D ⟨u,hu,rfl⟩;by_cases MD:u<10
 ·have ar:decide ((u:Int)<10)=true:=by simpa using (by omega:(u:Int)<10)
  have sX:u<t.2.length:=by omega
  have am0:=bG (n:=(u:Int)+1) (by omega) (by omega);have hm:=List.getElem_mem sX;obtain⟨ag,a7⟩:=U _ hm;simp only[ar,if_true,dm sX];rw[A.bu (show (0:Int)<=(u:Int)/\(u:Int)<Int.ofNat 10 by rw[bX];omega)];have fG:p6 b.1 t.2=(t.2.take u).flatMap (dA b.1.2.2.2.1)++(dA b.1.2.2.2.1 t.2[u]++(t.2.drop (u+1)).flatMap (dA b.1.2.2.2.1)):=by
   unfold p6;conv=>lhs;rw[<-List.take_append_drop u t.2,List.drop_eq_getElem_cons sX]
   simp only[List.flatMap_append,List.flatMap_cons]
  generalize am1:t.2[u]=j0 at *
  generalize (t.2.drop (u+1)).flatMap (dA b.1.2.2.2.1)=R at *
  generalize jt:(t.2.take u).flatMap (dA b.1.2.2.2.1)=P at *
  have am2:(t.2.take (u+1)).flatMap (dA b.1.2.2.2.1)=P++dA b.1.2.2.2.1 j0:=by
   rw[List.take_add_one,List.getElem?_eq_getElem sX,Option.toList_some,List.flatMap_append,jt,am1];simp
  rw[A.fZ];refine (A.Ch (p:=λz=>match z with | .next z=>z=(fg,some b,t.2,(u:Int),(fg,S,P++dA b.1.2.2.2.1 j0,false),()) | .done z=>(match z with | .next _=>False | .done y=>y.1.2.2.2=true)) (λD=>∃ (i:Nat) (Q:List bx),i<=j0.length+1/\Q++dA b.1.2.2.2.1 (j0.drop i)=dA b.1.2.2.2.1 j0/\D=(fg,some b,j0,(i:Int),t.2,(u:Int),(fg,S,P++Q,false),())) (λD=>(20 - D.2.2.2.1).toNat) ?_ _ ⟨0,[],by omega,by simp,by simp⟩).mono λz bk=>?_
  ·rintro D ⟨i,Q,oP,uB,rfl⟩;have hw:=bG (n:=(i:Int)+1) (by omega) (by omega);have gY:=bG (n:=(i:Int)+2) (by omega) (by omega);by_cases G:i+1<j0.length
   ·have Mv:i<j0.length:=by omega
    have ar:decide ((i:Int)+1<(j0.length:Int))=true:=by simpa using (by omega:(i:Int)+1<(j0.length:Int))
    have cJ:(0:Int)<=(i:Int)+1/\(i:Int)+1<(j0.length:Int):=⟨by omega,by omega⟩
    have jy:j0.getD ((i:Int)+1).toNat ((0,0,0,0,0,0),0)=j0[i+1]:=by
     rw[show ((i:Int)+1).toNat=i+1 from by omega,th G]
    have em:wm.sh (b.1,j0[i].2,j0[i+1].2)=A.pure (ma b.1.2.2.2.1 j0[i].2 j0[i+1].2):=A.bP (a7 i G) _;simp only[Prod.cZ,Prod.fb,bX,cp,hw,ar,if_true,dm Mv,cI Mv,cJ,jy,Option.isSome_some,Option.getD_some,em,A.hR,A.e5,and_self,A.bo,decide_true];rw[A.fZ,A.kS];have cU:=amX (cl:=b.1.2.2.2.1) G;refine⟨⟨trivial,trivial,dA b.1.2.2.2.1 (j0.drop (i+2))++R,(HB _).2 ?_⟩,⟨true,trivial⟩,λy _=>?_⟩
    ·rw[fG,<-uB,cU];simp
    ·cases y with
     | false=>
      simp only[Bool.not_false,if_true,A.aG];exact A.d'.2 rfl
     | true=>
      simp only[Bool.not_true,Bool.false_eq_true,if_false,gY];refine A.d'.2 ⟨⟨i+2,Q++[(j0[i].1,ma b.1.2.2.2.1 j0[i].2 j0[i+1].2)],by omega,?_,?_⟩,?_⟩
      ·rw[<-uB,cU];simp
      ·rw[List.append_assoc];rfl
      ·show (20 - ((i:Int)+2)).toNat<(20 - (i:Int)).toNat;omega
   ·have ar:decide ((i:Int)+1<(j0.length:Int))=false:=by simpa using (by omega:(j0.length:Int)<=(i:Int)+1)
    simp only[bX,cp,hw,ar,Bool.false_eq_true,if_false,A.aG];refine A.d'.2 ?_;rw[amY G,List.append_nil]at uB;show (fg,some b,t.2,(u:Int),(fg,S,P++Q,false),())=_;rw[uB]
  ·cases z with
   | next z=>
    have bk:z=_:=bk;subst bk;simp only[A.b3,cp,am0];refine A.d'.2 ⟨⟨u+1,by omega,?_⟩,?_⟩
    ·rw[am2];rfl
    ·show (10 - ((u:Int)+1)).toNat<(10 - (u:Int)).toNat;omega
   | done z=>
    cases z with
    | next z=>exact absurd bk id
    | done y=>
     have bk:y.1.2.2.2=true:=bk;simp only[A.pV];refine A.d'.2 λh=>?_;rw[bk]at h;cases h
 ·have N3:u=10:=by omega
  subst N3;simp only[show decide (((10:Nat):Int)<10)=false from by decide,Bool.false_eq_true,if_false,A.aG];refine A.d'.2 λ_=>(HB _).2 ?_;show (t.2.take 10).flatMap _=_;rw[<-E,List.take_length];rfl
abbrev Bp:aN:=⟨.aA (.bH s_) (.bH yq),.cr (.aA hr br),λ_=>True,λx=>tp (some x.2,some x.1)⟩
theorem am3(x):A.le (ak0 tp x) (Bp.sh x):=A.bw λ_=>rfl
end Go.Fer.H
namespace Go.Fer.H
open A (V)
theorem Bq{ak β:Type}{f:ak->β}:∀ {l:List ak},(l.map f).Nodup->∀ {a b:ak},a∈l->b∈l->f a=f b->a=b
 | [],_,a,b,a_,_,_=>by grind
 | x::l,aw,a,b,a_,W,e=>by
  rw[List.map_cons,List.nodup_cons]at aw;rcases List.mem_cons.1 a_ with E | E<;>rcases List.mem_cons.1 W with U | U
  ·grind
  ·grind
  ·grind
  ·exact Bq aw.2 E U e
theorem am4{l m:z1'}(h:l.Perm m):l.sum=m.sum:=by
 induction h with
 | nil=>rfl
 | cons x _ aI=>grind
 | swap x y l=>grind
 | trans _ _ E U=>omega
theorem Pf{l:List bx}(h:eE l=true){i:Nat}(G:i<l.length):eb l[i].1=1+((i % 2:Nat):Int)/\(0<i->l[i].2≠(l.getD (i - 1) bF).2):=by
 unfold eE at h;rw[List.all_eq_true]at h;have:=h i (by grind);unfold qZ at this;grind
theorem X4(cl:z4'):∀ l:List bx,(∀ i,(h:i<l.length)->eb l[i].1=1+((i % 2:Nat):Int))->dA cl l=((uR l).filter λp=>eb p.1.1 == 1).map λp=>(p.1.1,ma cl p.1.2 p.2.2)
 | [],_=>rfl
 | [_],_=>rfl
 | [a,b],h=>by
  have a_:eb a.1=1:=h 0 (by simp);simp[dA,uR,a_]
 | a::b::c::r,h=>by
  have a_:eb a.1=1:=h 0 (by simp);have W:eb b.1=2:=h 1 (by simp);have aI:=X4 cl (c::r) λi G=>by
   have:=h (i+2) (by grind);grind
  have e:uR (a::b::c::r)=(a,b)::(b,c)::uR (c::r):=rfl;rw[e,List.filter_cons_of_pos (by grind),List.filter_cons_of_neg (by grind),List.map_cons,<-aI];rfl
abbrev nv(c:a6)(w:z1'):List bx:=p6 c (ns c w)
theorem IG(c:a6)(w:z1'):nv c w=(ef 0 9).flatMap λu=>dA c.2.2.2.1 (b7 c w u):=by
 rfl
theorem Pg{c:a6}{w:z1'}(hw:iz c w=true){u:Int}(hu:0<=u/\u<=9):gI c w u=b7 c w u:=by
 unfold gI;rw[if_pos (IF hw hu)]
theorem am5{cl:z4'}{l:List bx}(h:eE l=true)(jh:Int):EH cl jh l=((dA cl l).find? λp=>p.1.1 == jh).map (·.2):=by
 rw[X4 cl l λi G=>(Pf h G).1];unfold EH;rw[List.find?_map,List.find?_filter,Option.map_map];refine congrArg _ (congrArg (λf=>(uR l).find? f) ?_);grind
theorem X5{ak β:Type}{f g:ak->Option β}:∀ {l:List ak},(∀ x∈l,f x=g x)->l.findSome? f=l.findSome? g
 | [],_=>rfl
 | x::l,h=>by
  rw[List.findSome?_cons,List.findSome?_cons,h x (by simp),X5 λy aS=>h y (by grind)]
theorem Ph{c:a6}{w:z1'}(hw:iz c w=true)(jh:Int):iy c w jh=((nv c w).find? λp=>p.1.1 == jh).map (·.2):=by
 unfold iy;rw[IG,List.find?_flatMap,List.map_findSome?];refine X5 λu hu=>?_;have hu:=pW.1 hu;rw[Pg hw hu,am5 (IF hw hu)];rfl
theorem X6{c:a6}(aC:ha c){w:z1'}(hw:iz c w=true):EO c (ns c w):=by
 have U:=Bl aC.O4 hw;have key:∀ u:Int,0<=u/\u<=9->(b7 c w u).length<=12/\∀ i,(h:i+1<(b7 c w u).length)->Bh (c,(b7 c w u)[i].2,(b7 c w u)[i+1].2):=by
  intro u hu;have:=Pg hw hu;refine⟨EE aC w u,?_⟩;have k:=λi=>@XO c aC w U u i;simp only[this]at k;exact k
 refine⟨rfl,λl ai=>?_⟩;simp only[ns,List.mem_cons,List.not_mem_nil,or_false]at ai;rcases ai with rfl | rfl | rfl | rfl | rfl | rfl | rfl | rfl | rfl | rfl<;>exact key _ (by omega)
theorem X7{cl:z4'}:∀ {l:List bx} {p:bx},p∈dA cl l->∃ i,∃ h:i+1<l.length,i % 2=0/\p=(l[i].1,ma cl l[i].2 l[i+1].2)
 | [],_,h=>by simp[dA]at h
 | [_],_,h=>by simp[dA]at h
 | a::b::r,p,h=>by
  unfold dA at h;rcases List.mem_cons.1 h with rfl | h
  ·exact⟨0,by simp,rfl,rfl⟩
  ·obtain⟨i,G,U,e⟩:=X7 h;exact⟨i+2,by grind,by omega,e⟩
theorem X8(cl:z4'):∀ l:List bx,((dA cl l).map (·.1)).Sublist (l.map (·.1))
 | []=>.slnil
 | [_]=>List.nil_sublist _
 | a::b::r=>by
  unfold dA;simp only[List.map_cons];exact ((X8 cl r).cons _).cons_cons _
theorem X9(l:List a8):((g_ l).map (·.1)).Nodup:=by
 unfold g_;have key:∀ L:z1',L.Nodup->((L.filterMap λid=>l.find? λs=>s.1 == id).map (·.1)).Nodup/\∀ k∈(L.filterMap λid=>l.find? λs=>s.1 == id).map (·.1),k∈L:=by
  grind
 refine (key _ ?_).1;unfold ef;show List.Pairwise _ _;rw[List.pairwise_map];exact (List.pairwise_lt_range).imp λh=>by omega
theorem Pj(c:a6):((fl c).map (·.1)).Nodup:=by
 unfold fl;exact (X9 c.2.1).sublist (List.filter_sublist.map _)
theorem Pk{c:a6}{a b:a8}(a_:a∈fl c)(W:b∈fl c)(h:a.1=b.1):a=b:=by
 exact Bq (Pj c) a_ W h
theorem Pl(c:a6)(w:z1')(u:Int):((b7 c w u).map (·.1)).Perm ((fl c).filter λs=>decide (uM s=u)):=by
 unfold b7 o';refine ((Ey h2 _).map _).trans ?_;rw[List.map_map];exact List.Perm.of_eq (List.map_id' _)
theorem X_{c:a6}{w:z1'}{p:bx}(h:p∈nv c w):∃ u,0<=u/\u<=9/\∃ i,∃ G:i+1<(b7 c w u).length,i % 2=0/\p=((b7 c w u)[i].1,ma c.2.2.2.1 (b7 c w u)[i].2 (b7 c w u)[i+1].2):=by
 rw[IG,List.mem_flatMap]at h;obtain⟨u,hu,ao⟩:=h;obtain⟨i,G,U,e⟩:=X7 ao;exact⟨u,(pW.1 hu).1,(pW.1 hu).2,i,G,U,e⟩
theorem Br{c:a6}{w:z1'}{p:bx}(h:p∈nv c w):p.1∈fl c:=by
 obtain⟨u,_,_,i,G,_,rfl⟩:=X_ h;exact (EF (List.getElem_mem (by omega:i<(b7 c w u).length))).1
theorem am6{c:a6}{w:z1'}(hw:iz c w=true){p:bx}(h:p∈nv c w):eb p.1=1:=by
 obtain⟨u,E,U,i,G,ag,rfl⟩:=X_ h;have:=(Pf (IF hw ⟨E,U⟩) (by omega:i<(b7 c w u).length)).1;grind
theorem Pm(c:a6)(w:z1'):((nv c w).map (·.1)).Nodup:=by
 have hc:(fl c).Nodup:=by
  have:=Pj c;exact List.Pairwise.of_map _ (λa b h e=>h (by rw[e])) this
 have hu:∀ u,((dA c.2.2.2.1 (b7 c w u)).map (·.1)).Nodup/\∀ s∈(dA c.2.2.2.1 (b7 c w u)).map (·.1),uM s=u:=by
  intro u;have aE:=X8 c.2.2.2.1 (b7 c w u);have ao:=Pl c w u;grind
 rw[IG,List.map_flatMap];have key:∀ L:z1',L.Nodup->(L.flatMap λu=>(dA c.2.2.2.1 (b7 c w u)).map (·.1)).Nodup/\∀ s∈(L.flatMap λu=>(dA c.2.2.2.1 (b7 c w u)).map (·.1)),uM s∈L:=by
  grind
 refine (key _ ?_).1;unfold ef;show List.Pairwise _ _;rw[List.pairwise_map];exact (List.pairwise_lt_range).imp λh=>by omega
theorem X'{ak:Type}(yJ:ak->Int):∀ (l:List ak) (n:Int),l.foldl (λn x=>n+yJ x) n=n+(l.map yJ).sum
 | [],n=>by simp
 | x::l,n=>by simp only[List.foldl_cons,List.map_cons,List.sum_cons];rw[X' yJ l];omega
theorem am7{ak:Type}{f g:ak->Int}{l:List ak}(h:∀ x∈l,f x=g x):(l.map f).sum=(l.map g).sum:=by rw[List.map_congr_left h]
theorem am8{ψ:bx->Int}:∀ (C:List a8) (H:List bx),(C.map (·.1)).Nodup->(H.map (·.1)).Nodup->(∀ p∈H,p.1∈C)->(C.map λs=>(((H.find? λp=>p.1.1 == s.1).map ψ).getD 0)).sum=(H.map ψ).sum:=by
 intro C H jr mY rE;have e:(H.map ψ).sum=((C.filterMap λs=>H.find? λp=>p.1.1 == s.1).map ψ).sum:=by
  refine am4 (List.Perm.map ψ ?_);have am9:H.Nodup:=List.Pairwise.of_map _ (λa b h e=>h (by rw[e])) mY;refine (List.perm_ext_iff_of_nodup am9 ?_).2 λp=>?_
  ·have:∀ C:List a8,(C.map (·.1)).Nodup->(C.filterMap λs=>H.find? λp=>p.1.1 == s.1).Nodup/\∀ q∈(C.filterMap λs=>H.find? λp=>p.1.1 == s.1),q.1.1∈C.map (·.1):=by
    grind
   grind
  ·rw[List.mem_filterMap];constructor
   ·intro ao;refine⟨p.1,rE p ao,?_⟩;have hex:(H.find? λq=>q.1.1 == p.1.1).isSome=true:=List.find?_isSome.2 ⟨p,ao,by simp⟩;obtain⟨q,bq⟩:=Option.isSome_iff_exists.1 hex;have EP:q.1.1=p.1.1:=by grind
    have wx:=List.mem_of_find?_eq_some bq;have am_:q.1=p.1:=Bq jr (rE q wx) (rE p ao) EP;have:q=p:=Bq mY wx ao am_;grind
   grind
 rw[e];have:∀ C:List a8,(C.map λs=>(((H.find? λp=>p.1.1 == s.1).map ψ).getD 0)).sum=((C.filterMap λs=>H.find? λp=>p.1.1 == s.1).map ψ).sum:=by
  intro C;induction C with
  | nil=>rfl
  | cons s C aI=>
   grind
 grind
def uW(c:a6)(g:Int)(p:bx):Int:=if ij p.1=g then jA c.2.2.2.2 p.2 else 0
theorem am'{c:a6}{w:z1'}(hw:iz c w=true)(g:Int):yA c w g=((nv c w).map (uW c g)).sum:=by
 rw[<-am8 (ψ:=uW c g) (fl c) (nv c w) (Pj c) (Pm c w) λp ao=>Br ao];unfold yA;have e:(λ(n:Int) (s:a8)=>if (eb s=1/\ij s=g)/\(iy c w (jX s)).isSome=true then n+jA c.2.2.2.2 ((iy c w (jX s)).getD 0) else n)=λn s=>n+(if (eb s=1/\ij s=g)/\(iy c w (jX s)).isSome=true then jA c.2.2.2.2 ((iy c w (jX s)).getD 0) else 0):=by
  grind
 rw[e,X',Int.zero_add];refine am7 λs aE=>?_;rw[Ph hw];cases au:(nv c w).find? λp=>p.1.1 == jX s with
 | none=>simp
 | some p=>
  have ao:=List.mem_of_find?_eq_some au;have E:p.1.1=s.1:=by grind
  have U:p.1=s:=Pk (Br ao) aE E;have ag:=am6 hw ao;rw[U]at ag;simp only[Option.map_some,Option.getD_some,Option.isSome_some,and_true,ag,true_and,uW,U]
theorem yK(c:a6)(b:Bool):((eF c b).2≠0/\(eF c b).1=[]/\tn c b=(none,(eF c b).2))\/(eF c b=(cP c,0)/\cO c=0/\b=true/\tn c b=(some (uV c),0)):=by
 unfold eF tn;by_cases hc:cO c=0
 ·cases b with
  | false=>left;simp[hc]
  | true=>
   by_cases aM:cP c=[]
   ·left;simp[hc,aM]
   ·right;simp[hc,aM]
 ·left;simp[hc]
theorem Pn{ak β:Type}{f g:ak->Option β}:∀ {l:List ak},(∀ x∈l,f x=g x)->l.filterMap f=l.filterMap g
 | [],_=>rfl
 | x::l,h=>by
  rw[List.filterMap_cons,List.filterMap_cons,h x (by simp),Pn λy aS=>h y (by simp[aS])]
theorem Ya:tk []=(0,0):=rfl
theorem ana{ak:Type}(L:List ak)(P:ak->Option dP)(f:Option dP->A (Int×Bool))(v:ak->Int×Bool)(h:∀ w∈L,f (P w)=A.pure (v w)):wv (L.map P) f=yB (L.filterMap λw=>if (v w).2=true then some (v w).1 else none):=by
 unfold wv;rw[List.filterMap_map];refine congrArg yB (Pn λw hw=>?_);simp only[Function.comp,h w hw,A.e5]
theorem Yb{ak:Type}(yJ:ak->Int)(L:List ak):(L.filterMap λw=>if ((yJ w,true):Int×Bool).2=true then some ((yJ w,true):Int×Bool).1 else none)=L.map yJ:=by
 simp only[if_true];rw[<-List.filterMap_eq_map']
theorem wy{c:a6}(ai:(cP c).length<=60){f:Option dP->A (Int×Bool)}{v:z1'->Int×Bool}(h:∀ w∈cP c,f (iA c w)=A.pure (v w)):Bo.sh (some (uV c),f)=A.pure ((yB ((cP c).filterMap λw=>if (v w).2=true then some (v w).1 else none)).getD (0,0),(yB ((cP c).filterMap λw=>if (v w).2=true then some (v w).1 else none)).isSome):=by
 refine (A.bP ⟨uV c,rfl,show ((cP c).map (iA c)).length<=60 by simpa using ai,λt aM=>?_⟩ _).trans (congrArg A.pure ?_)
 ·show ((wv ((cP c).map (iA c)) f).getD (0,0),(wv ((cP c).map (iA c)) f).isSome)=_;rw[ana _ _ f v h]
 ·obtain⟨w,hw,rfl⟩:=List.mem_map.1 aM;exact⟨_,h w hw⟩
theorem anb:∀ {l:z1'},(yB l).isSome=!l.isEmpty:=by
 intro l;have key:∀ (l:z1') (o:Option (Int×Int)),o.isSome=true->(l.foldl (λo n=>some (Bm o n)) o).isSome=true:=by
  intro l;induction l with
  | nil=>intro o h;exact h
  | cons n l aI=>intro o _;exact aI _ rfl
 cases l with
 | nil=>rfl
 | cons n l=>exact key l _ rfl
theorem ER{c:a6}{f:Option d_->A Bool}{b:Bool}(h:fE c)(au:cO c=0->f (some (c,fl c,[]))=A.pure b):wu.sh (c,f)=A.pure (tn c b):=by
 refine (A.bP ⟨h,λhc=>⟨b,au hc⟩⟩ _).trans (congrArg A.pure ?_);show tn c (EM c f)=tn c b;unfold tn EM;by_cases hc:cO c=0
 ·rw[au hc,A.e5]
 ·simp[hc]
theorem ES{c:a6}(h:fE c)(hc:cO c=0):(cP c).length<=60:=Nat.le_trans (O8 c _ _) (h.2 hc)
theorem uX{c:a6}{w:z1'}(h:w∈cP c):iz c w=true:=O9 c _ _ _ h
abbrev Bs:aN:=⟨.aA hr (.bH br),dk,λx=>∃ k:Int,x.2=some k/\True,λx=>decide (jX x.1=x.2.getD 0)&&decide (eb x.1=1)⟩
theorem anc(x):A.le (ak_ x) (Bs.sh x):=A.bw λ_=>rfl
abbrev Po:aN:=⟨.aA (.bH s_) (.bH br),dk,λx=>∃ (b:d_) (k:Int),x.2=some k/\x.1=some b/\b.2.1.length<2 ^ 63,λx=>(x.1.getD (uU,[],[])).2.1.any λs=>jX s == x.2.getD 0&&eb s == 1⟩
theorem ane(x):A.le (WU (jf hr).sh Bs.sh x) (Po.sh x):=A.bw λh=>by
 obtain⟨o,k⟩:=x;obtain⟨b,_,_,W,h⟩:=h;change o=some b at W;subst W;unfold WU;simp only[Option.isSome_some,A.bo,Option.getD_some];have ae:∀ s,Bs.sh (s,some (k.getD 0))=A.pure (decide (jX s=k.getD 0)&&decide (eb s=1)):=λs=>A.bP ⟨_,rfl,trivial⟩ _;rw[show (jf hr).sh (b.2.1,λs=>Bs.sh (s,some (k.getD 0)))=A.pure (b.2.1.any λs=>(Bs.sh (s,some (k.getD 0))).val false) from A.bP ⟨h,λs _=>⟨_,ae s⟩⟩ _,A.aG];refine congrArg A.pure ?_;show _=b.2.1.any λs=>jX s == k.getD 0&&eb s == 1;refine congrArg (λp=>b.2.1.any p) ?_;funext s;rw[ae,A.e5];rw[Bool.eq_iff_iff];simp
theorem Yc{f:Int->A Int}{n:Int}:∀ (L:List bx),(∀ p∈L,p.1.1=n->∃ v,f p.2=A.pure v)->
  jR (λ(D:Int×(Int->A Int)×Int×Bool×Unit) (y:a8×Int)=>A.bind (if decide (y.1.1=D.1)=true then A.bind (D.2.1 y.2) λy=>A.pure (dj.ret,y,true,()) else A.pure
 (dj.normal,D.2.2.1,D.2.2.2.1,())) λp=>A.pure (p.1,D.1,D.2.1,p.2.1,p.2.2.1,())) L (n,f,0,false,())=(L.find? λp=>p.1.1 == n).elim (A.pure (dj.normal,n,f,0,false,())) λp=>A.pure (dj.ret,n,f,(f p.2).val 0,true,())
 | [],_=>rfl
 | p::L,h=>by
  unfold jR;by_cases ao:p.1.1=n
  ·obtain⟨v,ae⟩:=h p (by simp) ao;simp[ao,ae]
  ·have aI:=Yc L λq bq=>h q (by simp[bq]);simp only[ao,decide_false,Bool.false_eq_true,if_false,A.aG];rw[aI,List.find?_cons_of_neg (by simpa using ao)]
abbrev Pp:aN:=⟨.aA (.bH yq) (.aA (.bH (.bH s_)) (.aA (.bH br) (.bH (.fn br br)))),.aA br .bool,λx=>∃ (t:dP) (b:d_) (n:Int) (f:Int->A Int),x=(some t,some (some b),some n,some f)/\EO b.1 t.2/\∀ p∈p6 b.1 t.2,p.1.1=n->∃ v,f p.2=A.pure v,λx=>((p6 ((x.2.1.getD none).getD (uU,[],[])).1 (x.1.getD ([],[])).2).find? λp=>p.1.1 == x.2.2.1.getD 0).elim (0,false) λp=>(((x.2.2.2.getD λ_=>A.fail) p.2).val 0,true)⟩
theorem anf(x):A.le (WV Bp.sh x) (Pp.sh x):=A.s4 λh=>by
 obtain⟨t,b,n,f,rfl,E,U⟩:=h;unfold WV;simp only[Option.getD_some];rw[show Bp.sh (some b,some t)=A.pure (tp (some (some t),some (some b))) from rfl,A.aG,A.fZ];refine⟨⟨_,t,b,rfl,rfl,E,rfl⟩,λL iP=>?_⟩;obtain⟨cW,be,ay,aP,_,rfl⟩:=iP;cases ay;cases aP;rw[Yc (f:=f) (n:=n) _ U];show A.cv _ λy=>y=((p6 b.1 t.2).find? λp=>p.1.1 == n).elim (0,false) λp=>((f p.2).val 0,true)
 cases (p6 b.1 t.2).find? λp=>p.1.1 == n with
 | none=>simp only[Option.elim,A.aG,sM];exact A.d'.2 rfl
 | some p=>simp only[Option.elim,A.aG,sM];exact A.d'.2 rfl
abbrev Bt:aN:=⟨.aA kq (.aA br (.fn br br)),.aA l9 br,λx=>fE x.1/\∀ w∈cP x.1,∀ m,cO x.1=0->iy x.1 w x.2.1=some m->∃ v,x.2.2 m=A.pure v,λx=>(tk ((kN x.1 x.2.1).1.map λm=>(x.2.2 m).val 0),(kN x.1 x.2.1).2)⟩
theorem ang(x):A.le (WB wu.sh Bo.sh Po.sh Pp.sh x) (Bt.sh x):=A.bw λh=>by
 obtain⟨c,n,f⟩:=x;obtain⟨h,au⟩:=h;change fE c at h;change ∀ w∈cP c,∀ m,cO c=0->iy c w n=some m->∃ v,f m=A.pure v at au;unfold WB;show _=A.pure (tk ((kN c n).1.map λm=>(f m).val 0),(kN c n).2);unfold kN;rw[ER (b:=Bk c n) h λhc=>A.bP ⟨(c,fl c,[]),n,rfl,rfl,by have:=(l' hc).IC;show (fl c).length<2 ^ 63;omega⟩ _];rcases yK c (Bk c n) with⟨E,U,ag⟩ | ⟨E,U,ag,a7⟩
 ·rw[ag];simp only[A.aG];rw[if_pos (by simpa using E),if_pos E];rfl
 ·rw[E,a7];simp only[A.aG];rw[if_neg (by simp)];have aC:=l' U;rw[wy (v:=λw=>(iy c w n).elim (0,false) λm=>((f m).val 0,true)) (ES h U) λw hw=>?_,A.aG]
  ·have e:((cP c).filterMap λw=>if ((iy c w n).elim ((0,false):Int×Bool) λm=>((f m).val 0,true)).2=true then some ((iy c w n).elim ((0,false):Int×Bool) λm=>((f m).val 0,true)).1 else none)=((cP c).filterMap λw=>iy c w n).map λm=>(f m).val 0:=by
    rw[List.map_filterMap];refine Pn λw _=>?_;cases iy c w n<;>rfl
   rw[e,anb];generalize (cP c).filterMap (λw=>iy c w n)=l;cases l with
   | nil=>rfl
   | cons m l=>simp;rfl
  ·have aM:=uX hw;have vD:=Ph aM n;refine (A.bP ⟨(w,ns c w),uV c,n,f,rfl,X6 aC aM,λp ao Yd=>?_⟩ _).trans (congrArg A.pure ?_)
   ·show ((nv c w).find? λp=>p.1.1 == n).elim (0,false) (λp=>((f p.2).val 0,true))=_;rw[vD];cases (nv c w).find? λp=>p.1.1 == n<;>rfl
   ·refine au w hw p.2 U ?_;rw[vD];have hex:((nv c w).find? λq=>q.1.1 == n).isSome=true:=List.find?_isSome.2 ⟨p,ao,by simpa using Yd⟩;obtain⟨q,bq⟩:=Option.isSome_iff_exists.1 hex;have EP:q.1.1=n:=by have:=List.find?_some bq;simpa using this
    have wx:=List.mem_of_find?_eq_some bq;have aE:q.1=p.1:=Pk (Br wx) (Br ao) (EP.trans Yd.symm);have:q=p:=Bq (Pm c w) wx ao aE;rw[bq,this];rfl
abbrev yL:aN:=⟨br,br,λ_=>True,λx=>x⟩
theorem anh(x):A.le (akZ x) (yL.sh x):=A.bw λ_=>rfl
theorem ani(x):A.le (Wp Bt.sh yL.sh x) (yC.sh x):=A.bw λh=>by
 obtain⟨c,n⟩:=x;change fE c at h;unfold Wp;rw[show Bt.sh (c,n,yL.sh)=A.pure (tk ((kN c n).1.map λm=>(yL.sh m).val 0),(kN c n).2) from A.bP ⟨h,λ_ _ m _ _=>⟨m,rfl⟩⟩ _];simp only[A.aG];show _=A.pure (q0 c n);unfold q0;have:((kN c n).1.map λm=>(yL.sh m).val 0)=(kN c n).1:=by
  have:(λm:Int=>(yL.sh m).val 0)=λm=>m:=by
   funext m;exact A.e5
  rw[this,List.map_id']
 rw[this]
abbrev yM:aN:=⟨.aA br (.bH kq),br,λx=>∃ c:a6,x.2=some c/\yy (c.2.2.2.2,x.1),λx=>jA (x.2.getD uU).2.2.2.2 x.1⟩
theorem anj(x):A.le (WC wo.sh x) (yM.sh x):=A.bw λh=>by
 obtain⟨m,q⟩:=x;obtain⟨c,hc,h⟩:=h;change q=some c at hc;subst hc;unfold WC;simp only[Option.getD_some];rw[show wo.sh (c.2.2.2.2,m)=A.pure (jA c.2.2.2.2 m) from A.bP h _,A.aG]
theorem Ye{c:a6}(aC:ha c){w:z1'}(hw:iz c w=true){n m:Int}(hm:iy c w n=some m):yM.sh (m,some c)=A.pure (jA c.2.2.2.2 m):=by
 have:=IE aC (Bl aC.O4 hw) hm;exact A.bP ⟨c,rfl,aC.EC,show -100000<=m by omega,show m<=20000 by omega⟩ _
theorem ank{c:a6}{n m:Int}(hm:m∈(kN c n).1):cO c=0/\∃ w,iz c w=true/\w∈cP c/\iy c w n=some m:=by
 unfold kN at hm;split at hm
 ·simp at hm
 ·split at hm
  ·simp at hm
  ·rw[List.mem_filterMap]at hm;obtain⟨w,hw,he⟩:=hm;obtain⟨E,U,ag,_⟩:=amA hw;exact⟨E,w,ag,U,he⟩
theorem anl(x):A.le (Wo Bt.sh yM.sh x) (yD.sh x):=A.bw λh=>by
 obtain⟨c,n⟩:=x;change fE c at h;unfold Wo;rw[show Bt.sh (c,n,λm=>yM.sh (m,some c))=A.pure (tk ((kN c n).1.map λm=>(yM.sh (m,some c)).val 0),(kN c n).2) from A.bP ⟨h,λw hw m hc hm=>⟨_,Ye (l' hc) (uX hw) hm⟩⟩ _];simp only[A.aG];show _=A.pure (q1 c n);unfold q1;have:((kN c n).1.map λm=>(yM.sh (m,some c)).val 0)=(kN c n).1.map λm=>jA c.2.2.2.2 m:=by
  refine List.map_congr_left λm hm=>?_;obtain⟨hc,w,hw,_,he⟩:=ank hm;rw[Ye (l' hc) hw he,A.e5]
 rw[this]
abbrev Pq:aN:=⟨.aA (.bH s_) (.bH br),dk,λx=>∃ k:Int,x.2=some k/\True,λx=>b1 (x.2.getD 0) 0 99⟩
theorem anm(x):A.le (WI wb.sh x) (Pq.sh x):=A.bw λ_=>by
 unfold WI;rw[show wb.sh (x.2.getD 0)=A.pure (b1 (x.2.getD 0) 0 99) from rfl,A.aG]
abbrev Pr:aN:=⟨.aA (.bH yq) (.aA (.bH (.bH s_)) (.aA (.bH br) (.bH kq))),.aA br .bool,λx=>∃ (t:dP) (b:d_) (n:Int) (c:a6),x=(some t,some (some b),some n,some c)/\EO b.1 t.2/\(p6 b.1 t.2).length<=1000/\∀ p∈p6 b.1 t.2,yy (c.2.2.2.2,p.2),λx=>(((p6 ((x.2.1.getD none).getD (uU,[],[])).1 (x.1.getD ([],[])).2).map (uW (x.2.2.2.getD uU) (x.2.2.1.getD 0))).sum,true)⟩
theorem Ps{c:a6}{n:Int}:∀ (L:List bx) (a:Int),(∀ p∈L,yy (c.2.2.2.2,p.2))->0<=a->a+100000*(L.length:Int)<=1000000000->
  jR (λ(D:Int×a6×Int×Unit) (y:a8×Int)=>A.bind (if decide (y.1.2.2.2.2.2=D.1)=true then A.ad (wo.sh (D.2.1.2.2.2.2,y.2)).b2 (A.pure (dj.normal,IntKind.wrap
 .i64 (Add.add D.2.2.1 (A.val (wo.sh (D.2.1.2.2.2.2,y.2)) 0)),())) else A.pure (dj.normal,D.2.2.1,())) λp=>A.pure (p.1,D.1,D.2.1,p.2.1,())) L (n,c,a,())=A.pure (dj.normal,n,c,a+(L.map (uW c n)).sum,())
 | [],a,_,_,_=>by simp[jR]
 | p::L,a,h,aU,E=>by
  unfold jR;simp only[List.length_cons]at E;by_cases ao:p.1.2.2.2.2.2=n
  ·have W:=XN (h p (by simp));have ae:wo.sh (c.2.2.2.2,p.2)=A.pure (jA c.2.2.2.2 p.2):=A.bP (h p (by simp)) _;have hw:=bG (n:=a+jA c.2.2.2.2 p.2) (by omega) (by omega);have aI:=Ps (c:=c) (n:=n) L (a+jA c.2.2.2.2 p.2) (λq bq=>h q (by simp[bq])) (by omega) (by omega);simp only[ao,decide_true,if_true,ae,A.hR,A.e5,A.bo,cp,hw,A.aG];simp only[cp]at aI;rw[aI,List.map_cons,List.sum_cons];rw[show uW c n p=jA c.2.2.2.2 p.2 from if_pos ao];rw[Int.add_assoc]
  ·have aI:=Ps (c:=c) (n:=n) L a (λq bq=>h q (by simp[bq])) aU (by omega);simp only[ao,decide_false,Bool.false_eq_true,if_false,A.aG];rw[aI,List.map_cons,List.sum_cons];rw[show uW c n p=0 from if_neg ao,Int.zero_add]
theorem ano(x):A.le (WK wo.sh Bp.sh x) (Pr.sh x):=A.s4 λh=>by
 obtain⟨t,b,n,c,rfl,E,U,ag⟩:=h;unfold WK;simp only[Option.getD_some];rw[show Bp.sh (some b,some t)=A.pure (tp (some (some t),some (some b))) from rfl,A.aG,A.fZ];refine⟨⟨_,t,b,rfl,rfl,E,rfl⟩,λL iP=>?_⟩;obtain⟨cW,be,ay,aP,_,rfl⟩:=iP;cases ay;cases aP;rw[Ps _ 0 ag (by omega) (by omega)];show A.cv _ λy=>y=(((p6 b.1 t.2).map (uW c n)).sum,true)
 simp only[A.aG,sM,Int.zero_add];exact A.d'.2 rfl
theorem Yf(cl:z4'):∀ l:List bx,(dA cl l).length<=l.length
 | []=>by simp[dA]
 | [_]=>by simp[dA]
 | a::b::r=>by unfold dA;simp only[List.length_cons];have:=Yf cl r;omega
theorem anp{c:a6}(aC:ha c)(w:z1'):(nv c w).length<=1000:=by
 rw[IG];have:=O7 (λu=>dA c.2.2.2.1 (b7 c w u)) 12 (ef 0 9) λu _=>Nat.le_trans (Yf _ _) (EE aC w u);rw[show (ef 0 9).length=10 from by decide]at this;omega
theorem anq{c:a6}(aC:ha c){w:z1'}(hw:iz c w=true){p:bx}(ao:p∈nv c w):yy (c.2.2.2.2,p.2):=by
 have hex:((nv c w).find? λq=>q.1.1 == p.1.1).isSome=true:=List.find?_isSome.2 ⟨p,ao,by simp⟩;obtain⟨q,bq⟩:=Option.isSome_iff_exists.1 hex;have EP:q.1.1=p.1.1:=by have:=List.find?_some bq;simpa using this
 have wx:=List.mem_of_find?_eq_some bq;have:q=p:=Bq (Pm c w) wx ao (Pk (Br wx) (Br ao) EP);have ae:iy c w p.1.1=some p.2:=by rw[Ph hw,bq,this];rfl
 have:=IE aC (Bl aC.O4 hw) ae;exact⟨aC.EC,show -100000<=p.2 by omega,show p.2<=20000 by omega⟩
theorem anr(x):A.le (Wr wu.sh Bo.sh Pq.sh Pr.sh x) (yE.sh x):=A.bw λh=>by
 obtain⟨c,g⟩:=x;change fE c at h;unfold Wr;show _=A.pure (q2 c g);unfold q2;rw[ER (b:=b1 g 0 99) h λhc=>A.bP ⟨g,rfl,trivial⟩ _];rcases yK c (b1 g 0 99) with⟨E,U,ag⟩ | ⟨E,U,ag,a7⟩
 ·rw[U,ag];simp only[A.aG,List.map_nil,Ya];rw[if_pos (by simpa using E)]
 ·rw[E,a7];simp only[A.aG];rw[if_neg (by simp)];have aC:=l' U;rw[wy (v:=λw=>(yA c w g,true)) (ES h U) λw hw=>?_,A.aG,Yb]
  ·rfl
  ·have aM:=uX hw;refine (A.bP ⟨(w,ns c w),uV c,g,c,rfl,X6 aC aM,anp aC w,λp ao=>anq aC aM ao⟩ _).trans (congrArg A.pure ?_);show (((nv c w).map (uW c g)).sum,true)=_;rw[am' aM]
def mL(t:Int):List bx->bx×Bool->bx×Bool
 | [],b=>b
 | e::l,b=>mL t l (if e.2<=t then (e,decide (eb e.1=1)) else b)
def hb(l:List bx)(t:Int):bx×Bool:=mL t l (bF,false)
theorem Yg{t:Int}{e:bx}{l:List bx}{b:bx×Bool}(h:e.2<=t):mL t (e::l) b=mL t l (e,decide (eb e.1=1)):=by rw[mL,if_pos h]
theorem Yh{t:Int}{e:bx}{l:List bx}{b:bx×Bool}(h:¬e.2<=t):mL t (e::l) b=mL t l b:=by rw[mL,if_neg h]
theorem Yi(t:Int):∀ (l:List bx) (b:bx×Bool),l.foldl (λb e=>if e.2<=t then (e,decide (eb e.1=1)) else b) b=mL t l b
 | [],_=>rfl
 | e::l,b=>Yi t l _
theorem ans(l:List bx)(t:Int)(h:∀ e∈l,eb e.1=1\/eb e.1=2):mb l t=(if (hb l t).2=true then ij (hb l t).1.1 else -1,(hb l t).1.2):=by
 have key:∀ (l:List bx) (b:bx×Bool),(∀ e∈l,eb e.1=1\/eb e.1=2)->l.foldl (λb e=>if e.2<=t then (if eb e.1=2 then (-1,e.2) else (ij e.1,e.2)) else b) (if b.2=true then ij b.1.1 else -1,b.1.2)=(if (mL t l b).2=true then ij (mL t l b).1.1 else -1,(mL t l b).1.2):=by
  intro l;induction l with
  | nil=>intro b _;rfl
  | cons e l aI=>
   intro b h;rw[List.foldl_cons];by_cases he:e.2<=t
   ·rw[Yg he,<-aI (e,decide (eb e.1=1)) λx ah=>h x (by grind),if_pos he];grind
   ·rw[Yh he,if_neg he];grind
 exact key l (bF,false) h
theorem Yj(l:List bx)(t:Int):hb l t=(bF,false)\/((hb l t).1∈l/\(hb l t).1.2<=t/\(hb l t).2=decide (eb (hb l t).1.1=1)):=by
 have key:∀ (l:List bx) (b:bx×Bool),mL t l b=b\/((mL t l b).1∈l/\(mL t l b).1.2<=t/\(mL t l b).2=decide (eb (mL t l b).1.1=1)):=by
  intro l;induction l with
  | nil=>intro b;exact .inl rfl
  | cons e l aI=>
   intro b;by_cases he:e.2<=t
   ·rw[Yg he];grind
   ·rw[Yh he];grind
 exact key l (bF,false)
abbrev Pt(t:dP):Prop:=t.2.length=10/\∀ l∈t.2,l.length<=12
abbrev yN:aN:=⟨.aA (.bH yq) (.aA br br),.aA Ip .bool,λx=>∃ t:dP,x.1=some t/\Pt t/\0<=x.2.1/\x.2.1<=9,λx=>hb ((x.1.getD ([],[])).2.getD x.2.1.toNat []) x.2.2⟩
theorem ant(x):A.le (Wz x) (yN.sh x):=A.bw λh=>by
 obtain⟨o,u,m⟩:=x;obtain⟨t,E,⟨U,ag⟩,a7,bN⟩:=h;change o=some t at E;change 0<=u at a7;change u<=9 at bN;subst E;unfold Wz;show _=A.pure (hb (t.2.getD u.toNat []) m);simp only[Option.isSome_some,A.bo,Option.getD_some];rw[A.bu (show (0:Int)<=u/\u<Int.ofNat 10 by grind)];have hm:t.2.getD u.toNat []∈t.2:=yk a7 (by omega);have ai:=ag _ hm;generalize t.2.getD u.toNat []=l at *
 rw[A.eu l (λi (b:bx×Bool)=>(m,b.2,l,(l.length:Int),(i:Int),bF,b.1,())) (λe b=>.next (if e.2<=m then (e,decide (eb e.1=1)) else b)) (λb=>.next (b.2,bF,b.1,())) (bF,false) ?_ ?_ ?_]
 ·rw[fs,A.aG,Yi];rfl
 ·rfl
 ·intro i G b;have hw:=bG (n:=(i:Int)+1) (by omega) (by omega);simp only[Prod.cZ,Prod.fb,bX,cY G,if_true,dm G,cI G,A.bo,cp,hw,V.hp,decide_eq_true_eq];by_cases he:l[i].2<=m
  ·simp_all
  ·simp only[he,if_false,A.aG,A.b3,hw];rfl
 simp
theorem Yk(c:a6)(w:z1'){u:Int}(aU:0<=u)(h:u<=9):(ns c w).getD u.toNat []=b7 c w u:=by
 have hu:u=0\/u=1\/u=2\/u=3\/u=4\/u=5\/u=6\/u=7\/u=8\/u=9:=by omega
 rcases hu with rfl | rfl | rfl | rfl | rfl | rfl | rfl | rfl | rfl | rfl<;>rfl
theorem Yl{c:a6}(aC:ha c)(w:z1'):Pt (w,ns c w):=by
 refine⟨rfl,λl ai=>?_⟩;simp only[ns,List.mem_cons,List.not_mem_nil,or_false]at ai;rcases ai with rfl | rfl | rfl | rfl | rfl | rfl | rfl | rfl | rfl | rfl<;>exact EE aC w _
theorem Ym{c:a6}(aC:ha c)(w:z1'){u t:Int}(aU:0<=u)(h:u<=9):yN.sh (iA c w,u,t)=A.pure (hb (b7 c w u) t):=by
 refine (A.bP ⟨_,rfl,Yl aC w,aU,h⟩ _).trans (congrArg A.pure ?_);show hb ((ns c w).getD u.toNat []) t=_;rw[Yk c w aU h]
theorem anu{c:a6}(aC:ha c){w:z1'}{u:Int}{e:bx}(he:e∈b7 c w u):eb e.1=1\/eb e.1=2/\ij e.1=0:=(Bf.1 (aC.Bg (EF he).1)).2.2.2.2.2
theorem Pu{c:a6}(aC:ha c){w:z1'}{u:Int}{e:bx}(he:e∈b7 c w u):0<=ij e.1/\ij e.1<=99:=(Bf.1 (aC.Bg (EF he).1)).2.2.2.2.1
theorem IH{c:a6}(aC:ha c){w:z1'}(hw:iz c w=true){u:Int}(hu:0<=u/\u<=9)(t:Int):mb (gI c w u) t=(if (hb (b7 c w u) t).2=true then ij (hb (b7 c w u) t).1.1 else -1,(hb (b7 c w u) t).1.2)/\(decide ((mb (gI c w u) t).1>=0)=(hb (b7 c w u) t).2):=by
 have e:=ans (b7 c w u) t λe he=>(anu aC he).imp id And.left;rw[Pg hw hu];refine⟨e,?_⟩;rw[e];cases W:(hb (b7 c w u) t).2 with
 | false=>simp
 | true=>
  simp only[if_true,decide_eq_true_eq];rcases Yj (b7 c w u) t with h | ⟨h,_⟩
  ·grind
  ·exact (Pu aC h).1
abbrev Bu:aN:=⟨.aA (.bH s_) (.bH br),dk,λx=>∃ k:Int,x.2=some k/\True,λx=>b1 (x.2.getD 0) 0 9999⟩
theorem Yn(x):A.le (WE yu.sh x) (Bu.sh x):=A.bw λ_=>by
 unfold WE;rw[show yu.sh (x.2.getD 0)=A.pure (b1 (x.2.getD 0) 0 9999) from rfl,A.aG]
theorem anv(x):A.le (ak7 yu.sh x) (Bu.sh x):=Yn x
def ET(t:dP)(m p:Int):Int:=(ef 0 9).foldl (λn u=>if (hb (t.2.getD u.toNat []) m).2=true then n+p else n) 0
abbrev Pv:aN:=⟨.aA (.bH yq) (.aA (.bH br) (.bH kq)),.aA br .bool,λx=>∃ (t:dP) (m:Int) (c:a6),x=(some t,some m,some c)/\Pt t/\0<=c.2.2.2.2.2.2.2.2.2.2/\c.2.2.2.2.2.2.2.2.2.2<=100000,λx=>(ET (x.1.getD ([],[])) (x.2.1.getD 0) (x.2.2.getD uU).2.2.2.2.2.2.2.2.2.2,true)⟩
theorem anw(x):A.le (WH yN.sh x) (Pv.sh x):=A.bw λh=>by
 obtain⟨t,m,c,rfl,E,U,ag⟩:=h;unfold WH;simp only[Option.getD_some];show _=A.pure (ET t m c.2.2.2.2.2.2.2.2.2.2,true);rw[A.gw (ef 0 9) (λi (n:Int)=>(some t,m,c,n,(i:Int),())) (λu n=>.next (if (hb (t.2.getD u.toNat []) m).2=true then n+c.2.2.2.2.2.2.2.2.2.2 else n)) (λn=>.next (n,())) (λi n=>0<=n/\n<=100000*(i:Int)) 0 ?_ ?_ ?_ ?_]
 ·rw[fs,A.aG];rfl
 ·rfl
 ·omega
 ·intro i G n aw;have G:i<10:=by simpa [ef]using G
  have hw:=bG (n:=(i:Int)+1) (by omega) (by omega);have gY:=bG (n:=n+c.2.2.2.2.2.2.2.2.2.2) (by omega) (by omega);have ar:decide ((i:Int)<10)=true:=by grind
  refine⟨?_,λbe de=>?_⟩
  ·simp only[ar,if_true,Ec,Int.zero_add];rw[show yN.sh (some t,(i:Int),m)=A.pure (hb (t.2.getD ((i:Int)).toNat []) m) from A.bP ⟨t,rfl,E,by simp,by grind⟩ _];simp only[A.aG,cp,hw,gY,V.hp];by_cases al:(hb (t.2.getD ((i:Int)).toNat []) m).2=true
   ·simp only[al,if_true,A.aG,A.b3,hw];rfl
   ·simp only[al,Bool.false_eq_true,if_false,A.aG,A.b3,hw];rfl
  grind
 ·intro n aw;have:(ef 0 9).length=10:=by decide
  simp[this]
theorem anx{c:a6}(aC:ha c){w:z1'}(hw:iz c w=true)(m:Int):ET (w,ns c w) m c.2.2.2.2.2.2.2.2.2.2=yz c w m*c.2.2.2.2.2.2.2.2.2.2:=by
 unfold ET yz;have key:∀ (L:z1') (n:Int),(∀ u∈L,0<=u/\u<=9)->L.foldl (λn u=>if (hb ((ns c w).getD u.toNat []) m).2=true then n+c.2.2.2.2.2.2.2.2.2.2 else n) (n*c.2.2.2.2.2.2.2.2.2.2)=(L.foldl (λn u=>if (mb (gI c w u) m).1>=0 then n+1 else n) n)*c.2.2.2.2.2.2.2.2.2.2:=by
  intro L;induction L with
  | nil=>simp
  | cons u L aI=>
   intro n h;have hu:=h u (by simp);obtain⟨_,U⟩:=IH aC hw hu m;simp only[List.foldl_cons];rw[Yk c w hu.1 hu.2];grind
 have:=key (ef 0 9) 0 λu hu=>pW.1 hu;grind
theorem anz(x):A.le (Wq wu.sh Bo.sh Bu.sh Pv.sh x) (yF.sh x):=A.bw λh=>by
 obtain⟨c,t⟩:=x;change fE c at h;unfold Wq;show _=A.pure (q3 c t);unfold q3;rw[ER (b:=b1 t 0 9999) h λhc=>A.bP ⟨t,rfl,trivial⟩ _];rcases yK c (b1 t 0 9999) with⟨E,U,ag⟩ | ⟨E,U,ag,a7⟩
 ·rw[U,ag];simp only[A.aG,List.map_nil,Ya];grind
 ·rw[E,a7];simp only[A.aG];rw[if_neg (by simp)];have aC:=l' U;have ao:=(ID.1 aC.EC).2.2.2.2.2.2;rw[wy (v:=λw=>(yz c w t*c.2.2.2.2.2.2.2.2.2.2,true)) (ES h U) λw hw=>?_,A.aG,Yb]
  ·rfl
  ·refine (A.bP ⟨(w,ns c w),t,c,rfl,Yl aC w,ao.1,ao.2⟩ _).trans (congrArg A.pure ?_);show (ET (w,ns c w) t c.2.2.2.2.2.2.2.2.2.2,true)=_;rw[anx aC (uX hw)]
theorem Yo(p:Int×Int)(m:z4')(k v:Int):fa (p::m) k v=if decide (k=p.1)=true then (p.1,v)::m else p::fa m k v:=rfl
theorem Pw(k v:Int):∀ m:z4',((m.map (·.1)).Nodup->((fa m k v).map (·.1)).Nodup)/\∀ x,x∈(fa m k v).map (·.1)<->x∈m.map (·.1)\/x=k
 | []=>by
  rw[show fa [] k v=[(k,v)] from rfl];simp
 | p::m=>by
  obtain⟨E,U⟩:=Pw k v m;rw[Yo];grind
theorem Yp(k v:Int){B:Int}:∀ m:z4',(∀ p∈m,0<=p.2/\p.2<=B)->0<=v/\v<=B->∀ p∈fa m k v,0<=p.2/\p.2<=B
 | [],_,ae,p,ao=>by
  rw[show fa [] k v=[(k,v)] from rfl,List.mem_singleton]at ao;grind
 | q::m,h,ae,p,ao=>by
  rw[Yo]at ao;split at ao
  ·grind
  ·rcases List.mem_cons.1 ao with rfl | ao
   ·grind
   ·exact Yp k v m (λx ah=>h x (by grind)) ae p ao
def lD(c:a6)(w:z1')(u t:Int):Int:=if (hb (b7 c w u) t).2=true then ij (hb (b7 c w u) t).1.1 else -1
def yO(m:z4')(k:Int):Int:=Option.getD (Option.map (λx=>x.2) (List.find? (λp=>decide (k=p.1)) m)) 0
structure Bv(L:z1')(i:Nat)(m:z4'):Prop where
 mG:(m.map (·.1)).Nodup
 mem:∀ x,x∈m.map (·.1)<->x∈L
 val:∀ p∈m,0<=p.2/\p.2<=(i:Int)
theorem Bv.add{L:z1'}{i:Nat}{m:z4'}(h:Bv L i m)(k:Int)(G:i<=60):IntKind.wrap .i64 (yO m k+1)=yO m k+1/\Bv (L++[k]) (i+1) (fa m k (yO m k+1)):=by
 have W:0<=yO m k/\yO m k<=(i:Int):=by
  unfold yO;cases au:m.find? λp=>decide (k=p.1) with
  | none=>simp
  | some p=>exact h.val p (List.mem_of_find?_eq_some au)
 refine⟨bG (by omega) (by omega),(Pw _ _ _).1 h.mG,λx=>?_,Yp _ _ _ (λp ao=>by have:=h.val p ao;omega) (by omega)⟩;rw[(Pw _ _ _).2,h.mem];simp
theorem anA{c:a6}(aC:ha c){w:z1'}(hw:iz c w=true){u:Int}(hu:0<=u/\u<=9):((b7 c w u).filter λe=>eb e.1 == 1).length<=11:=by
 have ai:=EE aC w u;by_cases ayP:(b7 c w u).length=12
 ·have E:=(Pf (IF hw hu) (by omega:1<(b7 c w u).length)).1;have E:eb (b7 c w u)[1].1=2:=E;have hm:=List.getElem_mem (by omega:1<(b7 c w u).length);have:((b7 c w u).filter λe=>eb e.1 == 1).length<(b7 c w u).length:=by
   refine List.length_filter_lt_length_iff_exists.2 ⟨_,hm,by grind⟩
  omega
 grind
theorem anB(c:a6)(w w':z1')(u:Int):(((b7 c w u).filter λe=>eb e.1 == 1).map (·.1)).Perm (((b7 c w' u).filter λe=>eb e.1 == 1).map (·.1)):=by
 have e:∀ w,((b7 c w u).filter λe=>eb e.1 == 1).map (·.1)=((b7 c w u).map (·.1)).filter λs=>eb s == 1:=λw=>by rw[List.filter_map];rfl
 rw[e,e];exact ((Pl c w u).trans (Pl c w' u).symm).filter _
theorem Px(c:a6)(w:z1')(u t:Int):lD c w u t=-1\/∃ s∈((b7 c w u).filter λe=>eb e.1 == 1).map (·.1),lD c w u t=ij s:=by
 unfold lD;rcases Yj (b7 c w u) t with h | ⟨E,U,ag⟩
 ·left;rw[h];rfl
 ·by_cases W:(hb (b7 c w u) t).2=true
  ·right;rw[if_pos W];rw[ag]at W;exact⟨_,List.mem_map.2 ⟨_,List.mem_filter.2 ⟨E,by simpa using W⟩,rfl⟩,rfl⟩
  ·left;rw[if_neg W]
theorem anC{c:a6}(aC:ha c){u t:Int}(hu:0<=u/\u<=9){K:z1'}(aw:K.Nodup)(iN:∀ x∈K,x∈(cP c).map λw=>lD c w u t):K.length<=12:=by
 cases aV:cP c with
 | nil=>
  rw[aV]at iN;cases K with
  | nil=>simp
  | cons x K=>have:=iN x (by simp);grind
 | cons w0 T=>
  have AO:iz c w0=true:=uX (by grind);have rE:K ⊆ -1::(((b7 c w0 u).filter λe=>eb e.1 == 1).map (·.1)).map ij:=by
   intro x ah;obtain⟨w,hw,rfl⟩:=List.mem_map.1 (iN x ah);rcases Px c w u t with h | ⟨s,aE,h⟩
   ·grind
   ·rw[h];exact List.mem_cons_of_mem _ (List.mem_map_of_mem ((anB c w w0 u).mem_iff.1 aE))
  have:=aw.length_le_of_subset rE;have ayQ:=anA aC AO hu;grind
abbrev Py:aN:=⟨.aA (.bH s_) (.aA (.bH br) (.bH br)),dk,λx=>∃ a b:Int,x.2=(some a,some b),λx=>wq (x.2.1.getD 0) (x.2.2.getD 0)⟩
theorem anD(x):A.le (Wx cq.sh yu.sh x) (Py.sh x):=A.bw λ_=>by
 unfold Wx;rw[amB,A.aG,show yu.sh (x.2.2.getD 0)=A.pure (b1 (x.2.2.getD 0) 0 9999) from rfl,A.ko,A.aG,v7];rfl
theorem Yq{c:a6}(aC:ha c){w:z1'}(hw:iz c w=true){u:Int}(hu:0<=u/\u<=9)(t:Int):(mb (gI c w u) t).1=lD c w u t:=by rw[(IH aC hw hu t).1];rfl
theorem anE(x):A.le (Wn wu.sh yN.sh tc.sh Ix.sh Py.sh x) (yG.sh x):=A.s4 λh=>by
 obtain⟨c,u,t⟩:=x;change fE c at h;unfold Wn;show A.cv _ λy=>y=nq c u t;unfold nq O_;rw[ER (b:=wq u t) h λhc=>A.bP ⟨u,t,rfl⟩ _];rcases yK c (wq u t) with⟨E,U,ag⟩ | ⟨E,U,ag,a7⟩
 ·rw[U,ag];simp only[A.aG];rw[if_pos (by grind)];refine A.d'.2 ?_;simp
 ·rw[E,a7];simp only[A.aG];rw[if_neg (by simp)];have aC:=l' U;have cL:(0<=u/\u<=9)/\0<=t/\t<=9999:=by
   unfold wq at ag;rw[Bool.and_eq_true,oi,oi]at ag;exact ag
  have hu:=cL.1;have hlen:=ES h U;simp only[Option.isSome_some,A.bo,Option.getD_some];show A.cv (A.bind (A.loop _ ((cP c).map (iA c),_,0,u,t,[],())) _) _;rw[A.fZ];refine (A.Ch (p:=λz=>∃ m,z=.next (m,())/\Bv ((cP c).map λw=>lD c w u t) 60 m) (λD=>∃ (i:Nat) (m:z4'),i<=(cP c).length/\D=((cP c).map (iA c),(((cP c).map (iA c)).length:Int),(i:Int),u,t,m,())/\Bv (((cP c).take i).map λw=>lD c w u t) i m) (λD=>((cP c).length - D.2.2.1).toNat) ?_ _ ⟨0,[],Nat.zero_le _,rfl,⟨.nil,by simp,by simp⟩⟩).mono ?_
  ·rintro D ⟨i,m,oP,rfl,bn⟩;by_cases G:i<(cP c).length
   ·have dA:i<((cP c).map (iA c)).length:=by grind
    have hw:=bG (n:=(i:Int)+1) (by omega) (by omega);have hm:=List.getElem_mem G;obtain⟨ca,a2⟩:=bn.add (lD c (cP c)[i] u t) (by omega);have p4:((cP c).take (i+1)).map (λw=>lD c w u t)=((cP c).take i).map (λw=>lD c w u t)++[lD c (cP c)[i] u t]:=by
     rw[List.take_add_one,List.getElem?_eq_getElem G,Option.toList_some,List.map_append];rfl
    simp only[Prod.cZ,bX,cY dA,if_true,dm dA,cI dA,A.bo,List.getElem_map];rw[Ym aC _ hu.1 hu.2,A.aG];have fin:∀ k,k=lD c (cP c)[i] u t->(∃ (ll:Nat) (dx:z4'),ll<=(cP c).length/\(((cP c).map (iA c),(((cP c).map (iA c)).length:Int),IntKind.wrap .i64 ((i:Int)+1),u,t,fa m k (IntKind.wrap .i64 (yO m k+1)),()):List (Option dP)×Int×Int×Int×Int×z4'×Unit)=((cP c).map (iA c),(((cP c).map (iA c)).length:Int),(ll:Int),u,t,dx,())/\Bv (((cP c).take ll).map λw=>lD c w u t) ll dx)/\((cP c).length - IntKind.wrap .i64 ((i:Int)+1)).toNat<((cP c).length - (i:Int)).toNat:=by
     grind
    cases W:(hb (b7 c (cP c)[i] u) t).2 with
    | true=>
     simp only[if_true];rw[A.aG,A.b3];exact A.d'.2 (fin _ (by unfold lD;grind))
    | false=>
     simp only[Bool.false_eq_true,if_false];rw[A.aG,A.b3];exact A.d'.2 (fin (-1) (by unfold lD;grind))
   ·have anF:i=(cP c).length:=by omega
    subst anF;have ar:decide (((cP c).length:Int)<(((cP c).map (iA c)).length:Int))=false:=by simp
    simp only[ar,Bool.false_eq_true,if_false,A.aG];refine A.d'.2 ⟨m,rfl,bn.mG,?_,λp ao=>by have:=bn.val p ao;omega⟩;have:=bn.mem;grind
  ·rintro z ⟨m,rfl,bn⟩;rw[A.b3];rw[show Ix.sh m=A.pure (jY (some m)) from rfl,A.aG];have anG:m.length<=12:=by
    have:=anC aC hu (t:=t) bn.mG λx ah=>(bn.mem x).1 ah;grind
   rw[show tc.sh (jY (some m))=A.pure (fu ht (m.map (·.1))) from (A.bP (Xv (by omega)) _).trans (congrArg A.pure Xw),A.aG];refine A.d'.2 ?_;have ay:fu ht (m.map (·.1))=(ef (-1) 99).filter λg=>((cP c).map λw=>(mb (gI c w u) t).1).contains g:=by
    have anH:((cP c).map λw=>(mb (gI c w u) t).1)=(cP c).map λw=>lD c w u t:=List.map_congr_left λw hw=>Yq aC (uX hw) hu t;rw[anH];have G:(ef (-1) 99).Pairwise (·<·):=by
     unfold ef;rw[List.pairwise_map];exact (List.pairwise_lt_range).imp λh=>by omega
    refine A6 ((G.filter _).imp λh=>Int.le_of_lt h) ((List.perm_ext_iff_of_nodup bn.mG ((G.filter _).imp λh=>by omega)).2 λk=>?_);rw[bn.mem,List.mem_filter,pW];simp only[List.contains_iff_mem];refine⟨λal=>⟨?_,al⟩,λal=>al.2⟩;obtain⟨w,hw,rfl⟩:=List.mem_map.1 al;rcases Px c w u t with h | ⟨s,aE,h⟩
    ·omega
    ·rw[h];obtain⟨e,he,rfl⟩:=List.mem_map.1 aE;have:=Pu aC (List.mem_filter.1 he).1;omega
   rw[ay]
def Pz(c:a6)(l:List bx)(t:Int):Bool:=(hb l t).2&&decide (ma c.2.2.2.1 (hb l t).1.2 t>=c.2.2.2.2.2.2.2.2.1)
theorem anI{c:a6}(aC:ha c){w:z1'}(hw:iz c w=true){u:Int}(hu:0<=u/\u<=9)(t:Int):Pz c (b7 c w u) t=EJ c w u t:=by
 obtain⟨E,U⟩:=IH aC hw hu t;unfold Pz EJ;grind
theorem anJ(x):A.le (Wv wu.sh yN.sh wm.sh Bu.sh x) (yH.sh x):=A.bw λh=>by
 obtain⟨c,t⟩:=x;change fE c at h;unfold Wv;show _=A.pure (nr c t);unfold nr;rw[ER (b:=b1 t 0 9999) h λhc=>A.bP ⟨t,rfl,trivial⟩ _];rcases yK c (b1 t 0 9999) with⟨E,U,ag⟩ | ⟨E,U,ag,a7⟩
 ·rw[ag];simp only[A.aG];grind
 ·rw[E,a7];simp only[A.aG];rw[if_neg (by simp),if_neg (by simp)];have aC:=l' U;have aM:=oi.1 ag;have hlen:=ES h U;have aV:∀ w∈cP c,iz c w=true:=λw hw=>uX hw;rw[A.gw (ef 0 9) (λi (b:z1'×z1')=>(some (uV c),(i:Int),c,t,b.1,b.2,())) (λu b=>.next (if decide (pa c (cP c) u t=(cP c).length)=true then b.1++[u] else b.1,if decide (pa c (cP c) u t > 0)=true then b.2++[u] else b.2)) (λb=>.next (b.1,b.2,())) (λi b=>b.1.length<=i/\b.2.length<=i) ([],[]) ?_ (by simp) ?_ ?_]
  ·rw[fs,A.aG,A.b3];have key:∀ (p q:Int->Bool) (l:z1') (a b:z1'),l.foldl (λ(z:z1'×z1') u=>(if p u=true then z.1++[u] else z.1,if q u=true then z.2++[u] else z.2)) (a,b)=(a++l.filter p,b++l.filter q):=by
    intro p q l;induction l with
    | nil=>simp
    | cons u l aI=>
     intro a b;simp only[List.foldl_cons];rw[aI];cases ao:p u<;>cases bq:q u<;>simp[ao,bq]
   rw[key (λu=>decide (pa c (cP c) u t=(cP c).length)) (λu=>decide (pa c (cP c) u t > 0))];simp
  ·rfl
  ·intro i G b iH;have G:i<10:=by simpa [ef]using G
   have hw:=bG (n:=(i:Int)+1) (by omega) (by omega);have ar:decide ((i:Int)<10)=true:=by grind
   refine⟨?_,λbe de=>?_⟩
   ·simp only[ar,if_true,Ec,Int.zero_add,Prod.cZ,Option.isSome_some,A.bo,Option.getD_some];rw[A.gw (cP c) (λk (n:Nat)=>(some (uV c),(i:Int),(n:Int),(i:Int),(cP c).map (iA c),(((cP c).map (iA c)).length:Int),(k:Int),c,t,b.1,b.2,())) (λw n=>.next (if EJ c w i t=true then n+1 else n)) (λn=>.next (some (uV c),(i:Int),(n:Int),(i:Int),c,t,b.1,b.2,())) (λk n=>n<=k) 0 ?_ (by simp) ?_ ?_]
    ·rw[fs];have key:∀ (l:List (z1')) (n:Nat),l.foldl (λn w=>if EJ c w i t=true then n+1 else n) n=n+pa c l i t:=by
      intro l;induction l with
      | nil=>intro n;rfl
      | cons w l aI=>
       intro n;simp only[List.foldl_cons];rw[aI];unfold pa;grind
     rw[key,Nat.zero_add,A.aG,A.b3];have Ce:((cP c).map (iA c)).length=(cP c).length:=List.length_map _;simp only[Prod.cZ,Prod.fb,Prod.gx,bX,Option.isSome_some,A.bo,Option.getD_some,Ce];have ez:b_ (Add.add b.1.length (Add.add 0 1)):=ft (by grind);have pr:b_ (Add.add b.2.length (Add.add 0 1)):=ft (by grind);have d1:decide ((pa c (cP c) i t:Int) > 0)=decide (pa c (cP c) i t > 0):=by simp
     have d2:decide ((pa c (cP c) i t:Int)=((cP c).length:Int))=decide (pa c (cP c) i t=(cP c).length):=by grind
     rw[d1];cases E:decide (pa c (cP c) i t > 0)<;>cases U:decide (pa c (cP c) i t=(cP c).length)<;>
      simp only[if_true,Bool.false_eq_true,if_false,A.bu ez,A.bu pr,A.aG,A.b3,Option.isSome_some,A.bo,Option.getD_some,Ce,d2,U,cp,hw,V.hp]<;>rfl
    ·rfl
    ·intro k al n aw;have wi:k<((cP c).map (iA c)).length:=by grind
     have hw:=bG (n:=(k:Int)+1) (by omega) (by omega);have gY:=bG (n:=(n:Int)+1) (by omega) (by omega);have kX:=aV _ (List.getElem_mem al);have mM:=Bl U kX;have hu:0<=(i:Int)/\(i:Int)<=9:=by omega
     have uh:=anI aC kX hu t;obtain⟨b',c8⟩:=IH aC kX hu t;refine⟨?_,λbe de=>?_⟩
     ·simp only[Prod.cZ,Prod.fb,Prod.gx,Prod.h1,Prod.jW,Prod.k4,bX,cY wi,if_true,dm wi,cI wi,A.bo,cp,hw,List.getElem_map];rw[Ym aC _ hu.1 hu.2,A.aG,<-uh];unfold Pz;cases W:(hb (b7 c (cP c)[k] (i:Int)) t).2 with
      | true=>
       have CM:Bh (c,(hb (b7 c (cP c)[k] (i:Int)) t).1.2,t):=by
        have:=amC aC mM aM.2 (u:=(i:Int)) (t:=t) (by grind);grind
       have anK:wm.sh (c,(hb (b7 c (cP c)[k] (i:Int)) t).1.2,t)=A.pure (ma c.2.2.2.1 (hb (b7 c (cP c)[k] (i:Int)) t).1.2 t):=A.bP CM _;simp only[anK,A.hR,A.e5,Bool.true_and,and_self,forall_const,A.bo,true_and];by_cases hm:ma c.2.2.2.1 (hb (b7 c (cP c)[k] (i:Int)) t).1.2 t>=c.2.2.2.2.2.2.2.2.1
       ·simp_all
       ·simp only[hm,decide_false,Bool.false_eq_true,if_false,A.aG,A.b3,hw,V.hp];rfl
      | false=>
       simp_all
     grind
    simp
   grind
  ·intro b iH;rfl
def Yr(PA:a6->A Int)(x:a6):A Bool:=
 if (decide (Int.ofNat (List.length x.1) > 20)||decide (Int.ofNat (List.length x.2.1) > 40)||decide (Int.ofNat (List.length x.2.2.1) > 60)||decide (Int.ofNat (List.length x.2.2.2.1) > 40))=true then A.pure true else A.bind (PA x) λy=>if decide (y≠0)=true then A.pure false else A.bind (A.loop (λ(D:Int×Int×a6×Unit)=>letI b:=List.getD D.2.2.1.1 (Int.toNat D.2.1) (0,0);letI a:=D.2.1<Int.ofNat (List.length D.2.2.1.1);if decide a=true then A.ad (0<=D.2.1/\a) (A.ad (0<=D.2.1/\a) (A.pure (V.next (IntKind.wrap .i64 (D.1*IntKind.wrap .i64 (Add.add (IntKind.wrap .i64 (b.2-b.1)) 1)),IntKind.wrap .i64 (Add.add D.2.1 1),D.2.2.1,())))) else A.bind (A.pure (V.next (D.1,()))) λr=>A.pure (V.done r)) (1,0,x,())) (V.bE (λ(D:Int×Unit)=>A.pure (decide (D.1 > 60))))
def mc(c:a6):Bool:=decide (c.1.length > 20)||decide (c.2.1.length > 40)||decide (c.2.2.1.length > 60)||decide (c.2.2.2.1.length > 40)||(decide (cO c=0)&&decide (ks c.1 > 60))
theorem Ys:∀ (l:z4') (n:Nat),l.foldl (λn s=>n*(s.2 - s.1+1).toNat) n=n*ks l
 | [],n=>by simp[ks]
 | s::l,n=>by simp only[List.foldl_cons,ks];rw[Ys l,Nat.mul_assoc]
abbrev wz:aN:=⟨kq,dk,j7,mc⟩
theorem anL(x):A.le (Yr h3.sh x) (wz.sh x):=A.bw λh=>by
 unfold Yr;show _=A.pure (mc x);simp only[bX];by_cases aE:(decide ((x.1.length:Int) > 20)||decide ((x.2.1.length:Int) > 40)||decide ((x.2.2.1.length:Int) > 60)||decide ((x.2.2.2.1.length:Int) > 40))=true
 ·rw[if_pos aE];refine congrArg A.pure ?_;unfold mc;grind
 ·rw[if_neg aE,show h3.sh x=A.pure (cO x) from A.bP h _,A.aG];have e:mc x=(decide (cO x=0)&&decide (ks x.1 > 60)):=by
   unfold mc;grind
  rw[e];by_cases hc:cO x=0
  ·have aC:=l' hc;rw[if_neg (by grind)];have aw:=aC.dO;rw[A.gw x.1 (λi (n:Nat)=>((n:Int),(i:Int),x,())) (λs n=>.next (n*(s.2 - s.1+1).toNat)) (λn=>.next ((n:Int),())) (λi n=>n<=61 ^ i) 1 ?_ ?_ ?_ ?_]
   ·rw[fs,Ys,Nat.one_mul,A.aG,A.b3];grind
   ·rfl
   ·simp
   ·intro i G n h0;have al:=aC.clk _ (List.getElem_mem G);have W:n<=61 ^ 3:=Nat.le_trans h0 (Nat.pow_le_pow_right (by omega) (by omega));have hw:=bG (n:=(i:Int)+1) (by omega) (by omega);have b':=bG (n:=x.1[i].2 - x.1[i].1) (by omega) (by omega);have c8:=bG (n:=x.1[i].2 - x.1[i].1+1) (by omega) (by omega);have z8:((n*(x.1[i].2 - x.1[i].1+1).toNat:Nat):Int)=(n:Int)*(x.1[i].2 - x.1[i].1+1):=by
     grind
    have hm:n*(x.1[i].2 - x.1[i].1+1).toNat<=61 ^ (i+1):=by
     rw[Nat.pow_succ];exact Nat.mul_le_mul h0 (by omega)
    have HR:n*(x.1[i].2 - x.1[i].1+1).toNat<=61 ^ 4:=Nat.le_trans hm (Nat.pow_le_pow_right (by omega) (by omega));have eW:=bG (n:=(n:Int)*(x.1[i].2 - x.1[i].1+1)) (by omega) (by omega);simp_all
   simp
  grind
theorem anM{c:a6}(h:mc c=false):fE c:=by
 unfold mc at h;simp only[Bool.or_eq_false_iff,decide_eq_false_iff_not,Bool.and_eq_false_imp,decide_eq_true_eq]at h;obtain⟨⟨⟨⟨E,U⟩,ag⟩,a7⟩,bN⟩:=h;exact⟨⟨by omega,by omega,by omega,by omega⟩,λhc=>by omega⟩
end Go.Fer.H
namespace Go.Fer
open A (V)
abbrev aL:Type:=List UInt8
abbrev bb:Type:=bJ×H.a6
abbrev wA:Type:=z2'×List (List (Int×z1'×Int×Int))×Int×Int×z2'×z1'×List dy×List dM×List Ej×Unit
abbrev Bw:Type:=Int×Bool×Option Nat
abbrev k8(l:List (aL×Bw))(a:aL)(b:Bw):List (aL×Bw):=lP (k:=.str) (v:=.st (.aA (.int .i64) (.aA .bool .eo))) l a b
def Yt(PA:H.a6->A Int)(PB:bJ->A Int)(x:bb):A Int:=
 A.bind (PB x.1) λy=>A.bind (cu (!(decide (y≠0))) (PA x.2) 0) λb4=>if (decide (y≠0)||decide (b4≠0))=true then A.pure 120 else A.pure 0
def Yu(anN:bb->A Int)(anO:bb×Unit->A (bb×Unit))(anP:Unit->A (List (aL×Int×Bool×Option Nat)))(anQ:List (aL×Int×Bool×Option Nat)×aL×bb×Unit->A (aL×bb×Unit))(x:bb×List aL):A (List aL×bb×Int):=
 letI d:=Int.ofNat (List.length x.2);A.bind (anN x.1) λy=>if decide (y≠0)=true then A.pure ([],((([],[],0,[]),[],[],[],[],0),[],[],[],[],0,0,0,0,0,0,0),y) else if decide (d > 40)=true then A.pure ([],((([],[],0,[]),[],[],[],[],0),[],[],[],[],0,0,0,0,0,0,0),2) else A.bind (anO (x.1,())) λy=>A.bind (anP ()) λb4=>A.bind (A.loop (λ(D:List (aL×Int×Bool×Option Nat)×List aL×Int×Int×List aL×Int×Int×Int×Int×Int×Int×Int×Int×Int×bb×Unit)=>letI b:=D.2.2.2;letI a:=b.2.2.2.2;letI c:=a.2.2.2.2;if decide (b.1<D.2.2.1)=true then A.ad (0<=b.1/\b.1<Int.ofNat (List.length D.2.1)) (A.bind (anQ (D.1,List.getD D.2.1 (Int.toNat b.1) [],c.2.2.2.1,())) (λy=>A.ad (b_ (Add.add (List.length b.2.1) (Add.add 0 1))) (A.pure (V.next (D.1,D.2.1,D.2.2.1,IntKind.wrap .i64 (Add.add b.1 1),b.2.1++[y.1],b.2.2.1,b.2.2.2.1,a.1,a.2.1,a.2.2.1,a.2.2.2.1,c.1,c.2.1,c.2.2.1,y.2.1,()))))) else A.bind (A.pure (V.next (b.2.1,b.2.2.1,b.2.2.2.1,a.1,a.2.1,a.2.2.1,a.2.2.2.1,c.1,c.2.1,c.2.2.1,c.2.2.2.1,()))) λr=>A.pure (V.done r)) (b4,x.2,d,0,[],0,0,0,0,0,0,0,0,0,y.1,())) (V.bE (λ(D:List aL×Int×Int×Int×Int×Int×Int×Int×Int×Int×bb×Unit)=>A.ad True (A.pure (D.1,D.2.2.2.2.2.2.2.2.2.2.1,0))))
def Yv(El:bJ->A Int)(A1:H.a6->A Int)(x:bb):A Int:=
 A.bind (El x.1) λy=>A.bind (cu (!(decide (y≠0))) (A1 x.2) 0) λb4=>if (decide (y≠0)||decide (b4≠0))=true then A.pure 120 else A.pure 0
def Yw(PC:H.a6×z7'×z1'->A (H.a6×Int))(Yx:bJ->A bJ)(x:bb×Unit):A (bb×Unit):=
 A.bind (PC (x.1.2,[],[])) λy=>A.ad (Yx x.1.1).b2 (A.pure ((A.val (Yx x.1.1) (([],[],0,[]),[],[],[],[],0),y.1),()))
def anR(x:Unit):A (List (aL×Int×Bool×Option Nat)):=
 A.pure (k8 (k8 (k8 (k8 (k8 (k8 (k8 (k8 (k8 (k8 (k8 (k8 (k8 (k8 (k8 (k8 (k8 (k8 (k8 (k8 [] [108,101,110,100] (5,false,some 119)) [98,97,99,107] (4,false,some 120)) [118,111,105,100] (1,false,some 121)) [108,97,115,116,115] (1,false,some 122)) [102,101,101] (1,false,some 123)) [111,119,101,115] (1,false,some 124)) [104,101,108,100] (1,false,some 125)) [119,104,101,114,101] (2,false,some 126)) [109,105,115,115,105,110,103] (1,false,some 127)) [116,114,105,97,108] (4,false,some 128)) [102,105,116,115] (3,false,some 129)) [115,116,111,99,107] (2,false,some 130)) [99,111,109,101,115] (3,false,some 131)) [112,105,101,99,101] (4,true,some 132)) [119,105,115,104] (5,true,some 133)) [100,114,111,112] (1,false,some 134)) [99,97,110] (1,false,some 135)) [116,97,107,101,115] (0,true,some 136)) [109,111,115,116] (0,false,some 137)) [101,120,116,114,97] (0,false,some 138))
def Yy(anS:aL×aL->A (List aL))(anT:aL->A (Int×Bool))(anU:Nat->z1'×bb×Unit->A (aL×bb×Unit))(x:List (aL×Int×Bool×Option Nat)×aL×bb×Unit):A (aL×bb×Unit):=
 A.bind (anS (x.2.1,[32])) λy=>letI b:=Int.ofNat (List.length y);letI f:=IntKind.wrap .i64 (b-1);letI d:=List.drop (Int.toNat 1) (List.take (Int.toNat b) y);letI a:=Option.map (λx=>x.2) (List.find? (λp=>decide (List.getD y (Int.toNat 0) []=p.1)) x.1);letI c:=Option.getD a (0,false,none);A.ad ((0:Int)<=0/\0<b) (if (!(Option.isSome a)||decide (f<c.1)||decide (f > c.1)&&!c.2.1)=true then A.pure ([63],x.2.2.1,()) else A.bind (A.ad ((0:Int)<=1/\1<=b/\b<=b) (A.loop (λ(D:List aL×Int×Int×(Int×Bool×Option Nat)×z1'×bb×Unit)=>letI e:=D.2.2;if decide (e.1<D.2.1)=true then A.ad (0<=e.1/\e.1<Int.ofNat (List.length D.1)) (A.bind (anT (List.getD D.1 (Int.toNat e.1) [])) (λy=>if (!y.2)=true then A.bind (A.bind (A.pure ([63],e.2.2.2.1,())) (λr=>A.pure (V.done r))) λr=>A.pure (V.done r) else A.ad (b_ (Add.add (List.length e.2.2.1) (Add.add 0 1))) (A.pure (V.next (D.1,D.2.1,IntKind.wrap .i64 (Add.add e.1 1),e.2.1,e.2.2.1++[y.1],e.2.2.2.1,()))))) else A.bind (A.pure (V.next (e.2.1,e.2.2.1,e.2.2.2.1,()))) λr=>A.pure (V.done r)) (d,Int.ofNat (List.length d),0,c,[],x.2.2.1,()))) (V.bE (λ(D:(Int×Bool×Option Nat)×z1'×bb×Unit)=>A.bind (A.ad (∃ (k:Nat),List.Mem k [119,120,121,122,123,124,125,126,127,128,129,130,131,132,133,134,135,136,137,138]/\D.1.2.2=some k) (anU (Option.getD D.1.2.2 0) (D.2.1,D.2.2.1,()))) λy=>A.pure (y.1,y.2.1,()))))
def Yz(EU:z7'×z1'×bb×Unit->A (aL×bb×Unit))(x:z1'×bb×Unit):A (aL×bb×Unit):=
 letI a:=Int.ofNat (List.length x.1);A.ad ((0:Int)<=0/\0<a) (A.ad ((0:Int)<=1/\1<a) (A.ad ((0:Int)<=2/\2<a) (A.ad ((0:Int)<=3/\3<a) (A.ad ((0:Int)<=4/\4<a) (A.bind (EU ([(List.getD x.1 (Int.toNat 0) 0,List.getD x.1 (Int.toNat 1) 0,List.getD x.1 (Int.toNat 2) 0,1,List.getD x.1 (Int.toNat 3) 0,List.getD x.1 (Int.toNat 4) 0)],[],x.2.1,())) (λy=>A.pure (y.1,y.2.1,())))))))
def YA(PC:H.a6×z7'×z1'->A (H.a6×Int))(x:z7'×z1'×bb×Unit):A (aL×bb×Unit):=
 A.ad True (A.bind (PC (x.2.2.1.2,x.1,x.2.1)) (λy=>if decide (y.2≠0)=true then A.pure ([110,111],x.2.2.1,()) else A.ad True (A.pure ([111,107],(x.2.2.1.1,y.1),()))))
def YB(EU:z7'×z1'×bb×Unit->A (aL×bb×Unit))(x:z1'×bb×Unit):A (aL×bb×Unit):=
 letI a:=Int.ofNat (List.length x.1);A.ad ((0:Int)<=0/\0<a) (A.ad ((0:Int)<=1/\1<a) (A.ad ((0:Int)<=2/\2<a) (A.ad ((0:Int)<=3/\3<a) (A.bind (EU ([(List.getD x.1 (Int.toNat 0) 0,List.getD x.1 (Int.toNat 1) 0,List.getD x.1 (Int.toNat 2) 0,2,List.getD x.1 (Int.toNat 3) 0,0)],[],x.2.1,())) (λy=>A.pure (y.1,y.2.1,()))))))
def YC(EU:z7'×z1'×bb×Unit->A (aL×bb×Unit))(x:z1'×bb×Unit):A (aL×bb×Unit):=
 A.bind (EU ([],x.1,x.2.1,())) λy=>A.pure (y.1,y.2.1,())
def YD(EV:H.a6×Int->A ((Int×Int)×Int))(r3:(Int×Int)×Int->A aL)(x:z1'×bb×Unit):A (aL×bb×Unit):=
 letI a:=(x.2.1.2,List.getD x.1 (Int.toNat 0) 0);A.ad True (A.ad ((0:Int)<=0/\0<Int.ofNat (List.length x.1)) (A.ad (EV a).b2 (A.ad (r3 (A.val (EV a) ((0,0),0))).b2 (A.pure (A.val (r3 (A.val (EV a) ((0,0),0))) [],x.2.1,())))))
def YE(oo:Int×z1'->A aL)(x:(Int×Int)×Int):A aL:=
 A.bind (oo (x.2,[x.1.1,x.1.2])) λy=>A.pure y
def YF(Bx:z1'->A aL)(x:Int×z1'):A aL:=
 if decide (x.1=0)=true then A.bind (Bx x.2) λy=>A.pure y else if decide (x.1=3)=true then A.pure [110,111,110,101] else A.pure [110,111]
def YG(anV:Int->A aL)(anW:List aL×aL->A aL)(x:z1'):A aL:=
 letI b:=Int.ofNat (List.length x);if decide (b=0)=true then A.pure [110,111,110,101] else A.bind (A.loop (λ(D:z1'×Int×Int×List aL×Unit)=>letI a:=D.2.2;if decide (a.1<D.2.1)=true then A.ad (0<=a.1/\a.1<Int.ofNat (List.length D.1)) (A.bind (anV (List.getD D.1 (Int.toNat a.1) 0)) (λy=>A.ad (b_ (Add.add (List.length a.2.1) (Add.add 0 1))) (A.pure (V.next (D.1,D.2.1,IntKind.wrap .i64 (Add.add a.1 1),a.2.1++[y],()))))) else A.bind (A.pure (V.next (a.2.1,()))) λr=>A.pure (V.done r)) (x,b,0,[],())) (V.bE (λ(D:List aL×Unit)=>A.bind (anW (D.1,[32])) λy=>A.pure y))
def YH(EW:H.a6×Int->A ((Int×Int)×Int))(r3:(Int×Int)×Int->A aL)(x:z1'×bb×Unit):A (aL×bb×Unit):=
 letI a:=(x.2.1.2,List.getD x.1 (Int.toNat 0) 0);A.ad True (A.ad ((0:Int)<=0/\0<Int.ofNat (List.length x.1)) (A.ad (EW a).b2 (A.ad (r3 (A.val (EW a) ((0,0),0))).b2 (A.pure (A.val (r3 (A.val (EW a) ((0,0),0))) [],x.2.1,())))))
def YI(EX:H.a6×Int->A ((Int×Int)×Int))(r3:(Int×Int)×Int->A aL)(x:z1'×bb×Unit):A (aL×bb×Unit):=
 letI a:=(x.2.1.2,List.getD x.1 (Int.toNat 0) 0);A.ad True (A.ad ((0:Int)<=0/\0<Int.ofNat (List.length x.1)) (A.ad (EX a).b2 (A.ad (r3 (A.val (EX a) ((0,0),0))).b2 (A.pure (A.val (r3 (A.val (EX a) ((0,0),0))) [],x.2.1,())))))
def YJ(EY:H.a6×Int->A ((Int×Int)×Int))(r3:(Int×Int)×Int->A aL)(x:z1'×bb×Unit):A (aL×bb×Unit):=
 letI a:=(x.2.1.2,List.getD x.1 (Int.toNat 0) 0);A.ad True (A.ad ((0:Int)<=0/\0<Int.ofNat (List.length x.1)) (A.ad (EY a).b2 (A.ad (r3 (A.val (EY a) ((0,0),0))).b2 (A.pure (A.val (r3 (A.val (EY a) ((0,0),0))) [],x.2.1,())))))
def YK(nw:H.a6×Int×Int->A (z1'×Int))(oo:Int×z1'->A aL)(Bx:z1'->A aL)(x:z1'×bb×Unit):A (aL×bb×Unit):=
 letI b:=Int.ofNat (List.length x.1);letI a:=(x.2.1.2,List.getD x.1 (Int.toNat 0) 0,List.getD x.1 (Int.toNat 1) 0);A.ad True (A.ad ((0:Int)<=0/\0<b) (A.ad ((0:Int)<=1/\1<b) (A.ad (nw a).b2 (A.ad ((!(decide ((A.val (nw a) ([],0)).2≠0)))=true->((!(decide ((A.val (nw a) ([],0)).2≠0)))=true/\True)/\((0:Int)<=0/\0<Int.ofNat (List.length (A.val (nw a) ([],0)).1))/\True) (if (decide ((A.val (nw a) ([],0)).2≠0)||decide (List.getD (A.val (nw a) ([],0)).1 (Int.toNat 0) (0:Int)>=0))=true then A.bind (oo ((A.val (nw a) ([],0)).2,(A.val (nw a) ([],0)).1)) λy=>A.pure (y,x.2.1,()) else if decide (Int.ofNat (List.length (A.val (nw a) ([],0)).1)=1)=true then A.pure ([115,104,111,112],x.2.1,()) else A.ad ((0:Int)<=1/\1<=Int.ofNat (List.length (A.val (nw a) ([],0)).1)/\Int.ofNat (List.length (A.val (nw a) ([],0)).1)<=Int.ofNat (List.length (A.val (nw a) ([],0)).1)) (A.bind (Bx (List.drop (Int.toNat 1) (List.take (Int.toNat (Int.ofNat (List.length (A.val (nw a) ([],0)).1))) (A.val (nw a) ([],0)).1))) (λy=>A.ad (b_ (Add.add (Add.add (Add.add (Add.add (Add.add (Add.add 0 1) 1) 1) 1) 1) (List.length y))) (A.pure ([115,104,111,112,32]++y,x.2.1,())))))))))
def YL(yP:H.a6×Int->A (z1'×z1'×Int))(oo:Int×z1'->A aL)(Bx:z1'->A aL)(x:z1'×bb×Unit):A (aL×bb×Unit):=
 letI a:=(x.2.1.2,List.getD x.1 (Int.toNat 0) 0);A.ad True (A.ad ((0:Int)<=0/\0<Int.ofNat (List.length x.1)) (A.ad (yP a).b2 (if decide ((A.val (yP a) ([],[],0)).2.2≠0)=true then A.bind (oo ((A.val (yP a) ([],[],0)).2.2,[])) λy=>A.pure (y,x.2.1,()) else A.bind (Bx (A.val (yP a) ([],[],0)).1) λy=>A.ad (b_ (Add.add (List.length y) (Add.add (Add.add (Add.add 0 1) 1) 1))) (A.bind (Bx (A.val (yP a) ([],[],0)).2.1) (λb4=>A.ad (b_ (Add.add (List.length (y++[32,47,32])) (List.length b4))) (A.pure (y++[32,47,32]++b4,x.2.1,())))))))
def YM(Ib:bA×Int->A ((Int×Int)×Int))(uY:bJ×Unit->A (wA))(Eh:z2'×List (List (Int×z1'×Int×Int))×Int×z2'->A Int)(x:z1'×bb×Unit):A (aL×bb×Unit):=
 letI c:=List.getD x.1 (Int.toNat 0) 0;letI b:=Int.ofNat (List.length x.1);A.ad True (A.bind (uY (x.2.1.1,())) (λy=>letI d:=y.2.2.2.2;letI a:=(y.1,y.2.1,y.2.2.1,d.1++[(c,List.getD x.1 (Int.toNat 1) 0,List.getD x.1 (Int.toNat 2) 0,List.getD x.1 (Int.toNat 3) 0)]);A.ad True (A.ad ((0:Int)<=0/\0<b) (A.ad ((0:Int)<=1/\1<b) (A.ad ((0:Int)<=2/\2<b) (A.ad ((0:Int)<=3/\3<b) (A.ad (b_ (Add.add (List.length d.1) (Add.add 0 1))) (A.ad True (A.ad True (A.bind (Eh a) (λb4=>if decide (b4≠0)=true then A.pure ([110,111],x.2.1,()) else A.ad True (A.ad ((0:Int)<=0/\0<b) (A.ad (Ib (a,c)).b2 (if decide ((A.val (Ib (a,c)) ((0,0),0)).2≠0)=true then A.pure ([108,105,97,114],x.2.1,()) else A.ad True (A.pure ([111,107],((a,d.2.1,d.2.2.1,d.2.2.2.1,d.2.2.2.2.1,y.2.2.2.1),x.2.1.2),()))))))))))))))))
def YN(s6:bA×Int×Int×Int->A (Int×Int))(oo:Int×z1'->A aL)(x:z1'×bb×Unit):A (aL×bb×Unit):=
 letI b:=Int.ofNat (List.length x.1);letI a:=(x.2.1.1.1,List.getD x.1 (Int.toNat 0) 0,List.getD x.1 (Int.toNat 1) 0,List.getD x.1 (Int.toNat 2) 0);A.ad True (A.ad ((0:Int)<=0/\0<b) (A.ad ((0:Int)<=1/\1<b) (A.ad ((0:Int)<=2/\2<b) (A.ad (s6 a).b2 (if decide ((A.val (s6 a) (0,0)).2≠0)=true then A.bind (oo ((A.val (s6 a) (0,0)).2,[])) λy=>A.pure (y,x.2.1,()) else A.ad (0<=(A.val (s6 a) (0,0)).1/\(A.val (s6 a) (0,0)).1<Int.ofNat 4) (A.pure (List.getD [[],[115,117,114,101,108,121],[110,101,118,101,114],[112,101,114,104,97,112,115]] (Int.toNat (A.val (s6 a) (0,0)).1) [],x.2.1,())))))))
def YO(uY:bJ×Unit->A (wA))(yQ:bJ×bb×Unit->A (aL×bb×Unit))(x:z1'×bb×Unit):A (aL×bb×Unit):=
 letI c:=Int.ofNat (List.length x.1);letI a:=List.getD x.1 (Int.toNat 0) 0;A.ad True (A.bind (uY (x.2.1.1,())) (λy=>letI d:=y.2.2.2.2.2;letI b:=Int.ofNat (List.length d.1);A.ad ((0:Int)<=0/\0<c) (if decide (a>=b)=true then A.pure ([110,111],x.2.1,()) else A.ad ((0:Int)<=0/\0<c) (A.ad (0<=a/\a<b) (A.ad ((0:Int)<=1/\1<c) (A.ad (0<=a/\a<b) (A.bind (yQ (((y.1,y.2.1,y.2.2.1,y.2.2.2.2.1),List.set d.1 (Int.toNat a) (IntKind.wrap .i64 (Add.add (List.getD d.1 (Int.toNat a) 0) (List.getD x.1 (Int.toNat 1) 0))),d.2.1,d.2.2.1,d.2.2.2.1,y.2.2.2.1),x.2.1,())) (λy=>A.pure (y.1,y.2.1,())))))))))
def YP(El:bJ->A Int)(x:bJ×bb×Unit):A (aL×bb×Unit):=
 A.bind (El x.1) λy=>if decide (y≠0)=true then A.pure ([110,111],x.2.1,()) else A.ad True (A.pure ([111,107],(x.1,x.2.1.2),()))
def YQ(uY:bJ×Unit->A (wA))(yQ:bJ×bb×Unit->A (aL×bb×Unit))(x:z1'×bb×Unit):A (aL×bb×Unit):=
 letI a:=Int.ofNat (List.length x.1);A.ad True (A.bind (uY (x.2.1.1,())) (λy=>letI b:=y.2.2.2.2.2;A.ad ((0:Int)<=0/\0<a) (A.ad ((0:Int)<=1/\1<a) (A.ad ((0:Int)<=2/\2<a) (A.ad (b_ (Add.add (List.length b.2.2.2.1) (Add.add 0 1))) (A.bind (yQ (((y.1,y.2.1,y.2.2.1,y.2.2.2.2.1),b.1,b.2.1,b.2.2.1,b.2.2.2.1++[(List.getD x.1 (Int.toNat 0) 0,List.getD x.1 (Int.toNat 1) 0,List.getD x.1 (Int.toNat 2) 0)],y.2.2.2.1),x.2.1,())) (λy=>A.pure (y.1,y.2.1,()))))))))
def YR(uY:bJ×Unit->A (wA))(yQ:bJ×bb×Unit->A (aL×bb×Unit))(x:z1'×bb×Unit):A (aL×bb×Unit):=
 letI a:=Int.ofNat (List.length x.1);A.ad True (A.bind (uY (x.2.1.1,())) (λy=>letI b:=y.2.2.2.2.2;A.ad ((0:Int)<=0/\0<a) (A.ad ((0:Int)<=1/\1<a) (A.ad ((0:Int)<=2/\2<a) (A.ad ((0:Int)<=3/\3<a) (A.ad ((0:Int)<=4/\4<=a/\a<=a) (A.ad (b_ (Add.add (List.length b.2.1) (Add.add 0 1))) (A.bind (yQ (((y.1,y.2.1,y.2.2.1,y.2.2.2.2.1),b.1,b.2.1++[(List.getD x.1 (Int.toNat 0) 0,List.getD x.1 (Int.toNat 1) 0,List.getD x.1 (Int.toNat 2) 0,List.getD x.1 (Int.toNat 3) 0,List.drop (Int.toNat 4) (List.take (Int.toNat a) x.1))],b.2.2.1,b.2.2.2.1,y.2.2.2.1),x.2.1,())) (λy=>A.pure (y.1,y.2.1,()))))))))))
def YS(uY:bJ×Unit->A (wA))(yQ:bJ×bb×Unit->A (aL×bb×Unit))(x:z1'×bb×Unit):A (aL×bb×Unit):=
 letI a:=Int.ofNat (List.length x.1);A.ad True (A.bind (uY (x.2.1.1,())) (λy=>letI b:=y.2.2.2.2.2;A.ad ((0:Int)<=0/\0<a) (A.ad ((0:Int)<=1/\1<a) (A.ad ((0:Int)<=2/\2<a) (A.ad ((0:Int)<=3/\3<a) (A.ad ((0:Int)<=4/\4<a) (A.ad ((0:Int)<=5/\5<=a/\a<=a) (A.ad (b_ (Add.add (List.length b.2.2.1) (Add.add 0 1))) (A.bind (yQ (((y.1,y.2.1,y.2.2.1,y.2.2.2.2.1),b.1,b.2.1,b.2.2.1++[(List.drop (Int.toNat 5) (List.take (Int.toNat a) x.1),(List.getD x.1 (Int.toNat 0) 0,List.getD x.1 (Int.toNat 1) 0),List.getD x.1 (Int.toNat 2) 0,List.getD x.1 (Int.toNat 3) 0,List.getD x.1 (Int.toNat 4) 0)],b.2.2.2.1,y.2.2.2.1),x.2.1,())) (λy=>A.pure (y.1,y.2.1,())))))))))))
def YT(YU:List dM->A (List dM))(anX:Int×Int×List dM×Unit->A ((Nat×Nat)×List dM×Unit))(x:z1'×bb×Unit):A (aL×bb×Unit):=
 letI c:=x.2.1.1.2.2;letI b:=List.getD x.1 (Int.toNat 0) 0;letI a:=(0:Int)<=0/\0<Int.ofNat (List.length x.1);A.ad a (A.ad True (if decide (b>=Int.ofNat (List.length c.2.1))=true then A.pure ([110,111],x.2.1,()) else A.ad True (A.ad (YU c.2.1).b2 (A.ad a (A.ad a (A.bind (anX (b,IntKind.wrap .i64 (Add.add b 1),A.val (YU c.2.1) [],())) (λy=>A.ad True (A.pure ([111,107],((x.2.1.1.1,x.2.1.1.2.1,c.1,List.drop y.1.1 (List.take y.1.2 y.2.1),c.2.2),x.2.1.2),())))))))))
def YV(EZ:bJ×Int->A (z1'×Int))(oo:Int×z1'->A aL)(x:z1'×bb×Unit):A (aL×bb×Unit):=
 letI a:=(x.2.1.1,List.getD x.1 (Int.toNat 0) 0);A.ad True (A.ad ((0:Int)<=0/\0<Int.ofNat (List.length x.1)) (A.ad (EZ a).b2 (A.bind (oo ((A.val (EZ a) ([],0)).2,(A.val (EZ a) ([],0)).1)) (λy=>A.pure (y,x.2.1,())))))
def YW(anY:bJ×z1'->A (Int×Int))(anZ:z1'×Unit->A (z1'×Unit))(oo:Int×z1'->A aL)(x:z1'×bb×Unit):A (aL×bb×Unit):=
 A.bind (anZ (x.1,())) λy=>A.bind (A.loop (λ(D:Int×Int×z1'×bb×Unit)=>letI b:=D.2;letI a:=0<=b.1/\b.1<Int.ofNat (List.length b.2.1);if decide (b.1<D.1)=true then A.ad a (A.ad a (A.pure (V.next (D.1,IntKind.wrap .i64 (Add.add b.1 1),List.set b.2.1 (Int.toNat b.1) (IntKind.wrap .i64 (List.getD b.2.1 (Int.toNat b.1) 0-1)),b.2.2.1,())))) else A.bind (A.pure (V.next (b.2.1,b.2.2.1,()))) λr=>A.pure (V.done r)) (Int.ofNat (List.length y.1),0,y.1,x.2.1,())) (V.bE (λ(D:z1'×bb×Unit)=>A.ad True (A.bind (anY (D.2.1.1,D.1)) (λy=>A.bind (oo (y.2,[y.1])) λy=>A.pure (y,D.2.1,())))))
def YX(PD:bJ->A (Int×Int))(oo:Int×z1'->A aL)(x:z1'×bb×Unit):A (aL×bb×Unit):=
 A.ad True (A.bind (PD x.2.1.1) (λy=>A.bind (oo (y.2,[y.1])) λy=>A.pure (y,x.2.1,())))
def YY(PE:bJ->A (Int×Int))(oo:Int×z1'->A aL)(x:z1'×bb×Unit):A (aL×bb×Unit):=
 A.ad True (A.bind (PE x.2.1.1) (λy=>A.bind (oo (y.2,[y.1])) λy=>A.pure (y,x.2.1,())))
def YZ(an0:bb×List aL->A Bool)(E0:bb->A Int)(x:bb×List aL×Int):A Bool:=
 A.bind (an0 (x.1,x.2.1)) λy=>A.bind (cu (!y) (E0 x.1) 0) λb4=>A.pure (!y&&decide (b4=0)&&decide (Int.ofNat (List.length x.2.1)<=x.2.2))
def Y0(E0:bb->A Int)(an1:bJ->A Bool)(an2:H.a6->A Bool)(an3:aL->A (aL×z1'×Bool))(x:bb×List aL):A Bool:=
 A.bind (an1 x.1.1) λy=>A.bind (cu (!y) (an2 x.1.2) false) λb4=>if (y||b4||decide (Int.ofNat (List.length x.2) > 60))=true then A.pure true else A.bind (A.loop (λ(D:List aL×Int×Int×Int×Int×Int×bb×Unit)=>letI h:=D.2.2.2;letI b:=h.2.2;letI e:=b.1<Int.ofNat (List.length b.2.1.1.2.2.1);if decide e=true then A.ad (0<=b.1/\e) (A.pure (V.next (D.1,D.2.1,D.2.2.1,h.1,IntKind.wrap .i64 (Add.add h.2.1 (Int.ofNat (List.length (List.getD b.2.1.1.2.2.1 (Int.toNat b.1) (0,0,0,0,[])).2.2.2.2))),IntKind.wrap .i64 (Add.add b.1 1),b.2.1,()))) else A.bind (A.pure (V.next (D.1,D.2.1,D.2.2.1,h.1,h.2.1,b.2.1,()))) λr=>A.pure (V.done r)) (x.2,Int.ofNat (List.length x.1.1.2.2.2.1),Int.ofNat (List.length x.1.1.2.2.1),Int.ofNat (List.length x.1.1.2.2.2.2.1),0,0,x.1,())) (V.bE (λ(D:List aL×Int×Int×Int×Int×bb×Unit)=>A.bind (A.loop (λ(D:List aL×Int×Int×Int×Int×Int×bb×Unit)=>letI j:=D.2.1;letI d:=D.2.2;letI a:=d.2.2;letI i:=a.2.1;letI g:=a.2.2.1;letI f:=List.getD D.1 (Int.toNat i) [];letI c:=i<Int.ofNat (List.length D.1);if decide c=true then A.bind (A.ad (0<=i/\c) (if decide (Int.ofNat (List.length f) > 80)=true then A.bind (A.bind (A.bind (A.pure true) (λr=>A.pure (V.done r))) (λr=>A.pure (V.done r))) λr=>A.pure (V.done r) else A.ad (0<=i/\c) (A.bind (an3 f) (λy=>if (!y.2.2)=true then A.pure (V.next (D.1,j,d.1,d.2.1,a.1,i,g,())) else if decide (y.1=[119,105,115,104])=true then A.pure (V.next (D.1,IntKind.wrap .i64 (Add.add j 1),d.1,d.2.1,a.1,i,g,())) else if decide (y.1=[112,105,101,99,101])=true then A.pure (V.next (D.1,j,IntKind.wrap .i64 (Add.add d.1 1),d.2.1,IntKind.wrap .i64 (Add.add a.1 (IntKind.wrap .i64 (Int.ofNat (List.length y.2.1)-4))),i,g,())) else if decide (y.1=[99,111,109,101,115])=true then A.pure (V.next (D.1,j,d.1,IntKind.wrap .i64 (Add.add d.2.1 1),a.1,i,g,())) else A.pure (V.next (D.1,j,d.1,d.2.1,a.1,i,g,())))))) (V.bE (λ(D:List aL×Int×Int×Int×Int×Int×bb×Unit)=>letI k:=D.2.2.2;A.pure (V.next (D.1,D.2.1,D.2.2.1,k.1,k.2.1,IntKind.wrap .i64 (Add.add k.2.2.1 1),k.2.2.2.1,())))) else A.bind (A.pure (V.next (j,d.1,d.2.1,a.1,g,()))) λr=>A.pure (V.done r)) (D.1,D.2.1,D.2.2.1,D.2.2.2.1,D.2.2.2.2.1,0,D.2.2.2.2.2.1,())) (V.bE (λ(D:Int×Int×Int×Int×bb×Unit)=>A.bind (E0 D.2.2.2.2.1) λy=>A.pure (decide (y=0)&&(decide (D.1 > 3)||decide (D.2.1 > 4)||decide (D.2.2.1 > 3)||decide (D.2.2.2.1 > 4)))))))
def Y1(an4:aL->A (List aL))(an5:aL->A Int)(an6:Unit->A (List aL×z1'×z1'))(x:aL):A (aL×z1'×Bool):=
 A.bind (an4 x) λy=>A.bind (A.loop (λ(D:List aL×Int×z1'×Unit)=>letI j:=D.2.1<Int.ofNat (List.length D.1);if decide j=true then A.ad (0<=D.2.1/\j) (A.bind (an5 (List.getD D.1 (Int.toNat D.2.1) [])) (λy=>if decide (y<0)=true then A.bind (A.bind (A.pure ([],[],false)) (λr=>A.pure (V.done r))) λr=>A.pure (V.done r) else A.ad (b_ (Add.add (List.length D.2.2.1) (Add.add 0 1))) (A.pure (V.next (D.1,IntKind.wrap .i64 (Add.add D.2.1 1),D.2.2.1++[y],()))))) else A.bind (A.pure (V.next (D.1,D.2.2.1,()))) λr=>A.pure (V.done r)) (y,1,[],())) (V.bE (λ(D:List aL×z1'×Unit)=>A.bind (an6 ()) λy=>A.bind (A.loop (λ(D:List aL×List aL×z1'×z1'×Int×z1'×Unit)=>letI l:=List.getD D.1 (Int.toNat 0) [];letI h:=(0:Int)<=0/\0<Int.ofNat (List.length D.1);letI c:=D.2.2.2;letI m:=c.2.1;letI k:=Int.ofNat (List.length c.2.2.1);letI i:=m<Int.ofNat (List.length D.2.1);letI g:=Int.toNat m;letI f:=(0<=m/\m<Int.ofNat (List.length c.1))/\True;letI d:=decide (List.getD c.1 g (0:Int)<0);letI a:=decide (k>=List.getD D.2.2.1 g 0);letI e:=a=true;letI b:=(a&&!d)=true;letI n:=b->b/\True/\True;if decide i=true then A.ad (0<=m/\i) (A.ad h (if decide (List.getD D.2.1 g []=l)=true then A.ad h (A.ad (0<=m/\m<Int.ofNat (List.length D.2.2.1)) (A.ad (e->(e/\e)/\f) (A.ad (e->e/\True/\True) (A.ad (e->(e/\True)/\True/\True) (A.ad (e->True/\True/\e) (A.ad n (A.ad (b->(b/\b)/\f) (A.ad n (A.ad (b->(b/\b)/\True/\True) (A.ad (e->(e/\(d=false->b))/\True/\True) (A.ad (True/\(e->e)) (A.bind (A.bind (A.pure (l,c.2.2.1,a&&(d||decide (k<=List.getD c.1 g 0)))) (λr=>A.pure (V.done r))) (λr=>A.pure (V.done r)))))))))))))) else A.pure (V.next (D.1,D.2.1,D.2.2.1,c.1,IntKind.wrap .i64 (Add.add m 1),c.2.2.1,())))) else A.bind (A.pure (V.next ())) λr=>A.pure (V.done r)) (D.1,y.1,y.2.1,y.2.2,0,D.2.1,())) (V.bE (λ(D:Unit)=>A.pure ([],[],false)))))
def Y2(x:aL):A (List aL):=
 A.bind (A.loop (λ(D:aL×Int×List aL×Unit)=>letI g:=D.2.1;letI f:=D.2.2.1;letI e:=Int.ofNat (List.length D.1);letI c:=Int.ofNat (List.length f);letI b:=IntKind.wrap .i64 (Add.add g 1);letI d:=List.drop (Int.toNat g) (List.take (Int.toNat b) D.1);letI a:=IntKind.wrap .i64 (c-1);letI h:=List.getD f (Int.toNat a) [];if decide (g<e)=true then A.bind (A.ad (0<=g/\g<e) (if decide (Int.ofNat (List.getD D.1 (Int.toNat g) 0).1.1.1=32)=true then A.ad (b_ (Add.add (List.length f) (Add.add 0 1))) (A.pure (V.next (D.1,g,f++[[]],()))) else A.ad (0<=a/\a<c) (A.ad (0<=g/\g<=b/\b<=e) (A.ad (b_ (Add.add (List.length h) (List.length d))) (A.ad (0<=a/\a<c) (A.pure (V.next (D.1,g,List.set f (Int.toNat a) (h++d),())))))))) (V.bE (λ(D:aL×Int×List aL×Unit)=>A.pure (V.next (D.1,IntKind.wrap .i64 (Add.add D.2.1 1),D.2.2.1,())))) else A.bind (A.pure (V.next (f,()))) λr=>A.pure (V.done r)) (x,0,[[]],())) (V.bE (λ(D:List aL×Unit)=>A.pure D.1))
def Y3(x:aL):A Int:=
 letI b:=Int.ofNat (List.length x);letI g:=decide (b > 1);letI d:=decide (b=0)||decide (b > 6);A.ad ((!d&&g)=true->((!d&&g)=true/\True)/\((0:Int)<=0/\0<b)/\True) (if (d||g&&decide (Int.ofNat (List.getD x (Int.toNat 0) 0).1.1.1=48))=true then A.pure (-1) else A.bind (A.loop (λ(D:aL×Int×Int×Unit)=>letI h:=D.2.2.1;letI c:=h<Int.ofNat (List.length D.1);letI f:=0<=h/\c;letI a:=Int.ofNat (List.getD D.1 (Int.toNat h) 0).1.1.1;letI e:=(!(decide (a<48)))=true;if decide c=true then A.ad f (A.ad (e->(e/\e)/\f/\True) (if (decide (a<48)||decide (a > 57))=true then A.bind (A.bind (A.pure (-1)) (λr=>A.pure (V.done r))) λr=>A.pure (V.done r) else A.ad f (A.pure (V.next (D.1,IntKind.wrap .i64 (Add.add (IntKind.wrap .i64 (10*D.2.1)) (IntKind.wrap .i64 (IntKind.wrap .u8 (a-48)))),IntKind.wrap .i64 (Add.add h 1),()))))) else A.bind (A.pure (V.next (D.2.1,()))) λr=>A.pure (V.done r)) (x,0,0,())) (V.bE (λ(D:Int×Unit)=>A.pure D.1)))
def an7(x:Unit):A (List aL×z1'×z1'):=
 A.pure ([[108,101,110,100],[98,97,99,107],[118,111,105,100],[108,97,115,116,115],[102,101,101],[111,119,101,115],[104,101,108,100],[119,104,101,114,101],[109,105,115,115,105,110,103],[116,114,105,97,108],[102,105,116,115],[115,116,111,99,107],[99,111,109,101,115],[112,105,101,99,101],[119,105,115,104],[100,114,111,112],[99,97,110],[116,97,107,101,115],[109,111,115,116],[101,120,116,114,97]],[5,4,1,1,1,1,1,2,1,4,3,2,3,4,5,1,1,0,0,0],[5,4,1,1,1,1,1,2,1,4,3,2,3,-1,-1,1,1,-1,0,0])
def Y4(II:bb×List aL->A (List aL×bb×Int))(PF:List aL×List aL->A Bool)(an8:Unit->A bb)(x:Unit):A Bool:=
 A.bind (an8 ()) λy=>A.bind (II (y,[[108,101,110,100,32,49,32,48,32,49,48,48,32,51,32,55],[98,97,99,107,32,50,32,48,32,49,55,49,32,51],[102,101,101,32,49],[119,104,101,114,101,32,51,32,49,55,49],[116,114,105,97,108,32,49,32,48,32,48,32,48],[115,116,111,99,107,32,48,32,49],[101,120,116,114,97],[100,114,111,112,32,51],[101,120,116,114,97]])) λy=>A.bind (cu (decide (y.2.2=0)) (PF (y.1,[[111,107],[111,107],[51,48,48,32,51,48,48],[115,104,111,112],[108,105,97,114],[111,107],[49],[111,107],[48]])) false) λb4=>A.pure (decide (y.2.2=0)&&b4&&decide (Int.ofNat (List.length y.2.1.2.2.1)=2)&&decide (Int.ofNat (List.length y.2.1.1.2.2.2.1)=3))
def Y5(x:List aL×List aL):A Bool:=
 if decide (Int.ofNat (List.length x.1)≠Int.ofNat (List.length x.2))=true then A.pure false else A.bind (A.loop (λ(D:List aL×List aL×Int×Unit)=>letI a:=D.2.2.1;letI b:=a<Int.ofNat (List.length D.1);if decide b=true then A.ad (0<=a/\b) (A.ad (0<=a/\a<Int.ofNat (List.length D.2.1)) (if decide (List.getD D.1 (Int.toNat a) []≠List.getD D.2.1 (Int.toNat a) [])=true then A.bind (A.bind (A.pure false) (λr=>A.pure (V.done r))) λr=>A.pure (V.done r) else A.pure (V.next (D.1,D.2.1,IntKind.wrap .i64 (Add.add a 1),())))) else A.bind (A.pure (V.next ())) λr=>A.pure (V.done r)) (x.1,x.2,0,())) (V.bE (λ(D:Unit)=>A.pure true))
def Y6(x:Int):A aL:=
 if decide (x<0)=true then A.pure [115,104,111,112] else A.ad ((10:Int)≠0) (A.bind (A.loop (λ(D:Int×aL×Unit)=>letI a:=IntKind.wrap .i64 (Int.tdiv D.1 10);if decide (D.1>=10)=true then A.ad ((10:Int)≠0) (A.ad ((10:Int)≠0) (A.ad (b_ (Add.add (Add.add 0 1) (List.length D.2.1))) (A.pure (V.next (a,[UInt8.ofNat (Int.toNat (IntKind.wrap .u8 (IntKind.wrap .i64 (Add.add 48 (Int.tmod a 10)))))]++D.2.1,()))))) else A.bind (A.pure (V.next (D.2.1,()))) λr=>A.pure (V.done r)) (x,[UInt8.ofNat (Int.toNat (IntKind.wrap .u8 (IntKind.wrap .i64 (Add.add 48 (Int.tmod x 10)))))],())) (V.bE (λ(D:aL×Unit)=>A.pure D.1)))
def Y7(PG:Int->A aL)(x:aL×z1'):A aL:=
 A.bind (A.loop (λ(D:aL×z1'×Int×Unit)=>letI b:=D.2.2.1;letI a:=b<Int.ofNat (List.length D.2.1);if decide a=true then A.ad (0<=b/\a) (A.bind (PG (List.getD D.2.1 (Int.toNat b) 0)) (λy=>A.ad (b_ (Add.add (Add.add 0 1) (List.length y))) (A.ad (b_ (Add.add (List.length D.1) (Add.add (List.length y) 1))) (A.pure (V.next (D.1++([32]++y),D.2.1,IntKind.wrap .i64 (Add.add b 1),())))))) else A.bind (A.pure (V.next (D.1,()))) λr=>A.pure (V.done r)) (x.1,x.2,0,())) (V.bE (λ(D:aL×Unit)=>A.pure D.1))
def lE(a b:Int):Int:=if b<a then b else a
def uZ(a b:Int):Int:=if b > a then b else a
def PH(E0:bb->A Int)(II:bb×List aL->A (List aL×bb×Int))(s6:bA×Int×Int×Int->A (Int×Int))(an9:bb×List aL×Int->A Bool)(Y8:Unit->A Bool)(PF:List aL×List aL->A Bool)(nx:aL×z1'->A aL)(EV:H.a6×Int->A ((Int×Int)×Int))(EW:H.a6×Int->A ((Int×Int)×Int))(EX:H.a6×Int->A ((Int×Int)×Int))(EY:H.a6×Int->A ((Int×Int)×Int))(nw:H.a6×Int×Int->A (z1'×Int))(yP:H.a6×Int->A (z1'×z1'×Int))(EZ:bJ×Int->A (z1'×Int))(PD:bJ->A (Int×Int))(PE:bJ->A (Int×Int))(pb:z1'×Int->A aL)(wB:(Int×Int)×Int->A aL)(x:bb×List aL×Int×Int×Int×Int×Int×Int×Int×Int):A Bool:=
 letI aR:=x.2.1;letI n:=x.2.2.1;letI Y9:aL:=A.val (nx ([102,101,101],[n])) [];letI Y_:aL:=A.val (nx ([108,97,115,116,115],[n])) [];letI d:=x.2.2.2;letI gE:=d.1;letI Y':aL:=A.val (nx ([111,119,101,115],[gE])) [];letI f1:=d.2.1;letI t:=d.2.2.1;letI Za:aL:=A.val (nx ([109,105,115,115,105,110,103],[t])) [];letI Zb:aL:=A.val (nx ([119,104,101,114,101],[f1,t])) [];letI Zc:aL:=A.val (nx ([104,101,108,100],[t])) [];letI m:=d.2.2.2;letI b':=m.1;letI pZ:=m.2.1;letI z:=m.2.2;letI c2:=z.2;letI Zd:aL:=A.val (nx ([99,97,110],[c2])) [];letI ec:=z.1;letI Ze:aL:=A.val (nx ([102,105,116,115],[b',pZ,ec])) [];letI oq:List aL×bb×Int:=A.val (II (x.1,[]++aR++[Y_,Y9,Y',Zc,Zb,Za,Ze,Zd,[109,111,115,116],[101,120,116,114,97]])) ([],((([],[],0,[]),[],[],[],[],0),[],[],[],[],0,0,0,0,0,0,0),0);letI h:=decide ((oq).2.2≠0)||decide (Int.ofNat (List.length (oq).1)≠IntKind.wrap .i64 (Add.add (Int.ofNat (List.length aR)) (Int.ofNat (Add.add (Add.add (Add.add (Add.add (Add.add (Add.add (Add.add (Add.add (Add.add (Add.add 0 1) 1) 1) 1) 1) 1) 1) 1) 1) 1))));A.bind (an9 (x.1,aR,28)) λy=>if (!y||decide (lE (lE (lE (lE (lE (lE (lE n gE) f1) t) b') pZ) ec) c2<0)||decide (uZ (uZ (uZ (uZ (uZ (uZ (uZ n gE) f1) t) b') pZ) ec) c2 > 9999))=true then A.bind (Y8 ()) λy=>A.pure y else A.ad (nx ([108,97,115,116,115],[n])).b2 (A.ad (nx ([102,101,101],[n])).b2 (A.ad (nx ([111,119,101,115],[gE])).b2 (A.ad (nx ([104,101,108,100],[t])).b2 (A.ad (nx ([119,104,101,114,101],[f1,t])).b2 (A.ad (nx ([109,105,115,115,105,110,103],[t])).b2 (A.ad (nx ([102,105,116,115],[b',pZ,ec])).b2 (A.ad (nx ([99,97,110],[c2])).b2 (A.ad (b_ (Add.add 0 (List.length aR))) (A.ad (b_ (Add.add (List.length ([]++aR)) (Add.add (Add.add (Add.add (Add.add (Add.add (Add.add (Add.add (Add.add (Add.add (Add.add 0 1) 1) 1) 1) 1) 1) 1) 1) 1) 1))) (A.ad (II (x.1,[]++aR++[Y_,Y9,Y',Zc,Zb,Za,Ze,Zd,[109,111,115,116],[101,120,116,114,97]])).b2 (A.bind (cu (!h) (E0 (oq).2.1) 0) (λb4=>if (h||decide (b4≠0))=true then A.pure false else A.bind (EV ((oq).2.1.2,n)) λy=>letI ew:=y.1.1;letI cg:=y.1.2;A.bind (EW ((oq).2.1.2,n)) λdL=>letI ez:=dL.1;letI d2:=ez.1;A.bind (EX ((oq).2.1.2,gE)) λgb=>letI dO:=gb.1;A.bind (EY ((oq).2.1.2,t)) λkM=>letI dh:=kM.1;A.bind (nw ((oq).2.1.2,f1,t)) λs7=>A.bind (yP ((oq).2.1.2,t)) λuK=>A.bind (s6 ((oq).2.1.1.1,b',pZ,ec)) λyR=>A.bind (EZ ((oq).2.1.1,c2)) λIJ=>A.bind (PD (oq).2.1.1) λE1=>A.bind (PE (oq).2.1.1) λE2=>if (decide (lE (lE (lE (lE (lE (lE (lE (lE (lE (lE ew cg) d2) ez.2) dO.1) dO.2) dh.1) dh.2) E1.1) E2.1) yR.1<0)||decide (yR.1 > 3))=true then A.pure false else A.bind (pb ([],uK.2.2)) λan_=>A.bind (pb ([],yR.2)) λZf=>A.bind (if decide (uK.2.2=0)=true then A.bind (pb (uK.1,uK.2.2)) λE3=>A.ad (b_ (Add.add (List.length E3) (Add.add (Add.add (Add.add 0 1) 1) 1))) (A.bind (pb uK.2) (λZg=>A.ad (b_ (Add.add (List.length (E3++[32,47,32])) (List.length Zg))) (A.pure (V.next (aR,(oq).1,y.2,dL.2,gb.2,kM.2,s7.1,s7.2,yR.1,yR.2,IJ.1,IJ.2,E1.1,E1.2,E2.1,E2.2,E3++[32,47,32]++Zg,Zf,y.1,ez,dO,dh,()))))) else A.pure (V.next (aR,(oq).1,y.2,dL.2,gb.2,kM.2,s7.1,s7.2,yR.1,yR.2,IJ.1,IJ.2,E1.1,E1.2,E2.1,E2.2,an_,Zf,y.1,ez,dO,dh,()))) (V.bE (λ(D:List aL×List aL×Int×Int×Int×Int×z1'×Int×Int×Int×z1'×Int×Int×Int×Int×Int×aL×aL×(Int×Int)×(Int×Int)×(Int×Int)×(Int×Int)×Unit)=>letI rs:=D.2.2.2;letI d1:=rs.2.2;letI kf:=d1.2.2.2;letI o:=kf.2.2;letI t1:=o.2.2.2;letI ds:=t1.2.2.2;letI l1:=ds.2.2.2;A.bind (if decide (kf.2.1=0)=true then A.ad (0<=kf.1/\kf.1<Int.ofNat (Add.add (Add.add (Add.add (Add.add 0 1) 1) 1) 1)) (A.pure (V.next (D.1,D.2.1,D.2.2.1,rs.1,rs.2.1,d1.1,d1.2.1,d1.2.2.1,o.1,o.2.1,o.2.2.1,t1.1,t1.2.1,t1.2.2.1,ds.1,List.getD [[],[115,117,114,101,108,121],[110,101,118,101,114],[112,101,114,104,97,112,115]] (Int.toNat kf.1) [],ds.2.2.1,l1.1,l1.2.1,l1.2.2.1,()))) else A.pure (V.next (D.1,D.2.1,D.2.2.1,rs.1,rs.2.1,d1.1,d1.2.1,d1.2.2.1,o.1,o.2.1,o.2.2.1,t1.1,t1.2.1,t1.2.2.1,ds.1,ds.2.1,ds.2.2.1,l1.1,l1.2.1,l1.2.2.1,()))) (V.bE (λ(D:List aL×List aL×Int×Int×Int×Int×z1'×Int×z1'×Int×Int×Int×Int×Int×aL×aL×(Int×Int)×(Int×Int)×(Int×Int)×(Int×Int)×Unit)=>letI a2:=D.2.2.2;letI m1:=Int.ofNat (List.length D.1);letI i1:=a2.2.2;letI E:=Int.ofNat (List.length D.2.1);letI s:=i1.2.2.2.2;letI v1:=s.2.2.2;letI g1:=v1.2.2.2.2;A.ad (wB (g1.1,D.2.2.1)).b2 (A.ad (wB (g1.2.1,a2.1)).b2 (A.ad (wB (g1.2.2.1,a2.2.1)).b2 (A.ad (wB (g1.2.2.2.1,i1.1)).b2 (A.ad (pb (i1.2.1,i1.2.2.1)).b2 (A.ad (pb (i1.2.2.2.1,s.1)).b2 (A.ad (pb ([s.2.1],s.2.2.1)).b2 (A.ad (pb ([v1.1],v1.2.1)).b2 (A.ad (0<=m1/\m1<=E/\E<=E) (A.bind (PF (List.drop (Int.toNat m1) (List.take (Int.toNat E) D.2.1),[A.val (wB (g1.1,D.2.2.1)) [],A.val (wB (g1.2.1,a2.1)) [],A.val (wB (g1.2.2.1,a2.2.1)) [],A.val (wB (g1.2.2.2.1,i1.1)) [],A.val (pb (i1.2.1,i1.2.2.1)) [],v1.2.2.1,v1.2.2.2.1,A.val (pb (i1.2.2.2.1,s.1)) [],A.val (pb ([s.2.1],s.2.2.1)) [],A.val (pb ([v1.1],v1.2.1)) []])) (λy=>A.bind (cu y (Y8 ()) false) λE3=>A.pure (y&&E3)))))))))))))))))))))))))))
def Zh(an':z1'->A aL)(x:z1'×Int):A aL:=
 A.bind (A.loop (λ(D:z1'×Int×Int×Unit)=>letI b:=D.2.2.1;letI a:=b<Int.ofNat (List.length D.1);if decide a=true then A.ad (0<=b/\a) (if decide (List.getD D.1 (Int.toNat b) (0:Int)< -1)=true then A.bind (A.bind (A.pure [97,32,119,114,111,110,103,32,110,117,109,98,101,114]) (λr=>A.pure (V.done r))) λr=>A.pure (V.done r) else A.pure (V.next (D.1,D.2.1,IntKind.wrap .i64 (Add.add b 1),()))) else A.bind (A.pure (V.next (D.1,D.2.1,()))) λr=>A.pure (V.done r)) (x.1,x.2,0,())) (V.bE (λ(D:z1'×Int×Unit)=>if decide (D.2.1=0)=true then A.bind (an' D.1) λy=>A.pure y else if decide (D.2.1=3)=true then A.pure [110,111,110,101] else A.pure [110,111]))
def Zi(PG:Int->A aL)(x:z1'):A aL:=
 A.bind (A.loop (λ(D:z1'×aL×Int×Unit)=>letI a:=D.2.2.1;if decide (a<Int.ofNat (List.length D.1))=true then A.bind (if decide (a > 0)=true then A.ad (b_ (Add.add (List.length D.2.1) (Add.add 0 1))) (A.pure (V.next (D.1,D.2.1++[32],a,()))) else A.pure (V.next (D.1,D.2.1,a,()))) (V.bE (λ(D:z1'×aL×Int×Unit)=>letI b:=D.2.2.1;A.ad (0<=b/\b<Int.ofNat (List.length D.1)) (A.bind (PG (List.getD D.1 (Int.toNat b) 0)) (λy=>A.ad (b_ (Add.add (List.length D.2.1) (List.length y))) (A.pure (V.next (D.1,D.2.1++y,IntKind.wrap .i64 (Add.add b 1),()))))))) else A.bind (A.pure (V.next (D.2.1,()))) λr=>A.pure (V.done r)) (x,[],0,())) (V.bE (λ(D:aL×Unit)=>if decide (D.1=[])=true then A.pure [110,111,110,101] else A.pure D.1))
def Zj(pb:z1'×Int->A aL)(x:(Int×Int)×Int):A aL:=
 A.bind (pb ([x.1.1,x.1.2],x.2)) λy=>A.pure y
def IK{gB:Type}(c0:z2'->A (z2'))(bD:List (List (Int×z1'×Int×Int))->A (List (List (Int×z1'×Int×Int))))(c2:z2'->A (z2'))(c3:List (Int×z1'×Int×Int)×Unit->A (List (Int×z1'×Int×Int)×Unit))(c4:z1'->A (z1'))(c5:List dy->A (List dy))(lQ:List dM->A (List dM))(oM:z3'->A (z3'))(x:bJ)(fin:bJ->A gB):A gB:=
 A.ad True (A.ad (c0 x.1.1).b2 (A.ad True (A.ad (bD x.1.2.1).b2 (A.ad True (A.ad (c2 x.1.2.2.2).b2 (A.ad True (A.ad True (A.ad True (A.bind (A.ad True (A.loop (λ(D:Int×Int×Int×z1'×List dy×List dM×z3'×Int×Int×Int×z2'×List (List (Int×z1'×Int×Int))×z2'×Unit)=>letI g1:=D.2;letI s:=g1.2.2.2;letI h:=Int.toNat g1.1;letI f:=s.2.2.2;letI v:=f.2.2.2.2;if decide (g1.1<D.1)=true then A.bind (A.ad True (A.ad (0<=g1.1/\g1.1<Int.ofNat (List.length v.1)) (A.ad True (A.ad (h=h) (A.bind (c3 (List.getD v.1 h [],())) (λy=>A.ad True (A.ad (h=h) (A.ad True (A.ad (h=h) (A.loop (λ(D:Nat×Int×Int×Int×Int×Int×z1'×List dy×List dM×z3'×Int×Int×Int×z2'×(List (List (Int×z1'×Int×Int))×Nat)×z2'×List (Int×z1'×Int×Int)×Unit)=>letI g:=D.2.2.2.2;letI z:=g.2.2.2;letI a:=z.2.2.2;letI k:=a.2.2.2.2;letI u:=0<=g.1/\g.1<Int.ofNat (List.length k.2.2.1);letI e:=List.getD k.2.2.1 (Int.toNat g.1) (0,[],0,0);if decide (g.1<D.2.2.2.1)=true then A.ad True (A.ad (D.1=k.1.2) (A.ad True (A.ad (D.1=k.1.2) (A.ad u (A.ad (c4 e.2.1).b2 (A.ad u (A.pure (V.next (D.1,D.2.1,D.2.2.1,D.2.2.2.1,IntKind.wrap .i64 (Add.add g.1 1),g.2.1,g.2.2.1,z.1,z.2.1,z.2.2.1,a.1,a.2.1,a.2.2.1,a.2.2.2.1,k.1,k.2.1,List.set k.2.2.1 (Int.toNat g.1) (e.1,A.val (c4 e.2.1) [],e.2.2),()))))))))) else A.bind (A.pure (V.next (D.2.1,D.2.2.1,g.2.1,g.2.2.1,z.1,z.2.1,z.2.2.1,a.1,a.2.1,a.2.2.1,a.2.2.2.1,k.1,k.2.1,k.2.2.1,()))) λr=>A.pure (V.done r)) (h,D.1,g1.1,Int.ofNat (List.length y.1),0,g1.2.1,g1.2.2.1,s.1,s.2.1,s.2.2.1,f.1,f.2.1,f.2.2.1,f.2.2.2.1,(v.1,h),v.2.1,y.1,()))))))))))) (V.bE (λ(D:Int×Int×Int×z1'×List dy×List dM×z3'×Int×Int×Int×z2'×(List (List (Int×z1'×Int×Int))×Nat)×z2'×List (Int×z1'×Int×Int)×Unit)=>letI ds:=D.2.2.2.2;letI j:=ds.2.2.2;letI bD:=j.2.2.2.2;A.pure (V.next (D.1,IntKind.wrap .i64 (Add.add D.2.1 1),D.2.2.1,D.2.2.2.1,ds.1,ds.2.1,ds.2.2.1,j.1,j.2.1,j.2.2.1,j.2.2.2.1,List.set bD.1.1 bD.1.2 bD.2.2.1,bD.2.1,())))) else A.bind (A.pure (V.next (g1.2.1,g1.2.2.1,s.1,s.2.1,s.2.2.1,f.1,f.2.1,f.2.2.1,f.2.2.2.1,v.1,v.2.1,()))) λr=>A.pure (V.done r)) (Int.ofNat (List.length (A.val (bD x.1.2.1) [])),0,x.1.2.2.1,x.2.1,x.2.2.1,x.2.2.2.1,x.2.2.2.2.1,x.2.2.2.2.2,0,0,A.val (c0 x.1.1) [],A.val (bD x.1.2.1) [],A.val (c2 x.1.2.2.2) [],()))) (V.bE (λ(D:Int×z1'×List dy×List dM×z3'×Int×Int×Int×z2'×List (List (Int×z1'×Int×Int))×z2'×Unit)=>letI d1:=D.2.2;letI n:=d1.2.2;A.ad (c4 D.2.1).b2 (A.ad (c5 d1.1).b2 (A.ad (lQ d1.2.1).b2 (A.ad (oM n.1).b2 (A.bind (A.loop (λ(D:Int×Int×Int×Int×Int×Int×z2'×List (List (Int×z1'×Int×Int))×z2'×z1'×List dy×List dM×z3'×Unit)=>letI ay:=D.2;letI t:=ay.2.2.2;letI d:=t.2.2.2;letI w:=d.2.2.2;letI o:=0<=ay.1/\ay.1<Int.ofNat (List.length w.1);letI b:=List.getD w.1 (Int.toNat ay.1) (0,0,0,0,[]);if decide (ay.1<D.1)=true then A.ad o (A.ad (c4 b.2.2.2.2).b2 (A.ad o (A.pure (V.next (D.1,IntKind.wrap .i64 (Add.add ay.1 1),ay.2.1,ay.2.2.1,t.1,t.2.1,t.2.2.1,d.1,d.2.1,d.2.2.1,List.set w.1 (Int.toNat ay.1) (b.1,b.2.1,b.2.2.1,b.2.2.2.1,A.val (c4 b.2.2.2.2) []),w.2.1,w.2.2.1,()))))) else A.bind (A.pure (V.next (ay.2.1,ay.2.2.1,t.1,t.2.1,t.2.2.1,d.1,d.2.1,d.2.2.1,w.1,w.2.1,w.2.2.1,()))) λr=>A.pure (V.done r)) (Int.ofNat (List.length (A.val (c5 d1.1) [])),0,D.1,n.2.1,n.2.2.1,n.2.2.2.1,n.2.2.2.2.1,n.2.2.2.2.2.1,n.2.2.2.2.2.2.1,A.val (c4 D.2.1) [],A.val (c5 d1.1) [],A.val (lQ d1.2.1) [],A.val (oM n.1) [],())) (V.bE (λ(D:Int×Int×Int×Int×z2'×List (List (Int×z1'×Int×Int))×z2'×z1'×List dy×List dM×z3'×Unit)=>letI E:=D.2.2.2;letI m:=E.2.2.2;A.bind (A.loop (λ(D:Int×Int×Int×Int×Int×Int×z2'×List (List (Int×z1'×Int×Int))×z2'×z1'×List dy×List dM×z3'×Unit)=>letI f1:=D.2;letI l:=f1.2.2.2;letI c:=l.2.2.2.2;letI ca:=c.2.2.2;letI p:=0<=f1.1/\f1.1<Int.ofNat (List.length ca.1);letI i:=List.getD ca.1 (Int.toNat f1.1) ([],(0,0),0,0,0);if decide (f1.1<D.1)=true then A.ad p (A.ad (c4 i.1).b2 (A.ad p (A.pure (V.next (D.1,IntKind.wrap .i64 (Add.add f1.1 1),f1.2.1,f1.2.2.1,l.1,l.2.1,l.2.2.1,l.2.2.2.1,c.1,c.2.1,c.2.2.1,List.set ca.1 (Int.toNat f1.1) (A.val (c4 i.1) [],i.2),ca.2.1,()))))) else A.bind (A.pure (V.next (f1.2.1,f1.2.2.1,l.1,l.2.1,l.2.2.1,l.2.2.2.1,c.1,c.2.1,c.2.2.1,ca.1,ca.2.1,()))) λr=>A.pure (V.done r)) (Int.ofNat (List.length m.2.2.2.1),0,D.1,D.2.1,D.2.2.1,E.1,E.2.1,E.2.2.1,m.1,m.2.1,m.2.2.1,m.2.2.2.1,m.2.2.2.2.1,())) (V.bE (λ(D:Int×Int×Int×Int×z2'×List (List (Int×z1'×Int×Int))×z2'×z1'×List dy×List dM×z3'×Unit)=>letI q:=D.2.2.2.2.2;fin ((D.2.2.2.2.1,q.1,D.1,q.2.1),q.2.2.1,q.2.2.2.1,q.2.2.2.2.1,q.2.2.2.2.2.1,D.2.1))))))))))))))))))))
def iS(s:bJ):wA:=(s.1.1,s.1.2.1,s.1.2.2.1,s.2.2.2.2.2,s.1.2.2.2,s.2.1,s.2.2.1,s.2.2.2.1,s.2.2.2.2.1,())
def aoa(c0:z2'->A (z2'))(bD:List (List (Int×z1'×Int×Int))->A (List (List (Int×z1'×Int×Int))))(c2:z2'->A (z2'))(c3:List (Int×z1'×Int×Int)×Unit->A (List (Int×z1'×Int×Int)×Unit))(c4:z1'->A (z1'))(c5:List dy->A (List dy))(lQ:List dM->A (List dM))(oM:z3'->A (z3'))(x:bJ):A bJ:=IK c0 bD c2 c3 c4 c5 lQ oM x A.pure
def aob(c0:z2'->A (z2'))(bD:List (List (Int×z1'×Int×Int))->A (List (List (Int×z1'×Int×Int))))(c2:z2'->A (z2'))(c3:List (Int×z1'×Int×Int)×Unit->A (List (Int×z1'×Int×Int)×Unit))(c4:z1'->A (z1'))(c5:List dy->A (List dy))(lQ:List dM->A (List dM))(oM:z3'->A (z3'))(x:bJ×Unit):A wA:=IK c0 bD c2 c3 c4 c5 lQ oM x.1 λs=>A.pure (iS s)
def Zk(PB:bJ->A Int)(aoc:z2'×List (List (Int×z1'×Int×Int))×Int×z2'->A Bool)(x:bJ):A Bool:=
 A.bind (aoc x.1) λy=>if (y||decide (Int.ofNat (List.length x.2.1) > 40)||decide (Int.ofNat (List.length x.2.2.1) > 40)||decide (Int.ofNat (List.length x.2.2.2.1) > 40)||decide (Int.ofNat (List.length x.2.2.2.2.1) > 40))=true then A.pure true else A.bind (A.loop (λ(D:Int×bJ×Unit)=>letI c:=D.1<Int.ofNat (List.length D.2.1.2.2.1);if decide c=true then A.ad (0<=D.1/\c) (if decide (Int.ofNat (List.length (List.getD D.2.1.2.2.1 (Int.toNat D.1) (0,0,0,0,[])).2.2.2.2) > 40)=true then A.bind (A.bind (A.pure true) (λr=>A.pure (V.done r))) λr=>A.pure (V.done r) else A.pure (V.next (IntKind.wrap .i64 (Add.add D.1 1),D.2.1,()))) else A.bind (A.pure (V.next (D.2.1,()))) λr=>A.pure (V.done r)) (0,x,())) (V.bE (λ(D:(bA×z1'×List dy×List dM×z3'×Int)×Unit)=>A.bind (A.loop (λ(D:Int×(bA×z1'×List (Int×Int×Int×Int×z1')×List dM×z3'×Int)×Unit)=>letI b:=D.1<Int.ofNat (List.length D.2.1.2.2.2.1);if decide b=true then A.ad (0<=D.1/\b) (if decide (Int.ofNat (List.length (List.getD D.2.1.2.2.2.1 (Int.toNat D.1) ([],(0,0),0,0,0)).1) > 40)=true then A.bind (A.bind (A.pure true) (λr=>A.pure (V.done r))) λr=>A.pure (V.done r) else A.pure (V.next (IntKind.wrap .i64 (Add.add D.1 1),D.2.1,()))) else A.bind (A.pure (V.next (D.2.1,()))) λr=>A.pure (V.done r)) (0,D.1,())) (V.bE (λ(D:(bA×z1'×List dy×List (z1'×(Int×Int)×Int×Int×Int)×z3'×Int)×Unit)=>A.bind (PB D.1) λy=>if decide (y≠0)=true then A.pure false else A.bind (A.loop (λ(D:Int×Int×(bA×z1'×List dy×List dM×z3'×Int)×Unit)=>letI d:=D.2.2.1;letI a:=D.2.1<Int.ofNat (List.length d.2.2.1);if decide a=true then A.ad (0<=D.2.1/\a) (A.pure (V.next (IntKind.wrap .i64 (Add.add D.1 (Int.ofNat (List.length (List.getD d.2.2.1 (Int.toNat D.2.1) (0,0,0,0,[])).2.2.2.2))),IntKind.wrap .i64 (Add.add D.2.1 1),d,()))) else A.bind (A.pure (V.next (D.1,d,()))) λr=>A.pure (V.done r)) (0,0,D.1,())) (V.bE (λ(D:Int×(bA×z1'×List dy×List (z1'×(Int×Int)×Int×Int×Int)×z3'×Int)×Unit)=>A.pure (decide (Int.ofNat (List.length D.2.1.2.2.2.1) > 3)||decide (Int.ofNat (List.length D.2.1.2.2.1) > 4)||decide (Int.ofNat (List.length D.2.1.2.2.2.2.1) > 3)||decide (D.1 > 4))))))))
def Zl(aod:Unit->A bA)(x:Unit):A (bJ):=
 A.bind (aod ()) λy=>A.pure (y,[1,0,0,0],[(1,60,0,0,[0]),(1,60,7,0,[]),(2,65,0,1,[0]),(2,60,0,0,[0,1])],[([1],(55,65),7,3,500),([1,2],(60,60),0,5,400),([2],(60,70),9,8,700),([2],(65,65),0,5,300)],[(4,2,1),(6,3,1)],2)
abbrev br:ab:=.int .i64
abbrev dk:ab:=.bool
abbrev fP:ab:=.slice br
abbrev l9:ab:=.st (.aA br br)
abbrev kP:ab:=.st (.aA br (.aA br l9))
abbrev q4:ab:=.st (.aA br (.aA fP l9))
abbrev k9:ab:=.st (.slice q4)
abbrev j1:ab:=.st (.aA br (.aA br (.aA br br)))
abbrev lF:ab:=.st (.aA (.slice kP) (.aA (.slice k9) (.aA br (.slice j1))))
attribute [simp] qU VA v7 A.dH A.FR A.Rv A.gR A.e5 A.og A.je A.ko A.b3 A.pV cp gZ Vz V.hp
abbrev cq:aN:=⟨.aA br (.aA br br),dk,λ_=>True,λx=>decide (x.2.1<=x.1)&&decide (x.1<=x.2.2)⟩
theorem aoe(x):A.le (ajQ x) (cq.sh x):=A.bw λ_=>rfl
abbrev o9:aN:=⟨.aA fP br,dk,λx=>x.1.length<2 ^ 63,λx=>x.1.contains x.2⟩
abbrev IL:Type:=Int×Int×Int×Int
abbrev wC:Type:=Int×z1'×Int×Int
abbrev mN:Type:=Int×Int×Int×Int
def hv(w:bA):Prop:=w.1.length<2 ^ 63/\w.2.1.length<2 ^ 63/\w.2.2.2.length<2 ^ 63/\∀ m∈w.2.1,m.length<2 ^ 63/\∀ s∈m,s.2.1.length<2 ^ 63
def hd(w:bA)(n:Int):Bool:=decide (0<=n)&&decide (n<(w.1.length:Int))
def ot(w:bA)(n:Int):Bool:=decide (0<=n)&&decide (n<(w.2.1.length:Int))
def jB(w:bA)(m:Int):List wC:=w.2.1.getD m.toNat []
def iU(w:bA)(m k:Int):Bool:=ot w m&&(decide (0<=k)&&decide (k<((jB w m).length:Int)))
theorem u0{w:bA}{n:Int}:hd w n=true<->0<=n/\n<(w.1.length:Int):=by simp[hd]
theorem IM{w:bA}{n:Int}:ot w n=true<->0<=n/\n<(w.2.1.length:Int):=by simp[ot]
theorem By{w:bA}{m k:Int}:iU w m k=true<->(0<=m/\m<(w.2.1.length:Int))/\0<=k/\k<((jB w m).length:Int):=by simp[iU,ot]
theorem IN{w:bA}(hw:hv w)(m:Int):(jB w m).length<2 ^ 63:=by
 unfold jB;rw[List.getD_eq_getElem?_getD];cases h:w.2.1[m.toNat]? with
 | none=>simp
 | some x=>exact (hw.2.2.2 x (List.mem_of_getElem? h)).1
theorem r4(n m:Int):decide (n<=m - 1)=decide (n<m):=by
 grind
abbrev p7:aN:=⟨.aA lF br,dk,λx=>hv x.1,λx=>hd x.1 x.2⟩
theorem Zm(w:bA)(n:Int)(h:hv w):N5 cq.sh (w,n)=A.pure (hd w n):=by
 unfold N5;have ai:=h.1;have hw:=bG (n:=(w.1.length:Int) - 1) (by omega) (by omega);simp[aN.sh,cq,hw,hd,r4]
theorem aof(x):A.le (N5 cq.sh x) (p7.sh x):=A.bw λh=>Zm x.1 x.2 h
abbrev Bz:aN:=⟨.aA lF br,dk,λx=>hv x.1,λx=>ot x.1 x.2⟩
theorem aog(w:bA)(n:Int)(h:hv w):N8 cq.sh (w,n)=A.pure (ot w n):=by
 unfold N8;have ai:=h.2.1;have hw:=bG (n:=(w.2.1.length:Int) - 1) (by omega) (by omega);simp[aN.sh,cq,hw,ot,r4]
theorem aoh(x):A.le (N8 cq.sh x) (Bz.sh x):=A.bw λh=>aog x.1 x.2 h
abbrev r5:aN:=⟨.aA lF (.aA br br),dk,λx=>hv x.1,λx=>iU x.1 x.2.1 x.2.2⟩
theorem Zn(w:bA)(m k:Int)(h:hv w):H_ cq.sh Bz.sh (w,m,k)=A.pure (iU w m k):=by
 unfold H_;have ai:=IN h m;have hw:=bG (n:=((jB w m).length:Int) - 1) (by omega) (by omega);unfold jB at hw;simp only[aN.sh,cq,Bz,A.dH,A.je,bX,hw,r4,A.bu h];rw[A.bu,A.bu (by simp)]
 ·simp only[iU,jB];simp
 ·intro hm;exact⟨⟨hm,hm⟩,IM.1 hm,trivial⟩
theorem aoi(x):A.le (H_ cq.sh Bz.sh x) (r5.sh x):=A.bw λh=>Zn x.1 x.2.1 x.2.2 h
def wD(s:Int×Int):Bool:=(decide (0<=s.1)&&decide (s.1<=s.2))&&decide (s.2<=999)
abbrev pc:aN:=⟨l9,dk,λ_=>True,wD⟩
theorem Zo(s:Int×Int):N' cq.sh s=A.pure (wD s):=by
 unfold N';simp[aN.sh,cq,wD]
theorem aoj(x):A.le (N' cq.sh x) (pc.sh x):=A.bw λ_=>Zo x
def r2(l:z1'):Bool:=(List.range (l.length - 1)).all λi=>decide (l.getD i 0<l.getD (i+1) 0)
abbrev u1:aN:=⟨fP,dk,λx=>x.length<2 ^ 63,r2⟩
theorem Zp(l:z1')(h:l.length<2 ^ 63):N7 l=A.pure (r2 l):=by
 unfold N7;rw[A.eu (List.range (l.length - 1)) (λi (_:Unit)=>(l,((i+1:Nat):Int),())) (λi b=>if (decide (l.getD i 0<l.getD (i+1) 0))=true then .next b else .done (.done false)) (λ_=>.next ()) () ?_ ?_ ?_]
 ·rw[H5];unfold r2;cases (List.range (l.length - 1)).all λi=>decide (l.getD i 0<l.getD (i+1) 0)<;>simp
 ·simp
 ·intro i G b;have dJ:i+1<l.length:=by grind
  have hw:=bG (n:=(i:Int)+1+1) (by omega) (by omega);have gY:=bG (n:=(i:Int)+1 - 1) (by omega) (by omega);have ay:((i:Int)+1).toNat=i+1:=by omega
  have aP:((i:Int)+1 - 1).toNat=i:=by omega
  have cg:(0:Int)<=(i:Int)+1/\(i:Int)+1<(l.length:Int):=by omega
  have cJ:(0:Int)<=(i:Int)+1 - 1/\(i:Int)+1 - 1<(l.length:Int):=by omega
  simp only[bX,Int.natCast_add,Int.cast_ofNat_Int,hw,gY,cg,cJ,A.bu,ay,aP,cp,List.getElem_range,decide_eq_true_eq,if_true,A.aG,decide_true,and_self,Int.natCast_one];generalize l.getD i 0=aK;generalize l.getD (i+1) 0=B;by_cases hc:aK<B
  ·simp[hc,Int.not_le.2 hc]
  ·simp[hc,Int.not_lt.1 hc]
 ·intro b;have:¬(((List.range (l.length - 1)).length:Int)+1<(l.length:Int)):=by grind
  simp[this];omega
theorem aok(x):A.le (N7 x) (u1.sh x):=A.bw λh=>Zp x h
def q5(n:Int):Bool:=decide (0<=n)&&decide (n<=9)
def p8(s:wC):Bool:=s.2.1.all q5&&(q5 s.1&&decide ((s.2.1.length:Int)<=4)&&r2 s.2.1&&wD s.2.2)
def r6(s:IL):Bool:=q5 s.1&&q5 s.2.1&&wD s.2.2
def tq(w:bA)(t:mN):Bool:=hd w t.1&&iU w t.2.1 t.2.2.1&&(decide (0<=t.2.2.2)&&decide (t.2.2.2<=1))
def q6(m:List wC):Bool:=!decide ((m.length:Int) > 4)&&m.all p8
def wF(w:bA):Bool:=!(decide ((w.1.length:Int) > 10)||decide ((w.2.1.length:Int) > 6)||!(decide (0<=w.2.2.1)&&decide (w.2.2.1<=99))||decide ((w.2.2.2.length:Int) > 30))
def k_(w:bA):Bool:=wF w&&w.1.all r6&&w.2.1.all q6&&w.2.2.2.all (tq w)
abbrev tr:aN:=⟨q4,dk,λx=>x.2.1.length<2 ^ 63,p8⟩
theorem aol(s:wC)(h:s.2.1.length<2 ^ 63):Oa u1.sh cq.sh pc.sh s=A.pure (p8 s):=by
 unfold Oa;rw[A.eu s.2.1 (λi (_:Unit)=>((i:Int),s,())) (λn b=>if q5 n=true then .next b else .done (.done false)) (λ_=>.next (s,())) () ?_ ?_ ?_]
 ·rw[H5];unfold p8;cases s.2.1.all q5 with
  | false=>simp
  | true=>
   simp only[aN.sh,cq,u1,pc,A.bu h,q5,if_true,A.aG,A.b3,A.dH,A.je,A.bo,bX,h,implies_true,Bool.true_and];simp
 ·rfl
 ·intro i G b;have hw:=bG (n:=(i:Int)+1) (by omega) (by omega);simp[aN.sh,cq,G,hw,q5];grind
 simp
theorem aom(x):A.le (Oa u1.sh cq.sh pc.sh x) (tr.sh x):=A.bw λh=>aol x h
abbrev tt:aN:=⟨lF,dk,hv,k_⟩
theorem aon(w:bA)(h:hv w):N9 p7.sh r5.sh cq.sh pc.sh tr.sh w=A.pure (k_ w):=by
 have aE:=h;obtain⟨E,U,ag,a7⟩:=h;unfold N9;simp only[aN.sh,cq,A.je,A.dH,implies_true,A.bo,bX,qU];split
 ·rename_i hc;have:wF w=false:=by unfold wF;grind
  simp[k_,this]
 ·rename_i hc;have cU:wF w=true:=by unfold wF;grind
  have ayR:w.2.1.length<=6:=by grind
  rw[A.eu w.1 (λi (_:Unit)=>((i:Int),w,())) (λn b=>if (!q5 n.1||!q5 n.2.1||!wD n.2.2)=true then .done (.done false) else .next b) (λ_=>.next (w,())) () ?_ ?_ ?_]
  ·rw[k1 (q:=r6) _ _ (λt=>by simp only[r6,Bool.not_and])];cases iu:w.1.all r6 with
   | false=>simp[k_,iu]
   | true=>
    simp only[A.aG,if_true,A.b3];rw[A.eu w.2.1 (λi (_:Unit)=>((i:Int),w,())) (λm b=>if q6 m=true then .next b else .done (.done false)) (λ_=>.next (w,())) () ?_ ?_ ?_]
    ·rw[H5];cases aT:w.2.1.all q6 with
     | false=>simp[k_,aT]
     | true=>
      simp only[A.aG,if_true,A.b3];rw[A.eu w.2.2.2 (λi (_:Unit)=>((i:Int),w,())) (λt b=>if (!hd w t.1||!iU w t.2.1 t.2.2.1||!(decide (0<=t.2.2.2)&&decide (t.2.2.2<=1)))=true then .done (.done false) else .next b) (λ_=>.next ()) () ?_ ?_ ?_]
      ·rw[k1 (q:=tq w) _ _ (λt=>by simp only[tq,Bool.not_and])];cases jr:w.2.2.2.all (tq w)<;>simp[k_,iu,aT,jr,cU]
      ·rfl
      ·intro i G b;have hw:=bG (n:=(i:Int)+1) (by omega) (by omega);simp only[bX,cY G,if_true,dm G,cI G,A.bo,aN.sh,p7,r5,A.dH,A.je,aE,implies_true,qU,A.aG,cp,hw];exact nl (mk:=λ_:Unit=>((i:Int)+1,w,()))
      simp
    ·rfl
    ·intro i G b;have hw:=bG (n:=(i:Int)+1) (by omega) (by omega);obtain⟨kn,pQ⟩:=a7 w.2.1[i] (List.getElem_mem G);simp only[bX,Int.ofNat_lt,G,decide_true,if_true,dm G,Int.natCast_nonneg,and_self,A.bo];by_cases hlen:(w.2.1[i].length:Int) > 4
     ·simp[hlen,q6]
     ·simp only[hlen,decide_false,Bool.false_eq_true,if_false];rw[A.eu w.2.1[i] (λk (_:Unit)=>((i:Int),(k:Int),w,())) (λs b=>if (!p8 s)=true then .done (.done (.done (.done false))) else .next b) (λ_=>.next ((i:Int),w,())) () ?_ ?_ ?_]
      ·rw[k1 (q:=p8) _ _ (λ_=>rfl)];cases PI:w.2.1[i].all p8<;>simp[q6,PI,hlen,hw]
      ·rfl
      ·intro k al b;have mM:=bG (n:=(k:Int)+1) (by omega) (by omega);have BA:=pQ w.2.1[i][k] (List.getElem_mem al);simp only[bX,cY al,cY G,if_true,dm G,dm al,cI G,cI al,A.bo,tr,A.dH,BA,A.bu BA,A.aG,cp,mM];exact nl (mk:=λ_:Unit=>((i:Int),(k:Int)+1,w,()))
      simp_all
    simp
  ·rfl
  ·intro i G b;have hw:=bG (n:=(i:Int)+1) (by omega) (by omega);simp only[bX,cY G,if_true,dm G,cI G,A.bo,aN.sh,pc,A.dH,A.je,implies_true,qU,A.aG,cp,hw,Bool.not_not];exact nl (mk:=λ_:Unit=>((i:Int)+1,w,()))
  simp
theorem aoo(x):A.le (N9 p7.sh r5.sh cq.sh pc.sh tr.sh x) (tt.sh x):=A.bw λh=>aon x h
abbrev q7:mN:=(0,0,0,0)
def ny(a b:mN):Bool:=decide (a.1=b.1)&&decide (a.2.1=b.2.1)&&decide (a.2.2.1=b.2.2.1)&&decide (a.2.2.2≠b.2.2.2)
def oe(l:List mN):Bool:=(List.range l.length).all λi=>(List.range i).all λk=>!ny (l.getD k q7) (l.getD i q7)
def cO(w:bA):Int:=if k_ w=true then (if oe w.2.2.2=true then 0 else 71) else 70
theorem Zq{a b:Nat}(h:a<b):((0:Int)<=(a:Int)/\(a:Int)<(b:Int))=True:=cI h
abbrev h3:aN:=⟨lF,br,hv,cO⟩
theorem aop(w:bA)(h:hv w):N6 tt.sh w=A.pure (cO w):=by
 have aE:=h;obtain⟨E,U,ag,a7⟩:=h;unfold N6;simp only[aN.sh,tt,A.dH,A.bu aE];unfold cO;cases hw:k_ w with
 | false=>simp
 | true=>
  simp only[Bool.not_true,Bool.false_eq_true,if_false,if_true];rw[A.eu (List.range w.2.2.2.length) (λi (_:Unit)=>((i:Int),w,())) (λi b=>if (List.range i).any (λk=>ny (w.2.2.2.getD k q7) (w.2.2.2.getD i q7))=true then .done (.done (71:Int)) else .next b) (λ_=>.next ()) () ?_ ?_ ?_]
  ·rw[k1 (q:=λi=>(List.range i).all λk=>!ny (w.2.2.2.getD k q7) (w.2.2.2.getD i q7)) _ _ (λi=>VC (λk=>by simp) _)];have e:((List.range w.2.2.2.length).all λi=>(List.range i).all λk=>!ny (w.2.2.2.getD k q7) (w.2.2.2.getD i q7))=oe w.2.2.2:=rfl;rw[e];cases oe w.2.2.2<;>simp
  ·rfl
  ·intro i G b;have G:i<w.2.2.2.length:=by grind
   have h5:=bG (n:=(i:Int)+1) (by omega) (by omega);simp only[bX,cY G,if_true,List.getElem_range];rw[A.eu (List.range i) (λk (_:Unit)=>((i:Int),(k:Int),w,())) (λk b=>if ny (w.2.2.2.getD k q7) (w.2.2.2.getD i q7)=true then .done (.done (.done (.done (71:Int)))) else .next b) (λ_=>.next ((i:Int),w,())) () ?_ ?_ ?_]
   ·rw[rY];cases (List.range i).any (λk=>ny (w.2.2.2.getD k q7) (w.2.2.2.getD i q7))<;>simp[h5]
   ·rfl
   ·intro k al b;have al:k<i:=by grind
    have wi:k<w.2.2.2.length:=by omega
    have mM:=bG (n:=(k:Int)+1) (by omega) (by omega);simp only[cY al,if_true,List.getElem_range,Zq wi,Zq G,A.bo,Int.toNat_natCast,A.aG,cp,mM];exact nl (mk:=λ_:Unit=>((i:Int),(k:Int)+1,w,()))
   simp
  simp
theorem aoq(x):A.le (N6 tt.sh x) (h3.sh x):=A.bw λh=>aop x h
def gJ(w:bA)(i:Int):IL:=w.1.getD i.toNat (0,0,0,0)
def u2(w:bA)(m k:Int):wC:=(jB w m).getD k.toNat (0,[],0,0)
theorem aor{w:bA}{i:Int}(h:hd w i=true):gJ w i∈w.1:=by
 rw[u0]at h;exact yk h.1 h.2
theorem PJ{w:bA}{m k:Int}(h:iU w m k=true):jB w m∈w.2.1:=by
 rw[By]at h;exact yk h.1.1 h.1.2
theorem Zr{w:bA}{m k:Int}(h:iU w m k=true):u2 w m k∈jB w m:=by
 rw[By]at h;exact yk h.2.1 h.2.2
theorem BB{w:bA}(h:k_ w=true):wF w=true/\(∀ s∈w.1,r6 s=true)/\(∀ m∈w.2.1,q6 m=true)/\∀ t∈w.2.2.2,tq w t=true:=by
 simp only[k_,Bool.and_eq_true,List.all_eq_true]at h;grind
theorem E4{w:bA}(h:k_ w=true):w.1.length<=10/\w.2.1.length<=6/\(0<=w.2.2.1/\w.2.2.1<=99)/\w.2.2.2.length<=30:=by
 have:=(BB h).1;simp[wF]at this;omega
theorem aos{w:bA}(h:k_ w=true){m k:Int}(hm:iU w m k=true):(jB w m).length<=4:=by
 have:=(BB h).2.2.1 _ (PJ hm);simp[q6]at this;omega
theorem aot{w:bA}(h:k_ w=true){m k:Int}(hm:iU w m k=true):p8 (u2 w m k)=true:=by
 have:=(BB h).2.2.1 _ (PJ hm);simp only[q6,Bool.and_eq_true,List.all_eq_true]at this;exact this.2 _ (Zr hm)
theorem aou{s:wC}(h:p8 s=true):0<=s.2.2.1/\s.2.2.1<=s.2.2.2/\s.2.2.2<=999:=by
 simp only[p8,wD,Bool.and_eq_true,decide_eq_true_eq]at h;omega
theorem Zs{w:bA}(h:k_ w=true){i:Int}(G:hd w i=true):0<=(gJ w i).2.2.1/\(gJ w i).2.2.1<=(gJ w i).2.2.2/\(gJ w i).2.2.2<=999:=by
 have:=(BB h).2.1 _ (aor G);simp only[r6,wD,Bool.and_eq_true,decide_eq_true_eq]at this;omega
theorem aov{w:bA}(h:k_ w=true){t:mN}(aM:t∈w.2.2.2):hd w t.1=true/\iU w t.2.1 t.2.2.1=true:=by
 have:=(BB h).2.2.2 _ aM;simp only[tq,Bool.and_eq_true]at this;grind
def wG(w:bA)(i n m k:Int):Bool:=
 decide ((gJ w i).1=(u2 w m k).1)&&(u2 w m k).2.1.contains (gJ w i).2.1&&(decide ((u2 w m k).2.2.1<=n)&&decide (n<=(u2 w m k).2.2.2+w.2.2.1))
def q8(w:bA):Prop:=hv w/\k_ w=true
abbrev E5:aN:=⟨.aA lF (.aA br (.aA br (.aA br br))),dk,λx=>q8 x.1/\hd x.1 x.2.1=true/\iU x.1 x.2.2.2.1 x.2.2.2.2=true,λx=>wG x.1 x.2.1 x.2.2.1 x.2.2.2.1 x.2.2.2.2⟩
theorem aow(w:bA)(i n m k:Int)(hw:q8 w)(G:hd w i=true)(hm:iU w m k=true):VL o9.sh cq.sh (w,i,n,m,k)=A.pure (wG w i n m k):=by
 unfold VL;have cg:=u0.1 G;have cJ:=By.1 hm;have fk:=aou (aot hw.2 hm);have Si:=(E4 hw.2).2.2.1;have BA:(u2 w m k).2.1.length<2 ^ 63:=(hw.1.2.2.2 _ (PJ hm)).2 _ (Zr hm);have h5:=bG (n:=(u2 w m k).2.2.2+w.2.2.1) (by omega) (by omega);unfold wG;simp only[u2,jB,gJ]at *
 simp only[aN.sh,o9,cq,A.je,A.dH,bX,cg,cJ,and_self,A.bo,implies_true,cp,h5,v7,A.bu (λ_=>BA),BA];rfl
def u3(w:bA)(i n:Int)(t:mN):Bool:=!(decide (t.1=i)&&!decide (wG w i n t.2.1 t.2.2.1=decide (t.2.2.2=1)))
def PK(w:bA)(i n:Int):Bool:=w.2.2.2.all (u3 w i n)&&(decide ((gJ w i).2.2.1<=n)&&decide (n<=(gJ w i).2.2.2))
def hf(w:bA)(i:Int):z1':=(ef (gJ w i).2.2.1 (gJ w i).2.2.2).filter (PK w i)
theorem Zt{w:bA}{i:Int}(hw:q8 w)(G:hd w i=true):(hf w i).length<=1000:=by
 have:=Zs hw.2 G;have U:=List.length_filter_le (PK w i) (ef (gJ w i).2.2.1 (gJ w i).2.2.2);rw[yl]at U;unfold hf;omega
theorem aox{w:bA}{i:Nat}(h:i<w.1.length):hd w (i:Int)=true:=by rw[u0];omega
def wH(w:bA):Bool:=(List.range w.1.length).all λi=>!decide (((hf w (i:Int)).length:Int)=0)
def eF(w:bA)(cc:Bool):Int:=if cO w≠0 then cO w else if cc=false then 1 else if wH w=true then 0 else 3
theorem PL{w:bA}(h:cO w=0):k_ w=true:=by
 unfold cO at h;grind
theorem E6{w:bA}{cc:Bool}(h:eF w cc=0):cO w=0/\cc=true/\wH w=true:=by
 unfold eF at h;grind
theorem Zu{w:bA}{cc:Bool}(aE:hv w)(h:eF w cc=0):q8 w:=⟨aE,PL (E6 h).1⟩
theorem aoy{w:bA}(h:wH w=true){i:Int}(G:hd w i=true):0<(hf w i).length:=by
 rw[u0]at G;have:=List.all_eq_true.1 h i.toNat (by grind);grind
def wI(w:bA)(i:Int):(Int×Int)×Int:=if eF w (hd w i)≠0 then ((0,0),eF w (hd w i)) else (((hf w i).getD 0 0,(hf w i).getD ((hf w i).length - 1) 0),0)
abbrev yS:aN:=⟨.aA lF br,.aA l9 br,λx=>hv x.1,λx=>wI x.1 x.2⟩
def IP(some many:Int):Int:=if some=many then 1 else if some=0 then 2 else 3
abbrev IQ:aN:=⟨.aA br br,br,λ_=>True,λx=>IP x.1 x.2⟩
theorem Zv{ak:Type}{p:ak->Bool}:∀ (l:List ak) (n:Int),l.foldl (λn x=>if p x=true then n+1 else n) n=n+(l.countP p:Int)
 | [],n=>by simp
 | x::l,n=>by
  simp only[List.foldl_cons,List.countP_cons];rw[Zv l];grind
def u4(w:bA)(i m k:Int):Int:=IP ((hf w i).countP λn=>wG w i n m k:Int) ((hf w i).length:Int)
def me(w:bA)(i m k:Int):Int×Int:=if eF w (hd w i&&iU w m k)≠0 then (0,eF w (hd w i&&iU w m k)) else (u4 w i m k,0)
abbrev u5:aN:=⟨.aA lF (.aA br (.aA br br)),.aA br br,λx=>hv x.1,λx=>me x.1 x.2.1 x.2.2.1 x.2.2.2⟩
section
variable {ak:Type}
def yr(d:ak)(x:List ak×(ak->A Bool)):A Int:=
 A.bind (A.loop (λ(D:List ak×(ak->A Bool)×Int×Int×Unit)=>if decide (D.2.2.2.1<D.2.2.1)=true then A.ad (0<=D.2.2.2.1/\
 D.2.2.2.1<Int.ofNat (List.length D.1)) (A.bind (D.2.1 (List.getD D.1 (Int.toNat D.2.2.2.1) d)) λy=>if y=true then A.bind (A.bind (A.pure
 D.2.2.2.1) λr=>A.pure (V.done r)) λr=>A.pure (V.done r) else A.pure (V.next (D.1,D.2.1,D.2.2.1,IntKind.wrap .i64 (Add.add
 D.2.2.2.1 1),()))) else A.bind (A.pure (V.next ())) λr=>A.pure (V.done r)) (x.1,x.2,Int.ofNat (List.length x.1),0,())) (V.bE λ(D
 : Unit)=>A.pure (-1))
def Ev(c:List ak×(ak->A Bool)->A Int)(x:List ak×(ak->A Bool)):A Bool:=A.bind (c x) λy=>A.pure (decide (y>=0))
def Zw(c:List ak×(ak->A Bool)->A Bool)(bD:ak×Option (ak->A Bool)->A Bool)(x:List ak×(ak->A Bool)):A Bool:=
 A.bind (c (x.1,λhB=>bD (hB,some x.2))) λy=>A.pure !y
def Zx(x:ak×Option (ak->A Bool)):A Bool:=A.bind (Option.getD x.2 (λx=>{ b2:=False,bR:=λx=>False }) x.1) λy=>A.pure !y
def hQ(p:ak->Bool):List ak->Int->Int
 | [],_=>-1
 | x::l,i=>if p x=true then i else hQ p l (i+1)
theorem A3(p:ak->Bool):∀ (l:List ak) (i:Int),0<=i->(decide (hQ p l i>=0))=l.any p
 | [],i,_=>by rfl
 | x::l,i,h=>by
  simp only[hQ,List.any_cons];by_cases ah:p x=true
  ·grind
  ·have:=A3 p l (i+1) (by omega);grind
theorem A4(p:ak->Bool):∀ (l:List ak) (i:Int),eY (λx (i:Int)=>if p x=true then (.done (.done i):V Int (V Unit Int)) else .next (i+1)) (λ_=>.next ()) l i=if l.any p=true then .done (hQ p l i) else .next ()
 | [],i=>by rfl
 | x::l,i=>by
  simp only[eY,List.any_cons,hQ];by_cases ah:p x=true
  ·grind
  ·have:=A4 p l (i+1);grind
theorem Ew{p:ak->Bool}:∀ (l:List ak) (i:Int),¬l.any p=true->hQ p l i=-1
 | [],_,_=>rfl
 | x::l,i,aw=>by
  simp only[List.any_cons,Bool.or_eq_true,not_or]at aw;simp only[hQ,aw.1,Bool.false_eq_true,if_false];exact Ew l _ aw.2
theorem OU(d:ak)(l:List ak)(f:ak->A Bool)(h:l.length<2 ^ 63)(au:∀ y∈l,∃ b,f y=A.pure b):yr d (l,f)=A.pure (hQ (λy=>(f y).val false) l 0):=by
 unfold yr;rw[A.gw l (λi (b:Int)=>(l,f,(l.length:Int),b,())) (λy (i:Int)=>if (f y).val false=true then (.done (.done i):V Int (V Unit Int)) else .next (i+1)) (λ_=>.next ()) (λi b=>b=(i:Int)) 0 ?_ ?_ ?_ ?_]
 ·rw[A4 (λy=>(f y).val false)];by_cases a_:(l.any λy=>(f y).val false)=true
  ·simp[a_]
  ·have:hQ (λy=>(f y).val false) l 0=-1:=by
    have:∀ (l:List ak) (i:Int),¬(l.any λy=>(f y).val false)=true->hQ (λy=>(f y).val false) l i=-1:=by
     intro l;induction l with
     | nil=>intro i _;rfl
     | cons x l aI=>
      intro i aw;simp only[List.any_cons,Bool.or_eq_true,not_or]at aw;simp only[hQ,aw.1,Bool.false_eq_true,if_false];grind
    grind
   simp[a_,this]
 ·rfl
 ·rfl
 ·intro i G b W;subst W;have hw:=bG (n:=(i:Int)+1) (by omega) (by omega);refine⟨?_,λbe de=>?_⟩
  ·obtain⟨b,W⟩:=au _ (List.getElem_mem G);simp only[bX,cY G,if_true,dm G,cI G,A.bo,W,A.e5,A.aG,cp,hw];split<;>rfl
  grind
 simp
end
abbrev k6(e:ab):aN:=⟨.aA (.slice e) (.fn e .bool),br,λx=>x.1.length<2 ^ 63/\∀ y∈x.1,∃ b,x.2 y=A.pure b,λx=>hQ (λy=>(x.2 y).val false) x.1 0⟩
theorem ta(e:ab)(x):A.le (yr e.df x) ((k6 e).sh x):=A.bw λh=>OU e.df x.1 x.2 h.1 h.2
abbrev jf(e:ab):aN:=⟨.aA (.slice e) (.fn e .bool),dk,λx=>x.1.length<2 ^ 63/\∀ y∈x.1,∃ b,x.2 y=A.pure b,λx=>x.1.any λy=>(x.2 y).val false⟩
theorem tb(e:ab)(x):A.le (Ev (k6 e).sh x) ((jf e).sh x):=A.bw λh=>by
 unfold Ev;simp only[aN.sh,k6,A.dH];rw[A.bu (by exact h)];exact congrArg A.pure (A3 (λy=>(x.2 y).val false) x.1 0 (by omega))
abbrev wJ(e:ab):aN:=⟨.aA e (.bH (.fn e .bool)),dk,λx=>∃ f,x.2=some f/\∃ b,f x.1=A.pure b,λx=>!((x.2.getD λ_=>A.fail) x.1).val false⟩
theorem E7(e:ab)(x):A.le (Zx x) ((wJ e).sh x):=A.bw λh=>by
 obtain⟨y,o⟩:=x;obtain⟨f,au,b,W⟩:=h;change o=some f at au;subst au;change f y=A.pure b at W;unfold Zx;simp_all
abbrev jC(e:ab):aN:=⟨.aA (.slice e) (.fn e .bool),dk,λx=>x.1.length<2 ^ 63/\∀ y∈x.1,∃ b,x.2 y=A.pure b,λx=>x.1.all λy=>(x.2 y).val false⟩
theorem E8(e:ab)(x):A.le (Zw (jf e).sh (wJ e).sh x) ((jC e).sh x):=A.bw λh=>by
 obtain⟨l,f⟩:=x;obtain⟨E,U⟩:=h;unfold Zw;have hc:∀ y∈l,(wJ e).sh (y,some f)=A.pure (!(f y).val false):=λy aS=>by
  obtain⟨b,W⟩:=U y aS;exact A.bP ⟨f,rfl,b,W⟩ _
 simp only[aN.sh,jf,A.dH];rw[A.bu ⟨E,λy aS=>⟨_,hc y aS⟩⟩];refine congrArg A.pure ?_;rw[List.not_any_eq_all_not];simp
end Go.Fer
namespace Go.Fer
open A (V)
theorem IS{ak:Type}{p q:ak->Bool}:∀ {l:List ak},(∀ x∈l,p x=q x)->l.all p=l.all q
 | [],_=>rfl
 | x::l,h=>by
  grind
theorem aoz(x):A.le (aj9 x) (cq.sh x):=A.bw λ_=>rfl
theorem aoA(x):A.le (aj_ cq.sh x) (pc.sh x):=A.bw λ_=>Zo x
abbrev yT:aN:=⟨br,dk,λ_=>True,q5⟩
theorem aoB(x):A.le (VS cq.sh x) (yT.sh x):=A.bw λ_=>by
 unfold VS;simp only[aN.sh,cq,A.dH,A.bo,yT,q5]
theorem aoC(x):A.le (aj6 cq.sh x) (p7.sh x):=A.bw λh=>Zm x.1 x.2 h
theorem aoD(x):A.le (VQ cq.sh x) (r5.sh x):=A.bw λh=>by
 obtain⟨w,m,k⟩:=x;change hv w at h;have:=Zn w m k h;unfold H_ at this;unfold VQ;simp only[aN.sh,Bz,A.dH,A.bu h,cq,A.bo,bX]at this ⊢;have ai:=h.2.1;have hw:=bG (n:=(w.2.1.length:Int) - 1) (by omega) (by omega);simp only[hw,r4];exact this
theorem aoE(x):A.le (aj8 x) (u1.sh x):=A.bw λh=>Zp x h
theorem aoF(l:z1')(n:Int)(h:l.length<2 ^ 63):Ob (l,n)=A.pure (hQ (λy=>decide (n=y)) l 0):=by
 unfold Ob;rw[A.gw l (λi (b:Int)=>(l,n,(l.length:Int),b,())) (λy (i:Int)=>if decide (n=y)=true then (.done (.done i):V Int (V Unit Int)) else .next (i+1)) (λ_=>.next ()) (λi b=>b=(i:Int)) 0 ?_ ?_ ?_ ?_]
 ·rw[A4 (λy=>decide (n=y))];by_cases a_:(l.any λy=>decide (n=y))=true
  ·simp_all
  ·rw[if_neg a_,Ew l 0 a_];simp
 ·rfl
 ·rfl
 ·intro i G b W;subst W;have hw:=bG (n:=(i:Int)+1) (by omega) (by omega);refine⟨?_,λbe de=>?_⟩
  ·simp only[bX,cY G,if_true,dm G,cI G,A.bo,A.aG,cp,hw];split<;>rfl
  grind
 simp
abbrev IT:aN:=⟨.aA fP br,br,λx=>x.1.length<2 ^ 63,λx=>hQ (λy=>decide (x.2=y)) x.1 0⟩
theorem aoG(x):A.le (Ob x) (IT.sh x):=A.bw λh=>aoF x.1 x.2 h
theorem aoH(x):A.le (VN IT.sh x) (o9.sh x):=A.bw λh=>by
 unfold VN;simp only[aN.sh,IT,A.dH];rw[A.bu (by exact h),A3 _ _ _ (by omega)];grind
theorem aoI(x):A.le (VR yT.sh pc.sh x) ((⟨kP,dk,λ_=>True,r6⟩:aN).sh x):=A.bw λ_=>by
 unfold VR;simp only[aN.sh,yT,pc,A.dH,A.je,A.bo,implies_true,v7,r6]
abbrev IU:aN:=⟨kP,dk,λ_=>True,r6⟩
theorem aoJ(x):A.le (VT u1.sh (jC br).sh yT.sh pc.sh x) (tr.sh x):=A.bw λh=>by
 unfold VT;simp only[aN.sh,u1,pc,jC,yT,A.dH,A.je,A.bo,implies_true,A.gR];rw[A.bu (by exact λ_=>⟨h,λy _=>⟨_,A.bP trivial _⟩⟩),A.bu (by omega)];simp only[v7,bX];refine congrArg A.pure ?_;show _=p8 x;unfold p8;grind
abbrev BC:aN:=⟨.aA k9 (.bH (.fn q4 .bool)),dk,λx=>∃ f,x.2=some f/\x.1.length<2 ^ 63/\∀ y∈x.1,∃ b,f y=A.pure b,λx=>decide ((x.1.length:Int)<=4)&&x.1.all λy=>((x.2.getD λ_=>A.fail) y).val false⟩
theorem aoK(x):A.le (VU (jC q4).sh x) (BC.sh x):=A.bw λh=>by
 obtain⟨m,o⟩:=x;obtain⟨f,au,E,U⟩:=h;change o=some f at au;subst au;unfold VU;simp only[aN.sh,jC,A.dH,A.je,Option.getD_some];simp_all
abbrev BD:aN:=⟨.aA j1 (.bH lF),dk,λx=>∃ w,x.2=some w/\hv w,λx=>tq (x.2.getD ([],[],0,[])) x.1⟩
theorem aoL(x):A.le (VV p7.sh r5.sh cq.sh x) (BD.sh x):=A.bw λh=>by
 obtain⟨t,o⟩:=x;obtain⟨w,au,E⟩:=h;change o=some w at au;subst au;unfold VV;simp only[aN.sh,p7,r5,cq,A.dH,A.je,Option.getD_some,A.bu E,E,implies_true,A.bo,v7,BD,tq]
theorem aoM(x):A.le (VP cq.sh (jC kP).sh (jC k9).sh (jC j1).sh BC.sh BD.sh IU.sh tr.sh x) (tt.sh x):=A.bw λh=>by
 have aU:hv x:=h;obtain⟨E,U,ag,a7⟩:=(h:hv x)
 unfold VP;have d1:∀ s,IU.sh s=A.pure (r6 s):=λ_=>rfl;have d2:∀ m∈x.2.1,BC.sh (m,some tr.sh)=A.pure (q6 m):=λm hm=>by
  refine (A.bP ⟨_,rfl,(a7 m hm).1,λy aS=>⟨_,A.bP ((a7 m hm).2 y aS) _⟩⟩ _).trans (congrArg A.pure ?_);simp only[BC,Option.getD_some,q6,aN.sh,A.gR];grind
 have d3:∀ t,BD.sh (t,some x)=A.pure (tq x t):=λt=>A.bP ⟨_,rfl,aU⟩ _;have ca:(x.1.all λy=>(IU.sh y).val false)=x.1.all r6:=IS λs _=>A.gR;have a2:(x.2.1.all λy=>(BC.sh (y,some tr.sh)).val false)=x.2.1.all q6:=IS λm hm=>(congrArg (λz:A Bool=>z.val false) (d2 m hm)).trans A.e5;have a3:(x.2.2.2.all λy=>(BD.sh (y,some x)).val false)=x.2.2.2.all (tq x):=IS λt _=>A.gR;have ay:∀ y,(jC kP).sh y=A.dQ ((jC kP).pre y) ((jC kP).g y):=λ_=>rfl;have aP:∀ y,(jC k9).sh y=A.dQ ((jC k9).pre y) ((jC k9).g y):=λ_=>rfl;have cw:∀ y,(jC j1).sh y=A.dQ ((jC j1).pre y) ((jC j1).g y):=λ_=>rfl;have ed:∀ y,cq.sh y=A.pure (cq.g y):=λ_=>rfl;simp only[ay,aP,cw,ed,A.dH,A.je,A.ko,A.aG];rw[A.bu (by grind),A.bu (by grind),A.bu (by exact λ_=>⟨ag,λy _=>⟨_,d3 y⟩⟩)];simp only[v7,bX];refine congrArg A.pure ?_;show _=k_ x;rw[ca,a2,a3];unfold k_ wF;grind
end Go.Fer
