/- Part 5 of the proof of Replayed: shallow programs of Go functions, and what they compute. No condition. -/
import Derived.Test.YtplfnoecifjgeaaGreatDoorReplayedD
noncomputable section
set_option linter.unusedVariables false
set_option linter.unusedSimpArgs false
namespace Go.Fer.H
open M (aa)
abbrev tI:ae:=.int .i64
abbrev cQ:ae:=.bool
abbrev fF:ae:=.slice tI
abbrev mc:ae:=.st (.ax tI tI)
abbrev NH:ae:=.st (.ax tI (.ax tI (.ax tI (.ax tI (.ax tI (.ax tI tI))))))
abbrev je:ae:=.st (.ax (.slice mc) (.ax (.slice gU) (.ax fF (.ax (.slice mc) NH))))
abbrev Hf:ae:=.st (.ax gU tI)
abbrev xL:ae:=.st (.ax fF (.array 10 (.slice Hf)))
abbrev sg:ae:=.st (.ax je (.ax (.slice gU) (.slice (.bq xL))))
attribute [simp] qe UH vf M.dm M.EJ M.QB M.gp M.fp M.nJ M.iN M.kB M.bK M.pb b7 jC UG aa.gS
section
variable {aj:Type}
def xM(d:aj)(x:List aj×(aj->M Bool)):M Int:=
 M.bind (M.loop (λ(A:List aj×(aj->M Bool)×Int×Int×Unit)=>if decide (A.2.2.2.1<A.2.2.1)=true then M.af (0<=A.2.2.2.1/\
 A.2.2.2.1<Int.ofNat (List.length A.1)) (M.bind (A.2.1 (List.getD A.1 (Int.toNat A.2.2.2.1) d)) λy=>if y=true then M.bind (M.bind (M.pure
 A.2.2.2.1) λr=>M.pure (aa.done r)) λr=>M.pure (aa.done r) else M.pure (aa.next (A.1,A.2.1,A.2.2.1,IntKind.wrap .i64 (Add.add
 A.2.2.2.1 1),()))) else M.bind (M.pure (aa.next ())) λr=>M.pure (aa.done r)) (x.1,x.2,Int.ofNat (List.length x.1),0,())) (aa.bl λ(A
 : Unit)=>M.pure (-1))
def Dz(c:List aj×(aj->M Bool)->M Int)(x:List aj×(aj->M Bool)):M Bool:=M.bind (c x) λy=>M.pure (decide (y>=0))
def hr(p:aj->Bool):List aj->Int->Int
 | [],_=>-1
 | x::l,i=>if p x=true then i else hr p l (i+1)
theorem z6(p:aj->Bool):∀ (l:List aj) (i:Int),0<=i->(decide (hr p l i>=0))=l.any p
 | [],i,_=>by rfl
 | x::l,i,h=>by
  simp only[hr,List.any_cons];by_cases hx:p x=true
  ·grind
  ·have:=z6 p l (i+1) (by omega);grind
theorem z7(p:aj->Bool):∀ (l:List aj) (i:Int),eD (λx (i:Int)=>if p x=true then (.done (.done i):aa Int (aa Unit Int)) else .next (i+1)) (λ_=>.next ()) l i=if l.any p=true then .done (hr p l i) else .next ()
 | [],i=>by rfl
 | x::l,i=>by
  simp only[eD,List.any_cons,hr];by_cases hx:p x=true
  ·grind
  ·have:=z7 p l (i+1);grind
theorem DA{p:aj->Bool}:∀ (l:List aj) (i:Int),¬l.any p=true->hr p l i=-1
 | [],_,_=>rfl
 | x::l,i,aA=>by
  simp only[List.any_cons,Bool.or_eq_true,not_or]at aA;simp only[hr,aA.1,Bool.false_eq_true,if_false];exact DA l _ aA.2
theorem NI(d:aj)(l:List aj)(f:aj->M Bool)(h:l.length<2 ^ 63)(ar:∀ y∈l,∃ b,f y=M.pure b):xM d (l,f)=M.pure (hr (λy=>(f y).val false) l 0):=by
 unfold xM;rw[M.gg l (λi (b:Int)=>(l,f,(l.length:Int),b,())) (λy (i:Int)=>if (f y).val false=true then (.done (.done i):aa Int (aa Unit Int)) else .next (i+1)) (λ_=>.next ()) (λi b=>b=(i:Int)) 0 ?_ ?_ ?_ ?_]
 ·rw[z7 (λy=>(f y).val false)];by_cases aU:(l.any λy=>(f y).val false)=true
  ·simp[aU]
  ·have:hr (λy=>(f y).val false) l 0=-1:=by
    have:∀ (l:List aj) (i:Int),¬(l.any λy=>(f y).val false)=true->hr (λy=>(f y).val false) l i=-1:=by
     intro l;induction l with
     | nil=>intro i _;rfl
     | cons x l aG=>
      intro i aA;simp only[List.any_cons,Bool.or_eq_true,not_or]at aA;simp only[hr,aA.1,Bool.false_eq_true,if_false];grind
    grind
   simp[aU,this]
 ·rfl
 ·rfl
 ·intro i G b ab;subst ab;have hw:=bo (n:=(i:Int)+1) (by omega) (by omega);refine⟨?_,λaZ cS=>?_⟩
  ·obtain⟨b,ab⟩:=ar _ (List.getElem_mem G);simp only[bJ,cE G,if_true,cT G,cq G,M.bg,ab,M.fp,M.aE,b7,hw];split<;>rfl
  grind
 simp
end
abbrev kH(e:ae):aJ:=⟨.ax (.slice e) (.fn e .bool),tI,λx=>x.1.length<2 ^ 63/\∀ y∈x.1,∃ b,x.2 y=M.pure b,λx=>hr (λy=>(x.2 y).val false) x.1 0⟩
theorem si(e:ae)(x):M.le (xM e.cN x) ((kH e).sh x):=M.bh λh=>NI e.cN x.1 x.2 h.1 h.2
abbrev iO(e:ae):aJ:=⟨.ax (.slice e) (.fn e .bool),cQ,λx=>x.1.length<2 ^ 63/\∀ y∈x.1,∃ b,x.2 y=M.pure b,λx=>x.1.any λy=>(x.2 y).val false⟩
theorem sj(e:ae)(x):M.le (Dz (kH e).sh x) ((iO e).sh x):=M.bh λh=>by
 unfold Dz;simp only[aJ.sh,kH,M.dm];rw[M.bp (by exact h)];exact congrArg M.pure (z6 (λy=>(x.2 y).val false) x.1 0 (by omega))
abbrev k5(s:aV):Int:=s.1
abbrev ph(s:aV):Int:=s.2.1
abbrev xN(s:aV):Int:=s.2.2.1
abbrev dN(s:aV):Int:=s.2.2.2.1
abbrev tQ(s:aV):Int:=s.2.2.2.2.1
abbrev iy(s:aV):Int:=s.2.2.2.2.2
def iC(c:aQ):Prop:=c.1.length<2 ^ 63/\c.2.1.length<2 ^ 63/\c.2.2.1.length<2 ^ 63/\c.2.2.2.1.length<2 ^ 63
def bM(n lo G:Int):Bool:=decide (lo<=n)&&decide (n<=G)
theorem ov{n lo G:Int}:bM n lo G=true<->lo<=n/\n<=G:=by simp[bM]
def pj(t:pf):Bool:=bM t.1 0 9999&&bM t.2.1 1 9999&&bM t.2.2.2.2.1 1 9999&&bM t.2.2.1 0 100000&&bM t.2.2.2.1 0 100000&&bM t.2.2.2.2.2.1 0 100000&&bM t.2.2.2.2.2.2 0 100000
def k6(n:Nat)(s:aV):Bool:=bM (k5 s) 0 99&&bM (ph s) 0 ((n:Int) - 1)&&bM (xN s) 0 9999&&bM (tQ s) 0 9&&bM (iy s) 0 99&&(decide (dN s=1)||decide (dN s=2)&&decide (iy s=0))
abbrev b4:aJ:=⟨.ax tI (.ax tI tI),cQ,λ_=>True,λx=>bM x.1 x.2.1 x.2.2⟩
theorem aj'(x):M.le (VW b4.sh x) (b4.sh x):=M.bh λ_=>by
 unfold VW;simp[aJ.sh,b4]
theorem aka(x):M.le (ajE x) (b4.sh x):=M.bh λ_=>rfl
abbrev xO:aJ:=⟨tI,cQ,λ_=>True,λx=>bM x 0 9999⟩
theorem akb(x):M.le (VG b4.sh x) (xO.sh x):=M.bh λ_=>by
 unfold VG;simp[aJ.sh,b4]
abbrev vm:aJ:=⟨tI,cQ,λ_=>True,λx=>bM x 0 99⟩
theorem akc(x):M.le (VQ b4.sh x) (vm.sh x):=M.bh λ_=>by
 unfold VQ;simp[aJ.sh,b4]
abbrev vn:aJ:=⟨NH,cQ,λ_=>True,λx=>pj x⟩
theorem akd(x):M.le (V6 b4.sh x) (vn.sh x):=M.bh λ_=>by
 unfold V6;show _=M.pure (pj x);unfold pj;simp only[aJ.sh,b4,M.nj,M.aE,M.kB];simp
theorem ake(x):M.le (V2 b4.sh x) (vn.sh x):=M.bh λ_=>by
 unfold V2;rw[M.dk [x.2.2.1,x.2.2.2.1,x.2.2.2.2.2.1,x.2.2.2.2.2.2] (λi (_:Unit)=>(4,(i:Int),x,[x.2.2.1,x.2.2.2.1,x.2.2.2.2.2.1,x.2.2.2.2.2.2],())) (λy b=>if (!bM y 0 100000)=true then .done (.done false) else .next b) (λ_=>.next (x,())) () ?_ ?_ ?_]
 ·rw[kC (q:=λy=>bM y 0 100000) _ _ (λ_=>rfl)];show _=M.pure (pj x);unfold pj;simp only[List.all_cons,List.all_nil,Bool.and_true,aJ.sh,b4,M.nj,M.aE,M.kB];cases h1:bM x.1 0 9999<;>cases h2:bM x.2.1 1 9999<;>cases h3:bM x.2.2.2.2.1 1 9999<;>cases bM x.2.2.1 0 100000<;>cases bM x.2.2.2.1 0 100000<;>cases bM x.2.2.2.2.2.1 0 100000<;>cases bM x.2.2.2.2.2.2 0 100000<;>simp[h1,h2,h3]
 ·rfl
 ·intro i G b;have dp:i<4:=by omega
  have hw:=bo (n:=(i:Int)+1) (by omega) (by omega);have h1:decide ((i:Int)<4)=true:=by grind
  simp only[h1,if_true,bJ,cT G,cq G,M.bg,aJ.sh,b4,M.nj,M.aE,b7,hw];exact mI (mk:=λ(_:Unit)=>((4:Int),((i+1:Nat):Int),x,[x.2.2.1,x.2.2.2.1,x.2.2.2.2.2.1,x.2.2.2.2.2.2],()))
 simp
abbrev fcSlip:aJ:=⟨.ax je gU,cQ,λx=>x.1.1.length<2 ^ 63,λx=>k6 x.1.1.length x.2⟩
theorem akf(x):M.le (V7 b4.sh x) (fcSlip.sh x):=M.bh λh=>by
 have hw:=bo (n:=(x.1.1.length:Int) - 1) (by omega) (by omega);unfold V7;show _=M.pure (k6 x.1.1.length x.2);unfold k6;simp only[aJ.sh,b4,M.nj,M.aE,M.kB,bJ,hw];grind
theorem akg(x):M.le (V4 b4.sh vm.sh x) (fcSlip.sh x):=M.bh λh=>by
 have hw:=bo (n:=(x.1.1.length:Int) - 1) (by omega) (by omega);unfold V4;show _=M.pure (k6 x.1.1.length x.2);unfold k6;simp only[aJ.sh,b4,vm,M.nj,M.aE,M.kB,bJ,hw];grind
abbrev DB:aJ:=⟨.ax gU (.bq je),cQ,λx=>∃ c:aQ,x.2=some c/\c.1.length<2 ^ 63,λx=>!k6 (x.2.getD ([],[],[],[],0,0,0,0,0,0,0)).1.length x.1⟩
theorem akh(x):M.le (V3 fcSlip.sh x) (DB.sh x):=M.bh λh=>by
 obtain⟨s,o⟩:=x;obtain⟨c,hc,h⟩:=h;change o=some c at hc;subst hc;unfold V3;simp only[Option.getD_some,aJ.sh,fcSlip,M.dm];simp_all
abbrev z8:aJ:=⟨tI,cQ,λ_=>True,λx=>!bM x 0 99⟩
theorem aki(x):M.le (V5 vm.sh x) (z8.sh x):=M.bh λ_=>by
 unfold V5;simp[aJ.sh,vm]
theorem Wo(a b:aV):(decide (a.1=b.1)&&(decide (a.2.1=b.2.1)&&(decide (a.2.2.1=b.2.2.1)&&(decide (a.2.2.2.1=b.2.2.2.1)&&(decide (a.2.2.2.2.1=b.2.2.2.2.1)&&decide (a.2.2.2.2.2=b.2.2.2.2.2))))))=decide (a=b):=by
 grind
def tR(a b:aV):Bool:=decide (k5 a=k5 b)&&!decide (a=b)
abbrev Hg:aJ:=⟨.ax gU gU,cQ,λ_=>True,λx=>tR x.1 x.2⟩
theorem akj(x):M.le (VV x) (Hg.sh x):=M.bh λ_=>by
 have h:=Wo x.1 x.2;unfold VV;show _=M.pure (tR x.1 x.2);unfold tR;grind
abbrev ox:aJ:=⟨.ax fF tI,cQ,λx=>x.1.length<2 ^ 63,λx=>x.1.contains x.2⟩
theorem akk(x):M.le (aj0 x) ((kH gU).sh x):=si gU x
theorem akl(x):M.le (ajU (kH gU).sh x) ((iO gU).sh x):=sj gU x
abbrev fcClone:aJ:=⟨fF,fF,λx=>x.length<=3000000,λx=>x⟩
theorem hG{n:Nat}(h:n<65536):b6 n:=by unfold b6;omega
theorem akm(x):M.le (V9 x) (fcClone.sh x):=M.sb λh=>by
 unfold V9;rw[M.fG];refine⟨⟨false,by simp⟩,λb ab=>?_⟩;change b=true->x=[]at ab;cases b with
 | true=>rw[ab rfl];exact M.dE.2 rfl
 | false=>
  simp only[Bool.false_eq_true,if_false];exact M.kr.2 ⟨by change List.length x<=3000000 at h;simp only[jC,b6];omega,M.dE.2 (by simp)⟩
abbrev akn(c:aQ):Prop:=c.1.length<=20/\c.2.1.length<=40/\c.2.2.1.length<=60/\c.2.2.2.1.length<=40
abbrev Hh:aJ:=⟨tI,cQ,λ_=>True,λ_=>false⟩
theorem ako(x):M.le (Wb x) (Hh.sh x):=M.bh λ_=>by simp[Wb]
abbrev fcCmp:aJ:=⟨.ax tI tI,tI,λ_=>True,λx=>if x.1<x.2 then -1 else if x.1 > x.2 then 1 else 0⟩
theorem akp(x):M.le (V' Hh.sh x) (fcCmp.sh x):=M.bh λ_=>by
 unfold V';simp only[aJ.sh,Hh,M.nj,M.aE,Bool.false_eq_true,if_false,decide_eq_true_eq];grind
abbrev lK:aJ:=⟨.ax Hf Hf,tI,λ_=>True,λx=>if x.1.2<x.2.2 then -1 else if x.1.2 > x.2.2 then 1 else 0⟩
theorem akq(x):M.le (V_ fcCmp.sh x) (lK.sh x):=M.bh λ_=>by
 unfold V_;simp only[aJ.sh,fcCmp,M.nj,M.aE]
abbrev NJ:aJ:=⟨.int .u64,tI,λx=>0<=x/\x<=12,λx=>(Dx x).val 0⟩
theorem akr(x):M.le (Dx x) (NJ.sh x):=M.bh λh=>by
 have key:∃ v,Dx x=M.pure v:=by
  change Int at x;change (0:Int)<=x/\x<=12 at h;unfold Dx;have e1:¬(x>=4294967296):=by omega
  have e2:¬(x>=65536):=by omega
  have e3:¬(x>=256):=by omega
  have e4:IntKind.wrap .u8 x=x:=by
   show (if (false&&decide (x % 2 ^ 8>=(2 ^ (8 - 1):Int)))=true then x % 2 ^ 8 - 2 ^ 8 else x % 2 ^ 8)=x;grind
  have kO:0<=x/\x<Int.ofNat 256:=⟨h.1,by grind⟩
  simp only[decide_eq_true_eq,e1,e2,e3,if_false,M.aE,M.bK,e4,M.bp kO];grind
 obtain⟨v,hv⟩:=key;simp_all
abbrev NK:aJ:=⟨.int .u64,tI,λx=>0<=x/\x<=12,λx=>(Dx x).val 0⟩
theorem aks(f)(x):M.le (V8 f NJ.sh x) (NK.sh x):=M.bh λh=>by
 unfold V8;simp only[aJ.sh,M.dm];simp_all
end Go.Fer.H
namespace Go.Fer.H
open M (aa)
section
variable {aj:Type} (d:aj) (lt:aj->aj->Bool)
def vo(l:List aj):Nat->List aj
 | 0=>l
 | k+1=>if lt (l.getD (k+1) d) (l.getD k d)=true then vo ((l.set (k+1) (l.getD k d)).set k (l.getD (k+1) d)) k else l
def pk(e:aj):List aj->List aj
 | []=>[e]
 | a::r=>if lt e a=true then a::pk e r else e::a::r
def tS(l:List aj):List aj:=l.foldl (λr e=>pk lt e r) []
def e7(l:List aj):List aj:=(tS lt l).reverse
theorem Wp:∀ (r:List aj) (e:aj) (R:List aj),vo d lt (r.reverse++e::R) r.length=(pk lt e r).reverse++R
 | [],e,R=>rfl
 | a::r,e,R=>by
  have e1:((a::r).reverse++e::R).getD (r.length+1) d=e:=by
   simp
  have e2:((a::r).reverse++e::R).getD r.length d=a:=by
   simp
  show vo d lt ((a::r).reverse++e::R) (r.length+1)=_;unfold vo;rw[e1,e2];unfold pk;split
  ·have e3:(((a::r).reverse++e::R).set (r.length+1) a).set r.length e=r.reverse++e::(a::R):=by
    simp
   rw[e3,Wp r e (a::R)];simp
  ·simp
theorem NL(e:aj):∀ r:List aj,(pk lt e r).Perm (e::r)
 | []=>.refl _
 | a::r=>by
  unfold pk;split
  ·exact ((NL e r).cons a).trans (List.Perm.swap e a r)
  rfl
theorem Wq:∀ (l r:List aj),(l.foldl (λr e=>pk lt e r) r).Perm (l++r)
 | [],r=>.refl _
 | x::l,r=>by
  simp only[List.foldl_cons];refine (Wq l _).trans ?_;refine ((NL lt x r).append_left l).trans ?_;simp
theorem Wr(l:List aj):(tS lt l).Perm l:=by
 have:=Wq lt l [];rwa [List.append_nil]at this
theorem DC(l:List aj):(e7 lt l).Perm l:=(List.reverse_perm _).trans (Wr lt l)
theorem Ws(l:List aj):(tS lt l).length=l.length:=(Wr lt l).length_eq
theorem Hi(l:List aj):(e7 lt l).length=l.length:=(DC lt l).length_eq
theorem Wt{l:List aj}{x:aj}:x∈e7 lt l<->x∈l:=(DC lt l).mem_iff
theorem akt(l:List aj)(e:aj):tS lt (l++[e])=pk lt e (tS lt l):=by simp[tS]
def qh(l:List aj)(n:Nat):List aj:=(tS lt (l.take n)).reverse++l.drop n
theorem aku(l:List aj):qh lt l 1=l:=by
 cases l with
 | nil=>rfl
 | cons x l=>rfl
theorem akv(l:List aj):qh lt l l.length=e7 lt l:=by simp[qh,e7]
theorem akw(l:List aj)(n:Nat)(h:n<=l.length):(qh lt l n).length=l.length:=by
 simp[qh,Ws,Nat.min_eq_left h];omega
theorem akx{l:List aj}{n:Nat}(h:n<l.length):vo d lt (qh lt l n) n=qh lt l (n+1):=by
 have e1:(tS lt (l.take n)).length=n:=by rw[Ws];grind
 have:=Wp d lt (tS lt (l.take n)) l[n] (l.drop (n+1));rw[e1]at this;unfold qh;rw[List.drop_eq_getElem_cons h,this,List.take_add_one,List.getElem?_eq_getElem h,Option.toList_some,akt]
theorem NM(bZ:∀ a b,lt a b=false->lt b a=true\/lt b a=false)(tr:∀ a b c:aj,lt a b=false->lt b c=false->lt a c=false)(Wu:∀ a b,lt a b=true->lt b a=false)(e:aj):∀ r:List aj,r.Pairwise (λa b=>lt a b=false)->(pk lt e r).Pairwise (λa b=>lt a b=false)
 | [],_=>by simp[pk]
 | a::r,h=>by
  rw[List.pairwise_cons]at h;unfold pk;split
  ·rename_i he;refine List.pairwise_cons.2 ⟨λx hx=>?_,NM bZ tr Wu e r h.2⟩;rcases List.mem_cons.1 ((NL lt e r).mem_iff.1 hx) with rfl | hx
   ·exact Wu _ _ he
   ·exact h.1 x hx
  ·rename_i he;have he:lt e a=false:=by grind
   refine List.pairwise_cons.2 ⟨λx hx=>?_,List.pairwise_cons.2 h⟩;grind
end
def gW(a b:Int):Bool:=decide (a<b)
def hH(a b:bj):Bool:=decide (a.2<b.2)
theorem Wv:∀ (l r:z1'),r.Pairwise (λa b=>gW a b=false)->(l.foldl (λr e=>pk gW e r) r).Pairwise (λa b=>gW a b=false)
 | [],r,h=>h
 | x::l,r,h=>Wv l _ (NM gW (λa b _=>by simp) (λa b c h1 h2=>by simp[gW]at *;omega) (λa b h=>by simp[gW]at *;omega) x r h)
theorem NN(l:z1'):(e7 gW l).Pairwise (·<=·):=by
 have:=Wv l [] .nil;unfold e7;rw[List.pairwise_reverse];exact this.imp λh=>by simp[gW]at h;exact h
theorem Ww:∀ (l r:List bj),r.Pairwise (λa b=>hH a b=false)->(l.foldl (λr e=>pk hH e r) r).Pairwise (λa b=>hH a b=false)
 | [],r,h=>h
 | x::l,r,h=>Ww l _ (NM hH (λa b _=>by simp) (λa b c h1 h2=>by simp[hH]at *;omega) (λa b h=>by simp[hH]at *;omega) x r h)
theorem aky(l:List bj):(e7 hH l).Pairwise λa b=>a.2<=b.2:=by
 have:=Ww l [] .nil;unfold e7;rw[List.pairwise_reverse];exact this.imp λh=>by simp[hH]at h;exact h
theorem z_{l m:z1'}(h:m.Pairwise (·<=·))(hp:l.Perm m):e7 gW l=m:=
 List.Perm.eq_of_pairwise (λa b _ _ h1 h2=>by omega) (NN l) h ((DC gW l).trans hp)
theorem Wx{l m:z1'}(hp:l.Perm m):e7 gW l=e7 gW m:=z_ (NN m) (hp.trans (DC gW m).symm)
theorem akz{aj:Type}{d:aj}{lt:aj->aj->Bool}{A aF:Type}{body:A->M (aa A aF)}{s0:A}(mk:Nat->List aj->A)(fin:List aj->aF)(gR:Nat)(eS:List aj)(mG:s0=mk gR eS)(lz:gR<eS.length)
  (hs:∀ k l,l.length=eS.length->k<eS.length->body (mk k l)=M.pure (if 0<k/\lt (l.getD k d) (l.getD (k - 1) d)=true then .next (mk (k - 1) ((l.set k (l.getD (k - 1) d)).set (k - 1) (l.getD k d))) else .done (fin l))) :
  M.loop body s0=M.pure (fin (vo d lt eS gR)):=by
 subst mG;have key:∀ k l,l.length=eS.length->k<eS.length->M.loop body (mk k l)=M.pure (fin (vo d lt l k)):=by
  intro k;induction k with
  | zero=>
   intro l ai ao;exact M.sT (by rw[hs 0 l ai ao,if_neg (by simp)];rfl)
  | succ k aG=>
   intro l ai ao;unfold vo;by_cases h:lt (l.getD (k+1) d) (l.getD k d)=true
   ·rw[if_pos h,M.Bk (s':=mk k ((l.set (k+1) (l.getD k d)).set k (l.getD (k+1) d)))]
    ·exact aG _ (by simpa using ai) (by omega)
    ·rw[hs (k+1) l ai ao,if_pos ⟨by omega,h⟩];rfl
   ·rw[if_neg h];exact M.sT (by grind)
 grind
theorem NO{aj:Type}{l:List aj}{d:aj}{k:Nat}:l.getD ((k:Int) - 1).toNat d=l.getD (k - 1) d:=by
 simp
theorem Wy{aj:Type}{l:List aj}{d:aj}{k:Nat}:l.getD ((k:Int)).toNat d=l.getD k d:=by rfl
theorem akA{A aF:Type}{c:Bool}{p:Prop}[Decidable p](h:c=decide p){x y:M (aa A aF)}{a b:aa A aF}(h1:p->x=M.pure a)(h2:¬p->y=M.pure b):(if c=true then x else y)=M.pure (if p then a else b):=by
 grind
def Hj(x:Int×Int×(bj×aV×Int->M Int)×List bj×Unit):M (List bj×Unit):=M.du (x.1=0/\x.2.1=(x.2.2.2.1.length:Int)/\x.2.2.2.1.length<=12/\x.2.2.1=lK.sh) (e7 hH x.2.2.2.1,())
theorem akB(x):M.le (Wf x) (Hj x):=M.bh λh=>by
 obtain⟨a,b,f,l,u⟩:=x;obtain⟨h1,h2,h3,aR⟩:=h;change a=0 at h1;change b=(l.length:Int) at h2;change l.length<=12 at h3;change f=lK.sh at aR;subst h1;subst h2;subst aR;unfold Wf;rw[M.dk (List.range (l.length - 1)) (λi (_:Unit)=>(0,(l.length:Int),lK.sh,((i+1:Nat):Int),qh hH l (i+1),())) (λ_ _=>.next ()) (λ_=>(e7 hH l,())) () ?_ ?_ ?_]
 ·rw[dM]
 ·show (0,(l.length:Int),lK.sh,IntKind.wrap .i64 (Add.add 0 1),l,())=(0,(l.length:Int),lK.sh,((0+1:Nat):Int),qh hH l (0+1),())
  rw[aku];rfl
 ·intro i G _;have G:i+1<l.length:=by grind
  have ai:=akw hH l (i+1) (by omega);have hw:=bo (n:=((i+1:Nat):Int)+1) (by omega) (by omega);have au:decide (((i+1:Nat):Int)<(l.length:Int))=true:=by grind
  simp only[au,if_true];rw[akz (d:=((0,0,0,0,0,0),0)) (lt:=hH) (λk m=>(0,(l.length:Int),lK.sh,((i+1:Nat):Int),(k:Int),m,())) (λm=>.next (0,(l.length:Int),lK.sh,((i+1:Nat):Int),m,())) (i+1) (qh hH l (i+1)) rfl (by omega) ?_]
  ·simp only[M.aE,M.bK,b7,hw,akx ((0,0,0,0,0,0),0) hH G];rfl
  ·intro k m an ao;have gA:0<k->IntKind.wrap .i64 ((k:Int) - 1)=(k:Int) - 1:=λ_=>bo (by omega) (by omega);by_cases lz:0<k
   ·have hp:decide ((k:Int) > 0)=true:=by grind
    have bX:(0:Int)<=(k:Int)/\(k:Int)<Int.ofNat m.length:=⟨by omega,by grind⟩
    have cn:(0:Int)<=(k:Int) - 1/\(k:Int) - 1<Int.ofNat m.length:=⟨by omega,by omega⟩
    have dS:(0:Int)<=(k:Int) - 1/\(k:Int) - 1<Int.ofNat (m.set k (m.getD (k - 1) ((0,0,0,0,0,0),0))).length:=⟨by omega,by grind⟩
    have Hk:((k:Int) - 1)=((k - 1:Nat):Int):=by omega
    simp only[hp,gA lz,bX,cn,forall_const,and_self,true_and,M.bg,aJ.sh,lK,M.nj,M.kB,M.aE,if_true,Bool.true_and,NO,Wy,Int.toNat_natCast,dS];rw[show ((k:Int) - 1).toNat=k - 1 from by omega];refine akA (p:=0<k/\hH (m.getD k ((0,0,0,0,0,0),0)) (m.getD (k - 1) ((0,0,0,0,0,0),0))=true) ?_ (λ_=>?_) (λ_=>rfl)
    ·rw[Bool.eq_iff_iff];simp only[hH,lz,true_and,decide_eq_true_eq];grind
    rw[Hk]
   ·have Wz:k=0:=by omega
    subst Wz;simp[b3]
 ·intro _;have e:qh hH l (l.length - 1+1)=e7 hH l:=by
   cases l with
   | nil=>rfl
   | cons x r=>exact akv hH (x::r)
  have au:decide (((l.length - 1+1:Nat):Int)<(l.length:Int))=false:=by grind
  simp only[List.length_range,au,Bool.false_eq_true,if_false,e,M.aE]
def Hl(x:Int×Int×Int×(bj×aV×Int->M Int)×List bj×Unit):M (List bj×Unit):=M.du (x.1=0/\x.2.1=(x.2.2.2.2.1.length:Int)/\x.2.2.2.2.1.length<=12/\x.2.2.2.1=lK.sh) (e7 hH x.2.2.2.2.1,())
theorem akC(x):M.le (Wl Hj x) (Hl x):=M.bh λh=>by
 obtain⟨a,b,c,f,l,u⟩:=x;obtain⟨h1,h2,h3,aR⟩:=h;change a=0 at h1;change b=(l.length:Int) at h2;change l.length<=12 at h3;change f=lK.sh at aR;subst h1;subst h2;subst aR;unfold Wl;refine M.sT ?_;have hw:=bo (n:=(l.length:Int) - 0) (by omega) (by omega);have au:decide ((l.length:Int) - 0<=12)=true:=by grind
 simp only[hw,au,if_true];unfold Hj;simp_all
theorem akD{n:Int}(h:0<=n)(h2:n<=12):IntKind.wrap .u64 n=n:=by
 show (if (false&&decide (n % 2 ^ 64>=(2 ^ (64 - 1):Int)))=true then n % 2 ^ 64 - 2 ^ 64 else n % 2 ^ 64)=n;grind
def xP(x:z1'×Unit):M (z1'×Unit):=M.du (x.1.length<4611686018427387904) (e7 gW x.1,())
def z'(x:(bj×aV×Int->M Int)×List bj×Unit):M (List bj×Unit):=M.du (x.2.1.length<=12/\x.1=lK.sh) (e7 hH x.2.1,())
theorem akE(x):M.le (Wn NK.sh Hl x) (z' x):=M.bh λh=>by
 obtain⟨f,l,u⟩:=x;obtain⟨h,aR⟩:=h;change l.length<=12 at h;change f=lK.sh at aR;subst aR;unfold Wn;have hw:=akD (n:=(l.length:Int)) (by omega) (by omega);show M.bind (M.du (0<=IntKind.wrap .u64 (l.length:Int)/\IntKind.wrap .u64 (l.length:Int)<=12) _) _=_;rw[M.dm,M.bp (by omega)];unfold Hl;simp_all
def Aa(x:(z1'->Prop)×Unit):M (z1'×Unit):=⟨(∃ L,x.1 L)/\∀ L,x.1 L->L.length<60000,λy=>x.1 y.1⟩
theorem WA:∀ (L acc:z1'),L.length+acc.length<60000->jy (λ(A:z1'×Unit) (y:Int)=>M.bind (M.af (b6 (Add.add (List.length A.1) (Add.add 0 1))) (M.pure (cP.normal,A.1++[y],()))) λp=>M.pure (p.1,p.2.1,())) L (acc,())=M.pure (.normal,acc++L,())
 | [],acc,_=>by simp[jy]
 | x::L,acc,h=>by
  simp only[List.length_cons]at h;unfold jy;rw[M.bp (hG (by grind))];simp only[M.aE];rw[WA L (acc++[x]) (by grind)];simp
theorem akF(x):M.le (Wc x) (Aa x):=λh=>by
 obtain⟨S,u⟩:=x;obtain⟨h1,h2⟩:=h;show M.b_ _ _;unfold Wc;rw[M.fG];refine⟨h1,λL iv=>?_⟩;have iv:S L:=iv;show M.b_ (M.bind (jy _ L ([],())) _) _;rw[WA L [] (by grind)];simp only[M.aE,rY,List.nil_append];exact M.dE.2 iv
theorem akG(x):M.le (Wd Aa x) (Aa x):=λh=>by
 obtain⟨S,u⟩:=x;show M.b_ _ _;unfold Wd;rw[M.fG];exact⟨h,λy aM=>M.dE.2 aM⟩
open Classical in
def Ab(S:z1'->Prop):z1':=if h:∃ L,S L then e7 gW h.choose else []
abbrev sk:aJ:=⟨.b5 tI,fF,λS=>(∃ L,S L)/\(∀ L L',S L->S L'->L.Perm L')/\∀ L,S L->L.length<60000,λS=>Ab S⟩
theorem akH(x):M.le (VI xP Aa x) (sk.sh x):=M.sb λh=>by
 obtain⟨h1,h2,h3⟩:=h;unfold VI;rw[M.fG];refine⟨⟨h1,λL iv=>by grind⟩,λy aM=>?_⟩;have aM:x y.1:=aM;unfold xP;show M.b_ (M.bind (M.du _ _) _) _;rw[M.dm,M.kr];refine⟨Nat.lt_trans (h3 _ aM) (by decide),M.dE.2 ?_⟩;show e7 gW y.1=Ab x;unfold Ab;rw[dif_pos h1];exact Wx (h2 _ _ aM h1.choose_spec)
theorem akI{S:z1'->Prop}{L:z1'}(h:S L)(h2:∀ L L',S L->S L'->L.Perm L'):Ab S=e7 gW L:=by
 have h1:∃ L,S L:=⟨L,h⟩
 unfold Ab;rw[dif_pos h1];exact Wx (h2 _ _ h1.choose_spec h)
def jF{aj:Type}(x:Option (List (Int×aj)))(L:z1'):Prop:=∃ m,x=some m/\(m.map (·.1)).Perm L
abbrev Hm:aJ:=⟨.map tI tI,.b5 tI,λ_=>True,λx=>jF (some x)⟩
theorem akJ(x):M.le (ajG jF x) (Hm.sh x):=M.bh λ_=>rfl
abbrev xQ:aJ:=⟨.map tI gU,.b5 tI,λ_=>True,λx=>jF (some x)⟩
theorem akK(x):M.le (ajX jF x) (xQ.sh x):=M.bh λ_=>rfl
theorem tT{aj:Type}{m:List (Int×aj)}{L:z1'}:jF (some m) L<->(m.map (·.1)).Perm L:=⟨λ⟨c8,h,k⟩=>by grind,λh=>⟨m,rfl,h⟩⟩
theorem WB{aj:Type}{m:List (Int×aj)}(h:m.length<60000):sk.pre (jF (some m)):=
 ⟨⟨_,tT.2 (.refl _)⟩,λL L' h1 h2=>(tT.1 h1).symm.trans (tT.1 h2),λL iv=>by rw[<-(tT.1 iv).length_eq];grind⟩
theorem WC{aj:Type}{m:List (Int×aj)}:Ab (jF (some m))=e7 gW (m.map (·.1)):=
 akI (tT.2 (.refl _)) λL L' h1 h2=>(tT.1 h1).symm.trans (tT.1 h2)
end Go.Fer.H
namespace Go.Fer.H
open M (aa)
def sn(s:Int×Int):Bool:=bM s.1 (-30) s.2&&!decide (s.2 > 30)
def iz(l:z4')(i:Nat):Bool:=bM (l.getD i (0,0)).1 0 (l.getD i (0,0)).2&&!decide ((l.getD i (0,0)).2 > 9999)&&!(decide (0<i)&&decide ((l.getD i (0,0)).1<=(l.getD (i - 1) (0,0)).2))
def Ac(l:z4'):Bool:=(List.range l.length).all (iz l)
def so(c:aQ):Bool:=!(decide ((c.1.length:Int) > 3)||decide ((c.2.1.length:Int) > 12)||decide ((c.2.2.1.length:Int) > 12)||decide ((c.2.2.2.1.length:Int) > 4))&&pj c.2.2.2.2
def jG(c:aQ):Bool:=so c&&c.1.all sn&&c.2.1.all (k6 c.1.length)&&c.2.2.1.all (λn=>bM n 0 99)&&Ac c.2.2.2.1
abbrev vp:aJ:=⟨je,cQ,iC,λc=>jG c⟩
theorem Hn{A aF β:Type}{mk:β->A}{b:β}{q:Bool}{r:aF}{m:M (aa A aF)}(h1:q=true->m=M.pure (.next (mk b)))(h2:q=false->m=M.pure (.done r)):m=M.pure (aa.gS mk (if (!q)=true then .done r else .next b)):=by
 cases q
 ·exact h2 rfl
 ·exact h1 rfl
theorem WD{aj:Type}{a t:Bool}{m n:aj}:(if (a||!(if (!a)=true then t else false))=true then m else n)=if (!a&&t)=true then n else m:=by grind
theorem akL(x):M.le (VT b4.sh vn.sh fcSlip.sh x) (vp.sh x):=M.bh λh=>by
 obtain⟨aO,aP,bA,ga⟩:=h;unfold VT;show _=M.pure (jG x);simp only[aJ.sh,vn,M.nj,M.kB,M.aE,bJ,WD];unfold jG;rw[show (!(decide ((x.1.length:Int) > 3)||decide ((x.2.1.length:Int) > 12)||decide ((x.2.2.1.length:Int) > 12)||decide ((x.2.2.2.1.length:Int) > 4))&&pj x.2.2.2.2)=so x from rfl];cases ab:so x with
 | false=>rfl
 | true=>
  rw[if_pos rfl];rw[M.dk x.1 (λi (_:Unit)=>((i:Int),x,())) (λy b=>if (!sn y)=true then .done (.done false) else .next b) (λ_=>.next (x,())) () ?_ ?_ ?_]
  ·rw[kC (q:=sn) _ _ (λ_=>rfl)];cases hc:x.1.all sn with
   | false=>simp
   | true=>
    simp only[if_true,M.aE,M.bK];rw[M.dk x.2.1 (λi (_:Unit)=>((i:Int),x,())) (λy b=>if (!k6 x.1.length y)=true then .done (.done false) else .next b) (λ_=>.next (x,())) () ?_ ?_ ?_]
    ·rw[kC (q:=k6 x.1.length) _ _ (λ_=>rfl)];cases au:x.2.1.all (k6 x.1.length) with
     | false=>simp
     | true=>
      simp only[if_true,M.aE,M.bK];rw[M.dk x.2.2.1 (λi (_:Unit)=>((i:Int),x,())) (λy b=>if (!bM y 0 99)=true then .done (.done false) else .next b) (λ_=>.next (x,())) () ?_ ?_ ?_]
      ·rw[kC (q:=λn=>bM n 0 99) _ _ (λ_=>rfl)];cases he:x.2.2.1.all (λn=>bM n 0 99) with
       | false=>simp
       | true=>
        simp only[if_true,M.aE,M.bK];rw[M.dk (List.range x.2.2.2.1.length) (λi (_:Unit)=>((i:Int),x,())) (λy b=>if (!iz x.2.2.2.1 y)=true then .done (.done false) else .next b) (λ_=>.next ()) () ?_ ?_ ?_]
        ·rw[kC (q:=iz x.2.2.2.1) _ _ (λ_=>rfl)];unfold Ac;cases (List.range x.2.2.2.1.length).all (iz x.2.2.2.1)<;>simp
        ·rfl
        ·intro i G b;have G:i<x.2.2.2.1.length:=by grind
         have hw:=bo (n:=(i:Int)+1) (by omega) (by omega);have gA:=bo (n:=(i:Int) - 1) (by omega) (by omega);have jf:x.2.2.2.1.getD i (0,0)=x.2.2.2.1[i]:=by grind
         have ep:(decide ((i:Int) > 0))=decide (0<i):=by simp
         have V:decide (0<i)=true->((0:Int)<=(i:Int) - 1/\(i:Int) - 1<(x.2.2.2.1.length:Int)):=λh=>by grind
         refine Hn (mk:=λ(_:Unit)=>(((i+1:Nat):Int),x,())) (b:=b) ?_ ?_<;>intro be<;>
         ·simp only[List.getElem_range,iz,jf]at be;simp only[bJ,cE G,if_true,cT G,cq G,M.bg,aJ.sh,b4,M.nj,M.iT,M.fp,b7,hw,gA,ep,NO,List.getElem_range];revert be;generalize bM x.2.2.2.1[i].1 0 x.2.2.2.1[i].2=dd;generalize decide (x.2.2.2.1[i].2 > 9999)=dV;generalize decide (x.2.2.2.1[i].1<=(x.2.2.2.1.getD (i - 1) (0,0)).2)=j8;revert V;generalize decide (0<i)=nh;intro V;cases nh
          ·cases dd<;>cases dV<;>cases j8<;>simp
          ·have V:=V rfl;cases dd<;>cases dV<;>cases j8<;>simp[V,(by omega:(1:Int)<=(i:Int))]
        simp
      ·rfl
      ·intro i G b;have hw:=bo (n:=(i:Int)+1) (by omega) (by omega);simp only[bJ,cE G,if_true,cT G,cq G,M.bg,aJ.sh,b4,M.nj,M.aE,b7,hw];exact mI (mk:=λ(_:Unit)=>(((i+1:Nat):Int),x,()))
      simp
    ·rfl
    ·intro i G b;have hw:=bo (n:=(i:Int)+1) (by omega) (by omega);simp only[bJ,cE G,if_true,cT G,cq G,M.bg,aJ.sh,fcSlip,M.nJ,M.gp,M.aE,b7,hw];rw[M.bp aO];exact mI (mk:=λ(_:Unit)=>(((i+1:Nat):Int),x,()))
    simp
  ·rfl
  ·intro i G b;have hw:=bo (n:=(i:Int)+1) (by omega) (by omega);refine Hn (mk:=λ(_:Unit)=>(((i+1:Nat):Int),x,())) (b:=b) ?_ ?_<;>intro be<;>
   ·simp only[sn]at be;simp only[bJ,cE G,if_true,cT G,cq G,M.bg,aJ.sh,b4,M.nj,M.iT,M.fp,b7,hw];revert be;generalize bM x.1[i].1 (-30) x.1[i].2=dd;generalize decide (x.1[i].2 > 30)=dV;simp_all
  simp
theorem WE{aj:Type}{p:aj->Bool}(l:List aj):(l.any λy=>!p y)=!l.all p:=by grind
theorem akM(x):M.le (VS b4.sh (iO gU).sh vn.sh (iO tI).sh DB.sh z8.sh x) (vp.sh x):=M.bh λh=>by
 obtain⟨aO,aP,bA,ga⟩:=h;unfold VS;show _=M.pure (jG x);simp only[show vn.sh x.2.2.2.2=M.pure (pj x.2.2.2.2) from rfl,M.kB,M.aE,bJ,WD];unfold jG;rw[show (!(decide ((x.1.length:Int) > 3)||decide ((x.2.1.length:Int) > 12)||decide ((x.2.2.1.length:Int) > 12)||decide ((x.2.2.2.1.length:Int) > 4))&&pj x.2.2.2.2)=so x from rfl];cases ab:so x with
 | false=>rfl
 | true=>
  rw[if_pos rfl];rw[M.dk x.1 (λi (_:Unit)=>(x.1,(x.1.length:Int),(i:Int),x,())) (λy b=>if (!sn y)=true then .done (.done false) else .next b) (λ_=>.next (x,())) () ?_ ?_ ?_]
  ·rw[kC (q:=sn) _ _ (λ_=>rfl)];cases hc:x.1.all sn with
   | false=>simp
   | true=>
    simp only[if_true,M.aE,M.bK];rw[M.dk (List.range x.2.2.2.1.length) (λi (_:Unit)=>(x.2.2.2.1,(x.2.2.2.1.length:Int),(i:Int),x,())) (λy b=>if (!iz x.2.2.2.1 y)=true then .done (.done false) else .next b) (λ_=>.next (x,())) () ?_ ?_ ?_]
    ·rw[kC (q:=iz x.2.2.2.1) _ _ (λ_=>rfl)];unfold Ac;cases au:(List.range x.2.2.2.1.length).all (iz x.2.2.2.1) with
     | false=>simp
     | true=>
      simp only[if_true,M.aE,M.bK];have e1:(iO gU).sh (x.2.1,λy=>DB.sh (y,some x))=M.pure (!x.2.1.all (k6 x.1.length)):=by
       have ar:∀ y,DB.sh (y,some x)=M.pure (!k6 x.1.length y):=λy=>M.bF ⟨x,rfl,aO⟩ _;refine (M.bF ⟨aP,λy _=>⟨_,ar y⟩⟩ _).trans ?_;refine congrArg M.pure ?_;rw[<-WE];simp_all
      have e2:(iO tI).sh (x.2.2.1,z8.sh)=M.pure (!x.2.2.1.all (λn=>bM n 0 99)):=by
       refine (M.bF ⟨bA,λy _=>⟨_,rfl⟩⟩ _).trans ?_;refine congrArg M.pure ?_;rw[<-WE];show (x.2.2.1.any λy=>(z8.sh y).val false)=_;simp only[show ∀ y,z8.sh y=M.pure (!bM y 0 99) from λ_=>rfl,M.fp]
      rw[e1,e2];simp only[M.aE,M.kB];grind
    ·rfl
    ·intro i G b;have G:i<x.2.2.2.1.length:=by grind
     have hw:=bo (n:=(i:Int)+1) (by omega) (by omega);have gA:=bo (n:=(i:Int) - 1) (by omega) (by omega);have jf:x.2.2.2.1.getD i (0,0)=x.2.2.2.1[i]:=by grind
     have ep:(decide ((i:Int) > 0))=decide (0<i):=by simp
     have V:decide (0<i)=true->((0:Int)<=(i:Int) - 1/\(i:Int) - 1<(x.2.2.2.1.length:Int)):=λh=>by grind
     refine Hn (mk:=λ(_:Unit)=>(x.2.2.2.1,(x.2.2.2.1.length:Int),((i+1:Nat):Int),x,())) (b:=b) ?_ ?_<;>intro be<;>
     ·simp only[List.getElem_range,iz,jf]at be;simp only[bJ,cE G,if_true,cT G,cq G,M.bg,aJ.sh,b4,M.nj,M.iT,M.fp,b7,hw,gA,ep,NO,List.getElem_range];revert be;generalize bM x.2.2.2.1[i].1 0 x.2.2.2.1[i].2=dd;generalize decide (x.2.2.2.1[i].2 > 9999)=dV;generalize decide (x.2.2.2.1[i].1<=(x.2.2.2.1.getD (i - 1) (0,0)).2)=j8;revert V;generalize decide (0<i)=nh;intro V;cases nh
      ·cases dd<;>cases dV<;>cases j8<;>simp
      ·have V:=V rfl;cases dd<;>cases dV<;>cases j8<;>simp[V,(by omega:(1:Int)<=(i:Int))]
    simp
  ·rfl
  ·intro i G b;have hw:=bo (n:=(i:Int)+1) (by omega) (by omega);refine Hn (mk:=λ(_:Unit)=>(x.1,(x.1.length:Int),((i+1:Nat):Int),x,())) (b:=b) ?_ ?_<;>intro be<;>
   ·simp only[sn]at be;simp only[bJ,cE G,if_true,cT G,cq G,M.bg,aJ.sh,b4,M.nj,M.aE,b7,hw];grind
  simp
abbrev jg:aV:=(0,0,0,0,0,0)
def kI(l:List aV):Bool:=(List.range l.length).any λi=>(List.range i).any λk=>tR (l.getD k jg) (l.getD i jg)
def cu(c:aQ):Int:=if jG c=true then (if kI c.2.1=true then 91 else 0) else 90
abbrev hI:aJ:=⟨je,tI,iC,λc=>cu c⟩
theorem sq{aj:Type}{l:List aj}{i:Nat}{d:aj}(h:i<l.length):l.getD i d=l[i]:=by grind
theorem akN(x):M.le (VB vp.sh Hg.sh x) (hI.sh x):=M.bh λh=>by
 obtain⟨aO,aP,bA,ga⟩:=id h;unfold VB;show _=M.pure (cu x);rw[show vp.sh x=M.pure (jG x) from M.bF h _];unfold cu;cases jG x with
 | false=>simp
 | true=>
  simp only[M.aE,Bool.not_true,Bool.false_eq_true,if_false,if_true];rw[M.dk (List.range x.2.1.length) (λi (_:Unit)=>((i:Int),x,())) (λi b=>if ((List.range i).any λk=>tR (x.2.1.getD k jg) (x.2.1.getD i jg))=true then .done (.done 91) else .next b) (λ_=>.next ()) () ?_ ?_ ?_]
  ·rw[q9];unfold kI;cases (List.range x.2.1.length).any λi=>(List.range i).any λk=>tR (x.2.1.getD k jg) (x.2.1.getD i jg)<;>simp
  ·rfl
  ·intro i G b;have G:i<x.2.1.length:=by grind
   have hw:=bo (n:=(i:Int)+1) (by omega) (by omega);have au:decide ((i:Int)<Int.ofNat x.2.1.length)=true:=cE G;simp only[au,if_true,List.getElem_range];rw[M.dk (List.range i) (λk (_:Unit)=>((i:Int),(k:Int),x,())) (λk b=>if tR (x.2.1.getD k jg) (x.2.1.getD i jg)=true then .done (.done (.done (.done 91))) else .next b) (λ_=>(.next ((i:Int),x,()):aa (Int×aQ×Unit) (aa (Int×aQ×Unit) (aa Unit Int)))) () ?_ ?_ ?_]
   ·rw[q9];cases (List.range i).any λk=>tR (x.2.1.getD k jg) (x.2.1.getD i jg)<;>simp[hw]
   ·rfl
   ·intro k ao b;have ao:k<i:=by grind
    have vq:k<x.2.1.length:=by omega
    have hw:=bo (n:=(k:Int)+1) (by omega) (by omega);have au:decide ((k:Int)<(i:Int))=true:=by grind
    simp only[au,if_true,bJ,cq vq,cq G,M.bg,aJ.sh,Hg,M.nj,M.iT,M.fp,M.aE,b7,hw,List.getElem_range,Wy];exact mI (mk:=λ(_:Unit)=>((i:Int),((k+1:Nat):Int),x,()))
   simp
  simp
def gC(l:List aV):List aV:=(dT 0 99).filterMap λid=>l.find? λs=>s.1 == id
def e8(c:aQ):List aV:=(gC c.2.1).filter λs=>!c.2.2.1.contains s.1
theorem akO(l:List aV):(gC l).length<=100:=by
 refine Nat.le_trans (List.length_filterMap_le _ _) ?_;rw[show (dT 0 99).length=100 from by decide];omega
def jh(m:List (Int×aV))(k:Int):Option aV:=(m.find? λp=>decide (k=p.1)).map (·.2)
def iP(m:List (Int×aV)):z1':=m.map (·.1)
theorem NP(p:Int×aV)(m:List (Int×aV))(k:Int)(v:aV):kE (p::m) k v=if decide (k=p.1)=true then (p.1,v)::m else p::kE m k v:=rfl
theorem NQ(k:Int)(v:aV):kE [] k v=[(k,v)]:=rfl
theorem WG(k:Int)(v:aV):∀ m:List (Int×aV),(kE m k v).length<=m.length+1
 | []=>by rw[NQ];simp
 | p::m=>by
  rw[NP];split
  ·simp
  ·simp;exact WG k v m
theorem NR(k:Int)(v:aV)(x:Int):∀ m:List (Int×aV),jh (kE m k v) x=if x=k then some v else jh m x
 | []=>by
  rw[NQ];by_cases h:x=k<;>simp[jh,h]
 | p::m=>by
  rw[NP];have aG:=NR k v x m;unfold jh at aG ⊢;grind
theorem DD(k:Int)(v:aV):∀ m:List (Int×aV),((iP m).Nodup->(iP (kE m k v)).Nodup)/\∀ x,x∈iP (kE m k v)<->x∈iP m\/x=k
 | []=>by rw[NQ];simp[iP]
 | p::m=>by
  obtain⟨h1,h2⟩:=DD k v m;rw[NP];by_cases h:k=p.1
  ·subst h;simp only[decide_true,if_true];refine⟨λh=>h,λx=>?_⟩;show x∈p.1::iP m<->x∈p.1::iP m\/x=p.1;grind
  ·simp only[h,decide_false,Bool.false_eq_true,if_false];refine⟨λaA=>?_,λx=>?_⟩
   ·show (p.1::iP (kE m k v)).Nodup;have B8:(p.1::iP m).Nodup:=aA;grind
   ·show x∈p.1::iP (kE m k v)<->x∈p.1::iP m\/x=k;grind
theorem WH{m:List (Int×aV)}{k:Int}:k∈iP m<->(jh m k).isSome=true:=by
 unfold jh iP;simp
def Ad(l:List aV):Prop:=∀ a∈l,∀ b∈l,a.1=b.1->a=b
def qi(l:List aV)(k:Int):Option aV:=l.find? λs=>s.1 == k
def rb:List aV->List (Int×aV)->Option (List (Int×aV))
 | [],m=>some m
 | s::l,m=>if ((jh m s.1).isSome&&!decide ((jh m s.1).getD jg=s))=true then none else rb l (kE m s.1 s)
structure tU(P:List aV)(m:List (Int×aV)):Prop where
 oo:∀ k,jh m k=qi P k
 l7:(iP m).Nodup
 Ae:Ad P
 DE:m.length<=P.length
theorem WI{l:List aV}{k:Int}{s:aV}(h:qi l k=some s):s∈l/\s.1=k:=by
 unfold qi at h;grind
theorem akP{l:List aV}{k:Int}(h:qi l k=none):∀ s∈l,s.1≠k:=by
 unfold qi at h;grind
theorem tU.nil:tU [] []:=⟨λ_=>rfl,.nil,λa h=>by simp,Nat.le_refl _⟩
theorem Af:∀ (l P:List aV) (m:List (Int×aV)),tU P m->(Ad (P++l)->∃ c8,rb l m=some c8/\tU (P++l) c8)/\(¬Ad (P++l)->rb l m=none)
 | [],P,m,h=>by simp only[List.append_nil];exact⟨λ_=>⟨m,rfl,h⟩,λaA=>absurd h.Ae aA⟩
 | s::l,P,m,h=>by
  unfold rb;rw[h.oo];cases ar:qi P s.1 with
  | some o=>
   obtain⟨ag,G⟩:=WI ar;by_cases he:o=s
   ·subst he;simp only[Option.isSome_some,Option.getD_some,decide_true,Bool.not_true,Bool.and_false,Bool.false_eq_true,if_false];have:=Af l (P++[o]) (kE m o.1 o) ⟨λk=>?_,(DD _ _ _).1 h.l7,?_,?_⟩
    ·grind
    ·rw[NR,h.oo];unfold qi at ar ⊢;grind
    ·intro a aU b ab vr;simp only[List.mem_append,List.mem_singleton]at aU ab;exact h.Ae a (aU.elim id λe=>e ▸ ag) b (ab.elim id λe=>e ▸ ag) vr
    ·have an:o.1∈iP m:=WH.2 (by rw[h.oo,ar];rfl);have ai:(iP (kE m o.1 o)).length<=(iP m).length:=by
      have h1:=(DD o.1 o m).1 h.l7;have h2:iP (kE m o.1 o) ⊆ iP m:=λx hx=>by
       rcases ((DD o.1 o m).2 x).1 hx with hx | hx
       ·exact hx
       ·exact hx ▸ an
      exact h1.length_le_of_subset h2
     have:=h.DE;simp only[iP,List.length_map]at ai;grind
   ·simp only[Option.isSome_some,Option.getD_some,he,decide_false,Bool.not_false,Bool.and_self,if_true];refine⟨λaA=>absurd (aA o (by grind) s (by simp) G) he,λ_=>trivial⟩
  | none=>
   simp only[Option.isSome_none,Bool.false_and,Bool.false_eq_true,if_false];have:=Af l (P++[s]) (kE m s.1 s) ⟨λk=>?_,(DD _ _ _).1 h.l7,?_,?_⟩
   ·grind
   ·rw[NR,h.oo];have qY:=ar;unfold qi at ar ⊢;grind
   ·have ar:=akP ar;intro a aU b ab vr;simp only[List.mem_append,List.mem_singleton]at aU ab;rcases aU with aU | rfl<;>rcases ab with ab | rfl
    ·exact h.Ae a aU b ab vr
    ·exact absurd vr (ar a aU)
    ·exact absurd vr.symm (ar b ab)
    ·rfl
   ·have:=WG s.1 s m;have:=h.DE;grind
theorem Ag(l:List aV):kI l=false<->Ad l:=by
 unfold kI tR;rw[<-Bool.not_eq_true,List.any_eq_true];constructor
 ·intro h a aU b ab vr;obtain⟨i,G,rfl⟩:=List.mem_iff_getElem.1 aU;obtain⟨k,ao,rfl⟩:=List.mem_iff_getElem.1 ab;by_cases he:l[i]=l[k]
  ·exact he
  ·exfalso;have dZ:i≠k:=λe=>he (by grind);rcases Nat.lt_or_gt_of_ne dZ with bZ | bZ
   ·refine h ⟨k,by grind,List.any_eq_true.2 ⟨i,by grind,?_⟩⟩;grind
   ·refine h ⟨i,by grind,List.any_eq_true.2 ⟨k,by grind,?_⟩⟩;grind
 ·rintro h ⟨i,G,ao⟩;obtain⟨k,ao,hc⟩:=List.any_eq_true.1 ao;simp only[List.mem_range]at G ao;rw[sq G,sq (by omega:k<l.length)]at hc;simp only[Bool.and_eq_true,decide_eq_true_eq,Bool.not_eq_true',decide_eq_false_iff_not]at hc;exact hc.2 (h _ (List.getElem_mem _) _ (List.getElem_mem _) hc.1)
theorem akQ{l:List aV}:kI l=true<->¬Ad l:=by rw[<-Ag];simp
theorem WJ{l:List aV}{m:List (Int×aV)}(h:tU l m)(hid:∀ s∈l,bM s.1 0 99=true):(e7 gW (iP m)).map (λk=>(jh m k).getD jg)=gC l:=by
 have e1:e7 gW (iP m)=(dT 0 99).filter λk=>(qi l k).isSome:=by
  refine z_ ?_ ?_
  ·refine List.Pairwise.filter _ ?_;unfold dT;rw[List.pairwise_map];exact (List.pairwise_lt_range).imp λh=>by omega
  ·refine (List.perm_ext_iff_of_nodup h.l7 ?_).2 λk=>?_
   ·refine List.Pairwise.filter _ ?_;unfold dT;rw[List.pairwise_map];exact (List.pairwise_lt_range).imp λh=>by omega
   ·rw[WH,h.oo,List.mem_filter,sc];refine⟨λhs=>⟨?_,hs⟩,λhs=>hs.2⟩;obtain⟨s,hs⟩:=Option.isSome_iff_exists.1 hs;obtain⟨h1,h2⟩:=WI hs;exact h2 ▸ ov.1 (hid s h1)
 rw[e1];unfold gC;have:∀ L:z1',(L.filter λk=>(qi l k).isSome).map (λk=>(jh m k).getD jg)=L.filterMap λid=>l.find? λs=>s.1 == id:=by
  intro L;induction L with
  | nil=>rfl
  | cons k L aG=>
   rw[List.filter_cons,List.filterMap_cons];have e:(l.find? λs=>s.1 == k)=qi l k:=rfl;rw[e];cases ar:qi l k with
   | none=>grind
   | some s=>
    have hW:(jh m k).getD jg=s:=by rw[h.oo,ar];rfl
    grind
 grind
theorem akR{l:List aV}{m:List (Int×aV)}(h:tU l m)(hid:∀ s∈l,bM s.1 0 99=true):(gC l).length<=l.length:=by
 rw[<-WJ h hid,List.length_map,Hi,iP,List.length_map];exact h.DE
theorem WK{aF:Type}{r:aF}{fin:List (Int×aV)->aF}:∀ (l:List aV) (m:List (Int×aV)),eD (λs m=>if ((jh m s.1).isSome&&!decide ((jh m s.1).getD jg=s))=true then .done r else .next (kE m s.1 s)) fin l m=match rb l m with | none=>r | some c8=>fin c8
 | [],m=>rfl
 | s::l,m=>by
  simp only[eD,rb];by_cases h:((jh m s.1).isSome&&!decide ((jh m s.1).getD jg=s))=true
  ·grind
  ·simp only[h,Bool.false_eq_true,if_false];exact WK l _
def vs(l:List aV):Prop:=l.length<=24/\∀ s∈l,bM s.1 0 99=true
abbrev Ah:aJ:=⟨.slice gU,.ax (.slice gU) .bool,vs,λl=>if kI l=true then ([],false) else (gC l,true)⟩
theorem akS{m:List (Int×aV)}{xR:z1'}{aF:Type}(h:xR.length<=24) :
 M.loop (λ(A:z1'×Int×Int×List aV×List (Int×aV)×Unit)=>if decide (A.2.2.1<A.2.1)=true then M.af (0<=A.2.2.1/\A.2.2.1<Int.ofNat (List.length A.1)) (M.af (b6
 (Add.add (List.length A.2.2.2.1) (Add.add 0 1))) (M.pure (aa.next (A.1,A.2.1,IntKind.wrap .i64 (Add.add A.2.2.1 1),A.2.2.2.1++[Option.getD
 (Option.map (λx=>x.2) (List.find? (λp=>decide (List.getD A.1 (Int.toNat A.2.2.1) 0=p.1)) A.2.2.2.2.1)) (0,0,0,0,0,0)],A.2.2.2.2.1,())))) else M.bind (M.pure (aa.next (A.2.2.2.1,()))) λr=>M.pure (aa.done r)) (xR,Int.ofNat (List.length xR),0,[],m,())=M.pure (aa.next (xR.map (λk=>(jh m k).getD jg),()):aa (List aV×Unit) aF):=by
 rw[M.gg xR (λi (b:List aV)=>(xR,(xR.length:Int),(i:Int),b,m,())) (λk b=>.next (b++[(jh m k).getD jg])) (λb=>.next (b,())) (λi b=>b.length=i) [] ?_ ?_ ?_ ?_]
 ·rw[dM,xD];rfl
 ·rfl
 ·rfl
 ·intro i G b ab;have hw:=bo (n:=(i:Int)+1) (by omega) (by omega);refine⟨?_,λaZ cS=>?_⟩
  ·simp only[bJ,cE G,if_true,cT G,cq G,M.bg,b7,hw];rw[M.bp (hG (by grind))];rfl
  grind
 simp
def sr{fY:Type}(R:M fY):List aV×Int×Int×List (Int×aV)×Unit->M (aa (List aV×Int×Int×List (Int×aV)×Unit) (aa (List (Int×aV)×Unit) fY)):=λ(A:List aV×Int×Int×List (Int×aV)×Unit)=>if decide (A.2.2.1<A.2.1)=true then M.af (0<=A.2.2.1/\A.2.2.1 <
 Int.ofNat (List.length A.1)) (if (Option.isSome (Option.map (λx=>x.2) (List.find? (λp=>decide ((List.getD A.1 (Int.toNat A.2.2.1) (0,0,0,0,0,0)).1=p.1)) A.2.2.2.1))&&!(decide ((Option.getD (Option.map (λx=>x.2) (List.find? (λp=>decide ((List.getD A.1 (Int.toNat A.2.2.1)
 (0,0,0,0,0,0)).1=p.1)) A.2.2.2.1)) (0,0,0,0,0,0)).1=(List.getD A.1 (Int.toNat A.2.2.1) (0,0,0,0,0,0)).1)&&(decide ((Option.getD
 (Option.map (λx=>x.2) (List.find? (λp=>decide ((List.getD A.1 (Int.toNat A.2.2.1) (0,0,0,0,0,0)).1=p.1)) A.2.2.2.1)) (0,0,0,0,0,0)).2.1=(List.getD A.1 (Int.toNat A.2.2.1) (0,0,0,0,0,0)).2.1)&&(decide ((Option.getD (Option.map (λx=>x.2) (List.find? (λp=>
 decide ((List.getD A.1 (Int.toNat A.2.2.1) (0,0,0,0,0,0)).1=p.1)) A.2.2.2.1)) (0,0,0,0,0,0)).2.2.1=(List.getD A.1 (Int.toNat A.2.2.1)
 (0,0,0,0,0,0)).2.2.1)&&(decide ((Option.getD (Option.map (λx=>x.2) (List.find? (λp=>decide ((List.getD A.1 (Int.toNat A.2.2.1) (0,0,0,0,0,0)).1=p.1)) A.2.2.2.1)) (0,0,0,0,0,0)).2.2.2.1=(List.getD A.1 (Int.toNat A.2.2.1) (0,0,0,0,0,0)).2.2.2.1)&&(decide
 ((Option.getD (Option.map (λx=>x.2) (List.find? (λp=>decide ((List.getD A.1 (Int.toNat A.2.2.1) (0,0,0,0,0,0)).1=p.1)) A.2.2.2.1))
 (0,0,0,0,0,0)).2.2.2.2.1=(List.getD A.1 (Int.toNat A.2.2.1) (0,0,0,0,0,0)).2.2.2.2.1)&&decide ((Option.getD (Option.map (λx=>x.2)
 (List.find? (λp=>decide ((List.getD A.1 (Int.toNat A.2.2.1) (0,0,0,0,0,0)).1=p.1)) A.2.2.2.1)) (0,0,0,0,0,0)).2.2.2.2.2=(List.getD
 A.1 (Int.toNat A.2.2.1) (0,0,0,0,0,0)).2.2.2.2.2)))))))=true then M.bind (M.bind R λr=>M.pure (aa.done r)) λr=>
 M.pure (aa.done r) else M.pure (aa.next (A.1,A.2.1,IntKind.wrap .i64 (Add.add A.2.2.1 1),kE A.2.2.2.1 (List.getD A.1 (Int.toNat A.2.2.1)
 (0,0,0,0,0,0)).1 (List.getD A.1 (Int.toNat A.2.2.1) (0,0,0,0,0,0)),()))) else M.bind (M.pure (aa.next (A.2.2.2.1,()))) λr=>M.pure
 (aa.done r)
theorem WL{fY:Type}{R:M fY}{l:List aV}(ai:l.length<=24){i:Nat}(G:i<l.length)(m:List (Int×aV)):sr R (l,(l.length:Int),(i:Int),m,())=if ((jh m l[i].1).isSome&&!decide ((jh m l[i].1).getD jg=l[i]))=true then M.bind (M.bind R λr=>M.pure (aa.done r)) λr=>M.pure (aa.done r) else M.pure (.next (l,(l.length:Int),((i+1:Nat):Int),kE m l[i].1 l[i],())):=by
 have hw:=bo (n:=(i:Int)+1) (by omega) (by omega);have es:=Wo ((jh m l[i].1).getD jg) l[i];unfold sr;simp only[bJ,cE G,if_true,cT G,cq G,M.bg,b7,hw];rw[show (Option.map (λx=>x.2) (List.find? (λp=>decide (l[i].1=p.1)) m))=jh m l[i].1 from rfl];grind
theorem WM{fY:Type}{R:M fY}{l:List aV}(m:List (Int×aV)):sr R (l,(l.length:Int),(l.length:Int),m,())=M.pure (.done (.next (m,()))):=by
 unfold sr;simp
def Ai{fY:Type}(k:List aV->M fY):List (Int×aV)×Unit->M fY:=λ(A:List (Int×aV)×Unit)=>M.bind (M.bind
 (xQ.sh A.1) λy=>M.bind (sk.sh y) λy=>M.loop (λ(A:z1'×Int×Int×List aV×
 List (Int×aV)×Unit)=>if decide (A.2.2.1<A.2.1)=true then M.af (0<=A.2.2.1/\A.2.2.1<Int.ofNat (List.length A.1)) (M.af (b6
 (Add.add (List.length A.2.2.2.1) (Add.add 0 1))) (M.pure (aa.next (A.1,A.2.1,IntKind.wrap .i64 (Add.add A.2.2.1 1),A.2.2.2.1++[Option.getD
 (Option.map (λx=>x.2) (List.find? (λp=>decide (List.getD A.1 (Int.toNat A.2.2.1) 0=p.1)) A.2.2.2.2.1)) (0,0,0,0,0,0)],A.2.2.2.2.1,())))) else M.bind (M.pure (aa.next (A.2.2.2.1,()))) λr=>M.pure (aa.done r)) (y,Int.ofNat (List.length y),0,[],A.1,())) (aa.bl λ(A
 : List aV×Unit)=>k A.1)
theorem akT{l:List aV}{m:List (Int×aV)}(ee:tU l m)(hid:vs l){fY:Type}(k:List aV->M fY):Ai k (m,())=k (gC l):=by
 obtain⟨ai,hid⟩:=hid;have hp:sk.pre (jF (some m)):=WB (by have:=ee.DE;omega);have e:sk.sh (jF (some m))=M.pure (e7 gW (iP m)):=by
  refine (M.bF hp _).trans (congrArg M.pure ?_);exact WC
 unfold Ai;show M.bind (M.bind (xQ.sh m) _) _=_;rw[show xQ.sh m=M.pure (jF (some m)) from rfl,M.aE,e,M.aE,akS (by rw[Hi,iP,List.length_map];have:=ee.DE;omega),M.aE,M.bK,WJ ee hid]
theorem WN(l:List aV)(h:vs l)(hc:kI l=false){fY:Type}(k:List aV->M fY)(R:M fY) :
  M.bind (M.loop (sr R) (l,Int.ofNat (List.length l),0,[],())) (aa.bl (Ai k))=k (gC l):=by
 have aA:=(Ag l).1 hc;obtain⟨h1,_⟩:=Af l [] [] .nil;rw[List.nil_append]at h1;obtain⟨m,an,ee⟩:=h1 aA;have key:M.loop (sr R) (l,Int.ofNat (List.length l),0,[],())=M.pure (.next (m,())):=by
  have gen:∀ (k:Nat) (i:Nat) (c8:List (Int×aV)),l.length - i=k->i<=l.length->rb (l.drop i) c8=some m->tU (l.take i) c8->M.loop (sr R) (l,(l.length:Int),(i:Int),c8,())=M.pure (.next (m,())):=by
   intro k;induction k with
   | zero=>
    intro i c8 ao G ag _;have:i=l.length:=by omega
    subst this;rw[List.drop_length]at ag;simp only[rb,Option.some.injEq]at ag;subst ag;exact M.sT (WM _)
   | succ k aG=>
    intro i c8 ao G ag My;have G:i<l.length:=by omega
    rw[List.drop_eq_getElem_cons G]at ag;unfold rb at ag;split at ag
    ·cases ag
    ·rename_i Fl;refine (M.Bk ((WL h.1 G c8).trans (if_neg Fl))).trans ?_;refine aG (i+1) _ (by omega) G ag ?_;obtain⟨g1,_⟩:=Af [l[i]] (l.take i) c8 My;have pn:l.take i++[l[i]]=l.take (i+1):=by simp
     rw[pn]at g1;obtain⟨axl,e1,e2⟩:=g1 λa aU b ab=>aA a (List.mem_of_mem_take aU) b (List.mem_of_mem_take ab);unfold rb at e1;rw[if_neg Fl]at e1;simp only[rb,Option.some.injEq]at e1;grind
  exact gen l.length 0 [] rfl (Nat.zero_le _) an .nil
 rw[key,M.aE,M.bK,akT ee h]
theorem akU(l:List aV)(h:vs l)(hc:kI l=true){fY:Type}(k:List aV->M fY)(r:fY) :
  M.bind (M.loop (sr (M.pure r)) (l,Int.ofNat (List.length l),0,[],())) (aa.bl (Ai k))=M.pure r:=by
 rw[M.dk l (λi (m:List (Int×aV))=>(l,(l.length:Int),(i:Int),m,())) (λs m=>if ((jh m s.1).isSome&&!decide ((jh m s.1).getD jg=s))=true then (.done (.done r):aa (List (Int×aV)) (aa (List (Int×aV)×Unit) _)) else .next (kE m s.1 s)) (λm=>.next (m,())) [] ?_ ?_ ?_]
 ·rw[WK];obtain⟨_,h2⟩:=Af l [] [] .nil;rw[h2 (akQ.1 hc)];simp
 ·rfl
 ·intro i G m;rw[WL h.1 G m,M.aE,M.aE];exact UK (mk:=λ(m:List (Int×aV))=>(l,(l.length:Int),((i+1:Nat):Int),m,()))
 ·intro m;exact WM m
theorem akV(x):M.le (ajQ sk.sh xQ.sh x) (Ah.sh x):=M.bh λh=>by
 show M.bind (M.loop (sr (M.pure ([],false))) (x,Int.ofNat (List.length x),0,[],())) (aa.bl (Ai λa=>M.pure (a,true)))=M.pure (if kI x=true then ([],false) else (gC x,true));cases hc:kI x with
 | true=>exact akU x h hc _ _
 | false=>exact WN x h hc _ _
def Ho(x:List aV×Unit):M (Bool×List aV×Unit):=M.du (vs x.1/\kI x.1=false) (true,gC x.1,())
theorem akW(x):M.le (aj3 sk.sh xQ.sh x) (Ho x):=M.bh λh=>by
 show M.bind (M.loop (sr (M.pure (false,[],()))) (x.1,Int.ofNat (List.length x.1),0,[],())) (aa.bl (Ai λa=>M.pure (true,a,())))=_;exact WN x.1 h.1 h.2 _ _
theorem Hp{c:aQ}(h:jG c=true):vs c.2.1:=by
 unfold jG so at h;simp only[Bool.and_eq_true,List.all_eq_true,Bool.not_eq_true',Bool.or_eq_false_iff,decide_eq_false_iff_not]at h;obtain⟨⟨⟨⟨⟨a_,_⟩,_⟩,h2⟩,_⟩,_⟩:=h;refine⟨by omega,λs hs=>?_⟩;have:=h2 s hs;unfold k6 at this;grind
theorem akX(x):M.le (VA vp.sh Ah.sh x) (hI.sh x):=M.bh λh=>by
 unfold VA;show _=M.pure (cu x);rw[show vp.sh x=M.pure (jG x) from M.bF h _];unfold cu;cases hc:jG x with
 | false=>simp
 | true=>
  simp only[M.aE,Bool.not_true,Bool.false_eq_true,if_false,if_true];rw[show Ah.sh x.2.1=M.pure (if kI x.2.1=true then ([],false) else (gC x.2.1,true)) from M.bF (Hp hc) _];cases kI x.2.1<;>simp
def Hq(x:(aV->M Bool)×List aV×Unit):M ((Nat×Nat)×List aV×Unit):=M.du (x.2.1.length<2 ^ 63/\∀ y∈x.2.1,∃ b,x.1 y=M.pure b)
 ((0,(x.2.1.filter λs=>!(x.1 s).val false).length),(x.2.1.filter λs=>!(x.1 s).val false)++List.replicate (x.2.1.length - (x.2.1.filter λs=>!(x.1 s).val false).length) jg,())
theorem WO{aj:Type}(p:aj->Bool):∀ (l:List aj) (i:Int),(l.any p=true->∃ k:Nat,∃ h:k<l.length,hr p l i=i+k/\p l[k]=true/\(∀ y∈l.take k,p y=false))
 | [],i,h=>by grind
 | x::l,i,h=>by
  unfold hr;by_cases hx:p x=true
  ·grind
  ·have nq:p x=false:=by grind
   simp only[List.any_cons,nq,Bool.false_or]at h;obtain⟨k,ao,h1,h2,h3⟩:=WO p l (i+1) h;refine⟨k+1,by grind,by grind,by grind,?_⟩;grind
theorem akY(x):M.le (We (kH gU).sh x) (Hq x):=M.bh λh=>by
 obtain⟨f,l,u⟩:=x;obtain⟨h1,h2⟩:=h;change l.length<2 ^ 63 at h1;change ∀ y∈l,∃ b,f y=M.pure b at h2;unfold We;rw[show (kH gU).sh (l,f)=M.pure (hr (λy=>(f y).val false) l 0) from M.bF ⟨h1,h2⟩ _];rw[M.aE];by_cases aU:(l.any λy=>(f y).val false)=true
 ·obtain⟨k,ao,e1,e2,e3⟩:=WO (λy=>(f y).val false) l 0 aU;have hw:=bo (n:=(k:Int)+1) (by omega) (by omega);have dZ:¬(decide ((0:Int)+k=-1)=true):=by simp
  rw[e1,if_neg dZ];generalize be:(λs=>!(f s).val false)=q at *
  have akZ:∀ s,(!(f s).val false)=q s:=λs=>by grind
  have pn:l.take k=(l.take k).filter q:=by
   rw[List.filter_eq_self.2];grind
  have Hk:(l.take (k+1)).filter q=l.take k:=by
   rw[List.take_add_one,List.getElem?_eq_getElem ao,Option.toList_some,List.filter_append,<-pn];grind
  rw[M.dk (l.drop (k+1)) (λi (_:Unit)=>(f,(((l.take (k+1+i)).filter q).length:Int),((k+1+i:Nat):Int),(l.take (k+1+i)).filter q++l.drop ((l.take (k+1+i)).filter q).length,())) (λ_ u=>.next u) (λ_=>.next (((l.filter q).length:Int),l.filter q++l.drop (l.filter q).length,())) () ?_ ?_ ?_]
  ·rw[dM];have hlen:(l.filter q).length<=l.length:=List.length_filter_le _ _;have fS:(l.filter q++l.drop (l.filter q).length).length=l.length:=by grind
   simp only[M.aE,M.bK,bJ,fS];rw[M.bp (by omega)];simp only[M.bg,Int.toNat_natCast];have er:List.take (l.filter q).length (l.filter q++l.drop (l.filter q).length)=l.filter q:=List.take_left;rw[er];refine (M.bp ⟨by omega,by omega,by grind⟩ _).trans ?_;refine congrArg M.pure (Prod.ext rfl (Prod.ext ?_ rfl));show (_++_++_:List aV)=_;exact (congrArg (λz=>_++z) (List.drop_eq_nil_iff.2 (by simp))).trans (List.append_nil _)
  ·show (f,(0:Int)+k,IntKind.wrap .i64 (Add.add ((0:Int)+k) 1),l,())=_;rw[Int.zero_add,b7,hw];refine Prod.ext rfl (Prod.ext ?_ (Prod.ext ?_ (Prod.ext ?_ rfl)))
   ·grind
   ·rfl
   ·show l=(l.take (k+1+0)).filter q++l.drop ((l.take (k+1+0)).filter q).length;rw[Nat.add_zero,Hk,List.length_take,Nat.min_eq_left (by omega),List.take_append_drop]
  ·intro i G _;have G:k+1+i<l.length:=by grind
   have hle:((l.take (k+1+i)).filter q).length<=k+i:=by
    have h1:=List.length_filter_le q (l.drop (k+1) |>.take i);rw[List.take_add,List.filter_append,List.length_append,Hk];grind
   have bZ:((l.take (k+1+i)).filter q).length<l.length:=by omega
   have lv:((l.take (k+1+i)).filter q++l.drop ((l.take (k+1+i)).filter q).length).length=l.length:=by grind
   have hw:=bo (n:=((k+1+i:Nat):Int)+1) (by omega) (by omega);have gA:=bo (n:=(((l.take (k+1+i)).filter q).length:Int)+1) (by omega) (by omega);have c6:k+1+i<((l.take (k+1+i)).filter q++l.drop ((l.take (k+1+i)).filter q).length).length:=by omega
   have BR:((l.take (k+1+i)).filter q).length<((l.take (k+1+i)).filter q++l.drop ((l.take (k+1+i)).filter q).length).length:=by omega
   have jf:((l.take (k+1+i)).filter q++l.drop ((l.take (k+1+i)).filter q).length)[k+1+i]=l[k+1+i]:=by
    rw[List.getElem_append_right (by omega),List.getElem_drop];congr 1;omega
   obtain⟨b,ab⟩:=h2 _ (List.getElem_mem G);have hv:q l[k+1+i]=!b:=by rw[<-akZ,ab,M.fp]
   have pn:(l.take (k+1+(i+1))).filter q=(l.take (k+1+i)).filter q++(if (!b)=true then [l[k+1+i]] else []):=by
    rw[show k+1+(i+1)=k+1+i+1 from rfl,List.take_add_one,List.getElem?_eq_getElem G,Option.toList_some,List.filter_append,List.filter_cons,hv,List.filter_nil]
   simp only[bJ,cE c6,if_true,cT c6,cq c6,cq BR,M.bg,jf,ab,M.aE,b7,gA];simp only[Int.toNat_natCast];cases b with
   | true=>
    simp only[Bool.not_true,Bool.false_eq_true,if_false,M.aE,M.bK,hw,aa.gS,List.append_nil]at pn ⊢;grind
   | false=>
    simp only[Bool.not_false,if_true,M.aE,M.bK,hw,aa.gS]at pn ⊢;have es:(List.filter q (List.take (k+1+i) l)++List.drop (List.filter q (List.take (k+1+i) l)).length l).set (List.filter q (List.take (k+1+i) l)).length l[k+1+i]=(l.take (k+1+(i+1))).filter q++l.drop ((l.take (k+1+(i+1))).filter q).length:=by
     rw[pn,List.set_append_right _ _ (Nat.le_refl _),Nat.sub_self,List.drop_eq_getElem_cons bZ,List.set_cons_zero];simp
    rw[es];have en:(((l.take (k+1+i)).filter q).length:Int)+1=(((l.take (k+1+(i+1))).filter q).length:Int):=by grind
    grind
  ·intro _;have ai:(l.drop (k+1)).length=l.length - (k+1):=by simp
   have e0:k+1+(l.drop (k+1)).length=l.length:=by omega
   have hle:(l.filter q).length<=l.length:=List.length_filter_le _ _;simp only[e0,List.take_length];rw[if_neg (by grind),M.aE]
 ·rw[DA _ _ aU];have:(l.filter λs=>!(f s).val false)=l:=by
   simp_all
  simp only[decide_true,if_true,this,Nat.sub_self,List.replicate_zero,List.append_nil]
abbrev e0:bj:=((0,0,0,0,0,0),0)
def oy(c:aQ)(w:z1')(u:Int):List bj:=((e8 c).filter λs=>decide (tQ s=u)).map λs=>(s,xN s+w.getD (ph s).toNat 0)
def bO(c:aQ)(w:z1')(u:Int):List bj:=e7 hH (oy c w u)
def qj(l:List bj)(i:Nat):Bool:=!(decide (0<i)&&decide ((l.getD i e0).2=(l.getD (i - 1) e0).2))&&decide (dN (l.getD i e0).1=1+((i % 2:Nat):Int))
def d'(l:List bj):Bool:=(List.range l.length).all (qj l)
structure gD(c:aQ):Prop where
 ck:cu c=0
 dG:c.1.length<=3
 dJ:c.2.1.length<=12
 jt:c.2.2.1.length<=12
 n4:c.2.2.2.1.length<=4
 iI:jG c=true
 Ae:Ad c.2.1
 NS:pj c.2.2.2.2=true
 clk:∀ s∈c.1,-30<=s.1/\s.1<=s.2/\s.2<=30
 iQ:∀ s∈c.2.1,k6 c.1.length s=true
 h':Ac c.2.2.2.1=true
theorem oz{c:aQ}(h:cu c=0):gD c:=by
 have h0:=h;unfold cu at h;split at h
 ·rename_i hc;split at h
  ·omega
  ·rename_i aA;have lA:=hc;unfold jG so at hc;simp only[Bool.and_eq_true,List.all_eq_true,Bool.not_eq_true',Bool.or_eq_false_iff,decide_eq_false_iff_not]at hc;obtain⟨⟨⟨⟨⟨⟨⟨⟨bT,a2⟩,a3⟩,a4⟩,a5⟩,fW⟩,fX⟩,hJ⟩,a9⟩:=hc;refine⟨h0,by omega,by omega,by omega,by omega,lA,(Ag _).1 (by grind),a5,λs hs=>?_,fX,a9⟩;have:=fW s hs;unfold sn at this;simp only[Bool.and_eq_true,Bool.not_eq_true',decide_eq_false_iff_not,ov]at this;omega
 omega
theorem Aj{n:Nat}{s:aV}:k6 n s=true<->(0<=k5 s/\k5 s<=99)/\(0<=ph s/\ph s<=(n:Int) - 1)/\(0<=xN s/\xN s<=9999)/\(0<=tQ s/\tQ s<=9)/\(0<=iy s/\iy s<=99)/\(dN s=1\/dN s=2/\iy s=0):=by
 unfold k6;simp only[Bool.and_eq_true,ov,Bool.or_eq_true,decide_eq_true_eq,and_assoc]
theorem gD.ak0{c:aQ}(h:gD c):∃ m,tU c.2.1 m:=by
 obtain⟨h1,_⟩:=Af c.2.1 [] [] .nil;rw[List.nil_append]at h1;obtain⟨m,_,ee⟩:=h1 h.Ae;grind
theorem gD.NT{c:aQ}(h:gD c):(e8 c).length<=12:=by
 obtain⟨m,ee⟩:=h.ak0;have h1:=akR ee (Hp h.iI).2;have h2:=List.length_filter_le (λs:aV=>!c.2.2.1.contains s.1) (gC c.2.1);have:=h.dJ;unfold e8;omega
theorem DF{l:List aV}{s:aV}(h:s∈gC l):s∈l:=by
 unfold gC at h;grind
theorem ak1{c:aQ}{s:aV}(h:s∈e8 c):s∈c.2.1:=DF (List.mem_filter.1 h).1
theorem gD.Ak{c:aQ}(h:gD c){s:aV}(hs:s∈e8 c):k6 c.1.length s=true:=h.iQ s (ak1 hs)
def po(c:aQ)(w:z1'):Prop:=w.length=c.1.length/\∀ n∈w,-30<=n/\n<=30
theorem po.at{c:aQ}{w:z1'}(h:po c w)(az:gD c){s:aV}(hs:s∈e8 c):0<=ph s/\ph s<(w.length:Int)/\-30<=w.getD (ph s).toNat 0/\w.getD (ph s).toNat 0<=30:=by
 have h1:=(Aj.1 (az.Ak hs)).2.1;have ai:ph s<(w.length:Int):=by rw[h.1];omega
 exact⟨h1.1,ai,h.2 _ (xE h1.1 ai)⟩
theorem DG{c:aQ}(h:gD c)(w:z1')(u:Int):(bO c w u).length<=12:=by
 unfold bO oy;rw[Hi,List.length_map];exact Nat.le_trans (List.length_filter_le _ _) h.NT
theorem DH{c:aQ}{w:z1'}{u:Int}{e:bj}(h:e∈bO c w u):e.1∈e8 c/\tQ e.1=u/\e.2=xN e.1+w.getD (ph e.1).toNat 0:=by
 unfold bO at h;rw[Wt]at h;unfold oy at h;grind
theorem WQ(i:Nat):Int.tmod (i:Int) 2=((i % 2:Nat):Int):=by
 rfl
theorem ak2(l:List bj)(i:Nat):(decide ((i:Int) > 0)&&decide ((l.getD i e0).2=(l.getD (i - 1) e0).2)||decide (dN (l.getD i e0).1≠1+((i % 2:Nat):Int)))=!qj l i:=by
 unfold qj;simp
def j4(a b:Int)(s:Int×Int):Int:=max 0 (min (b - 1) s.2 - max a s.1+1)
def lL(cl:z4')(a b:Int):Int:=cl.foldl (λn s=>n - j4 a b s) (b - a)
def WR(cl:z4'):Prop:=cl.length<=4/\∀ s∈cl,0<=s.1/\s.1<=s.2/\s.2<=9999
theorem gD.NU{c:aQ}(h:gD c):WR c.2.2.2.1:=by
 refine⟨h.n4,λs hs=>?_⟩;have:=h.h';unfold Ac at this;rw[List.all_eq_true]at this;obtain⟨i,G,rfl⟩:=List.mem_iff_getElem.1 hs;have:=this i (by grind);unfold iz at this;rw[sq G]at this;simp only[Bool.and_eq_true,ov,Bool.not_eq_true',decide_eq_false_iff_not]at this;omega
abbrev Al(x:aQ×Int×Int):Prop:=WR x.1.2.2.2.1/\-100<=x.2.1/\x.2.1<=x.2.2/\x.2.2<=11000
theorem ak3{a b:Int}{s:Int×Int}(aU:-100<=a)(ab:b<=11000)(hs:0<=s.1/\s.1<=s.2/\s.2<=9999):0<=j4 a b s/\j4 a b s<=20000:=by
 unfold j4;omega
theorem WS{n:Int}:(if n > 0 then n else 0)=max 0 n:=by omega
theorem WT{a b:Int}:(if a<b then a else b)=min b a:=by omega
theorem ak4{a b:Int}:(if a<b then a else b)=min a b:=by omega
theorem ak5{a b:Int}:(if a > b then a else b)=max b a:=by omega
theorem ak6{a b:Int}:(if a > b then a else b)=max a b:=by omega
abbrev vt:aJ:=⟨.ax je (.ax tI tI),tI,Al,λx=>lL x.1.2.2.2.1 x.2.1 x.2.2⟩
theorem ak7(x):M.le (VX x) (vt.sh x):=M.bh λh=>by
 obtain⟨c,a,b⟩:=x;obtain⟨⟨h1,h2⟩,h3,aR,bw⟩:=h;change -100<=a at h3;change a<=b at aR;change b<=11000 at bw;change c.2.2.2.1.length<=4 at h1;change ∀ s∈c.2.2.2.1,_ at h2;unfold VX;have zM:=bo (n:=b - a) (by omega) (by omega);rw[M.gg c.2.2.2.1 (λi (n:Int)=>(a,b,n,c.2.2.2.1,(c.2.2.2.1.length:Int),(i:Int),())) (λs n=>.next (n - j4 a b s)) (λn=>.next (n,())) (λi n=>-(20000*(i:Int))<=n/\n<=20000) (b - a) ?_ ?_ ?_ ?_]
 ·rw[dM,M.aE];rfl
 ·grind
 ·omega
 ·intro i G n aA;have hs:=h2 _ (List.getElem_mem G);have hc:=ak3 (a:=a) (b:=b) h3 bw hs;have hw:=bo (n:=(i:Int)+1) (by omega) (by omega);refine⟨?_,λaZ cS=>?_⟩
  ·simp only[Prod.cK,bJ,cE G,if_true,cT G,cq G,M.bg,b7,hw];have b1:=bo (n:=b - 1) (by omega) (by omega);have cI:=bo (n:=min (b - 1) c.2.2.2.1[i].2 - max a c.2.2.2.1[i].1) (by omega) (by omega);have eC:=bo (n:=min (b - 1) c.2.2.2.1[i].2 - max a c.2.2.2.1[i].1+1) (by omega) (by omega);have Am:=bo (n:=n - j4 a b c.2.2.2.1[i]) (by omega) (by omega);simp only[b1,ak4,ak6,cI,eC,WS];rw[show max (min (b - 1) c.2.2.2.1[i].2 - max a c.2.2.2.1[i].1+1) 0=j4 a b c.2.2.2.1[i] from Int.max_comm _ _,Am];rfl
  grind
 simp
def k7(t:pf)(m:Int):Int:=if m>=t.2.2.2.2.1 then t.2.2.2.2.2.1 else min t.2.2.2.1 ((max 0 (m - t.1)+t.2.1 - 1) / t.2.1*t.2.2.1)
abbrev xS(x:pf×Int):Prop:=pj x.1=true/\-100000<=x.2/\x.2<=20000
abbrev vu:aJ:=⟨.ax NH tI,tI,xS,λx=>k7 x.1 x.2⟩
theorem Hr{t:pf}:pj t=true<->(0<=t.1/\t.1<=9999)/\(1<=t.2.1/\t.2.1<=9999)/\(1<=t.2.2.2.2.1/\t.2.2.2.2.1<=9999)/\(0<=t.2.2.1/\t.2.2.1<=100000)/\(0<=t.2.2.2.1/\t.2.2.2.1<=100000)/\(0<=t.2.2.2.2.2.1/\t.2.2.2.2.2.1<=100000)/\(0<=t.2.2.2.2.2.2/\t.2.2.2.2.2.2<=100000):=by
 unfold pj;simp only[Bool.and_eq_true,ov,and_assoc]
theorem WU{t:pf}{m:Int}(h:xS (t,m)):0<=(max 0 (m - t.1)+t.2.1 - 1) / t.2.1/\(max 0 (m - t.1)+t.2.1 - 1) / t.2.1<=30000/\0<=(max 0 (m - t.1)+t.2.1 - 1) / t.2.1*t.2.2.1/\(max 0 (m - t.1)+t.2.1 - 1) / t.2.1*t.2.2.1<=3000000000:=by
 obtain⟨h1,h2,h3⟩:=h;change -100000<=m at h2;change m<=20000 at h3;obtain⟨bT,a2,a3,a4,a5,fW,fX⟩:=(Hr (t:=t)).1 h1;have dd:0<=(max 0 (m - t.1)+t.2.1 - 1) / t.2.1:=Int.ediv_nonneg (by omega) (by omega);have dV:(max 0 (m - t.1)+t.2.1 - 1) / t.2.1<=max 0 (m - t.1)+t.2.1 - 1:=Int.ediv_le_self _ (by omega);have j8:(max 0 (m - t.1)+t.2.1 - 1) / t.2.1<=30000:=by omega
 refine⟨dd,j8,Int.mul_nonneg dd a4.1,?_⟩;calc (max 0 (m - t.1)+t.2.1 - 1) / t.2.1*t.2.2.1<=30000*100000:=Int.mul_le_mul j8 a4.2 a4.1 (by omega)
  _=3000000000:=by decide
theorem ak8{t:pf}{m:Int}(h:xS (t,m)):0<=k7 t m/\k7 t m<=100000:=by
 have:=WU h;obtain⟨h1,h2,h3⟩:=h;obtain⟨bT,a2,a3,a4,a5,fW,fX⟩:=(Hr (t:=t)).1 h1;unfold k7;omega
theorem ak9(x):M.le (VL x) (vu.sh x):=M.bh λh=>by
 obtain⟨t,m⟩:=x;have hu:=WU h;obtain⟨h1,h2,h3⟩:=h;change -100000<=m at h2;change m<=20000 at h3;obtain⟨bT,a2,a3,a4,a5,fW,fX⟩:=(Hr (t:=t)).1 h1;have b1:=bo (n:=m - t.1) (by omega) (by omega);have cI:=bo (n:=max 0 (m - t.1)+t.2.1) (by omega) (by omega);have eC:=bo (n:=max 0 (m - t.1)+t.2.1 - 1) (by omega) (by omega);have Am:=bo (n:=(max 0 (m - t.1)+t.2.1 - 1) / t.2.1) (by omega) (by omega);have ak_:=bo (n:=(max 0 (m - t.1)+t.2.1 - 1) / t.2.1*t.2.2.1) (by omega) (by omega);have WV:Int.tdiv (max 0 (m - t.1)+t.2.1 - 1) t.2.1=(max 0 (m - t.1)+t.2.1 - 1) / t.2.1:=Int.tdiv_eq_ediv_of_nonneg (by omega);unfold VL;show _=M.pure (k7 t m);unfold k7;simp only[Prod.cK,b1,WS,b7,cI,eC,WV,Am,Int.mul_comm t.2.2.1,ak_,WT,decide_eq_true_eq];rw[M.bp (show t.2.1≠0 from by omega)];grind
def gE(c:aQ)(w:z1')(u:Int):List bj:=if d' (bO c w u)=true then bO c w u else []
def mL(l:List bj)(minute:Int):Int×Int:=l.foldl (λb e=>if e.2<=minute then (if dN e.1=2 then (-1,e.2) else (iy e.1,e.2)) else b) (-1,0)
def Hs(c:aQ)(w:z1')(minute:Int):Int:=((dT 0 9).foldl (λn u=>if (mL (gE c w u) minute).1>=0 then n+1 else n) (0:Int))
def tV(l:List bj):List (bj×bj):=l.zip (l.drop 1)
def DI(cl:z4')(iQ:Int)(l:List bj):Option Int:=((tV l).find? λp=>k5 p.1.1 == iQ&&dN p.1.1 == 1).map λp=>lL cl p.1.2 p.2.2
def jH(c:aQ)(w:z1')(iQ:Int):Option Int:=(dT 0 9).findSome? λu=>DI c.2.2.2.1 iQ (gE c w u)
theorem ak'{l:List bj}{i:Nat}(h:i+1<(e7 hH l).length):(e7 hH l)[i].2<=(e7 hH l)[i+1].2:=by
 have:=List.pairwise_iff_getElem.1 (aky l) i (i+1) (by omega) h (by omega);omega
theorem DJ{c:aQ}(az:gD c){w:z1'}(h2:po c w){u:Int}{e:bj}(he:e∈bO c w u):-30<=e.2/\e.2<=10029:=by
 obtain⟨h1,_,h3⟩:=DH he;have aO:=(h2.at az h1).2.2;have aP:=(Aj.1 (az.Ak h1)).2.2.1;omega
theorem An{c:aQ}{w:z1'}{u:Int}{e:bj}(he:e∈gE c w u):e∈bO c w u:=by
 unfold gE at he;grind
theorem ala{c:aQ}{w:z1'}{u:Int}{i:Nat}(h:i+1<(gE c w u).length):(gE c w u)[i].2<=(gE c w u)[i+1].2:=by
 have key:∀ l,gE c w u=l->∀ (h:i+1<l.length),l[i].2<=l[i+1].2:=by
  intro l ai h;unfold gE at ai;split at ai
  ·subst ai;exact ak' h
  grind
 grind
theorem WW{c:aQ}(az:gD c){w:z1'}(h2:po c w){u:Int}{i:Nat}(h:i+1<(gE c w u).length):Al (c,(gE c w u)[i].2,(gE c w u)[i+1].2):=by
 have h3:=DJ az h2 (An (List.getElem_mem (by omega:i<(gE c w u).length)));have aR:=DJ az h2 (An (List.getElem_mem h));exact⟨az.NU,show -100<=(gE c w u)[i].2 by omega,ala h,show (gE c w u)[i+1].2<=11000 by omega⟩
theorem alb{l:List bj}{i:Nat}(h:i<(tV l).length):∃ h2:i+1<l.length,(tV l)[i]=(l[i],l[i+1]):=by
 unfold tV at h ⊢;grind
theorem alc{a b:Int}{s:Int×Int}(h:b<=s.1):j4 a b s=0:=by unfold j4;omega
def re:z4'->Prop
 | []=>True
 | s::r=>s.1<=s.2/\(∀ t∈r,s.2<t.1)/\re r
theorem NV:∀ (cl:z4') (a b n:Int),cl.foldl (λn s=>n - j4 a b s) n=n - (cl.map (j4 a b)).sum
 | [],a,b,n=>by simp
 | s::r,a,b,n=>by simp only[List.foldl_cons,List.map_cons,List.sum_cons];rw[NV r];omega
theorem WX:∀ (cl:z4') (a b:Int),re cl->a<=b->(cl.map (j4 a b)).sum<=b - a
 | [],a,b,_,h=>by grind
 | s::r,a,b,⟨h1,h2,h3⟩,h=>by
  simp only[List.map_cons,List.sum_cons];by_cases ab:s.2+1<=b
  ·have aG:=WX r (max a (s.2+1)) b h3 (by omega);have e:r.map (j4 a b)=r.map (j4 (max a (s.2+1)) b):=by
    refine List.map_congr_left λt aH=>?_;have:=h2 t aH;unfold j4;omega
   rw[e];have:j4 a b s<=max a (s.2+1) - a:=by unfold j4;omega
   omega
  ·have e:∀ l:z4',(∀ t∈l,b<=t.1)->(l.map (j4 a b)).sum=0:=by
    intro l;induction l with
    | nil=>simp
    | cons t l aG=>
     intro ai;simp only[List.map_cons,List.sum_cons];rw[alc (ai t (by simp)),aG λx hx=>ai x (by grind)];rfl
   rw[e r λt aH=>by grind];unfold j4;omega
theorem WY:∀ (cl:z4'),(∀ i,(h:i+1<cl.length)->cl[i].2<cl[i+1].1)->(∀ s∈cl,s.1<=s.2)->re cl
 | [],_,_=>trivial
 | s::r,h,h2=>by
  have V:re r:=WY r (λi G=>by have:=h (i+1) (by grind);grind) λt aH=>h2 t (by grind);refine⟨h2 s (by simp),?_,V⟩;cases r with
  | nil=>simp
  | cons t r=>
   have h0:=h 0 (by simp);simp at h0;intro u hu;rcases List.mem_cons.1 hu with rfl | hu
   ·exact h0
   ·have:=V.2.1 u hu;grind
theorem gD.ald{c:aQ}(h:gD c):re c.2.2.2.1:=by
 have hc:=h.h';unfold Ac at hc;rw[List.all_eq_true]at hc;refine WY _ (λi G=>?_) λs hs=>(h.NU.2 s hs).2.1;have:=hc (i+1) (by grind);unfold iz at this;grind
theorem ale{cl:z4'}{a b:Int}(h:re cl)(vr:a<=b):0<=lL cl a b:=by
 unfold lL;rw[NV];have:=WX cl a b h vr;omega
theorem WZ:∀ (cl:z4') (a b:Int),0<=(cl.map (j4 a b)).sum
 | [],_,_=>by simp
 | s::r,a,b=>by
  simp only[List.map_cons,List.sum_cons];have:=WZ r a b;have:0<=j4 a b s:=by unfold j4;omega
  omega
theorem alf{cl:z4'}{a b:Int}:lL cl a b<=b - a:=by
 unfold lL;rw[NV];have:=WZ cl a b;omega
theorem alg{cl:z4'}{iQ:Int}{l:List bj}{m:Int}(h:DI cl iQ l=some m):∃ i,∃ G:i+1<l.length,l[i].1.1=iQ/\dN l[i].1=1/\m=lL cl l[i].2 l[i+1].2:=by
 unfold DI at h;rw[Option.map_eq_some_iff]at h;obtain⟨p,hp,rfl⟩:=h;have h2:=List.find?_some hp;obtain⟨i,G,rfl⟩:=List.mem_iff_getElem.1 (List.mem_of_find?_eq_some hp);obtain⟨c6,e⟩:=alb G;grind
theorem W0{c:aQ}(az:gD c){w:z1'}(h2:po c w){iQ m:Int}(h:jH c w iQ=some m):0<=m/\m<=11000:=by
 unfold jH at h;obtain⟨u,_,hu⟩:=List.exists_of_findSome?_eq_some h;obtain⟨i,G,_,_,rfl⟩:=alg hu;have hp:=WW az h2 G;have an:=ale az.ald hp.2.2.1;have h3:=DJ az h2 (An (List.getElem_mem (by omega:i<(gE c w u).length)));have aR:=DJ az h2 (An (List.getElem_mem G));have bw:=@alf c.2.2.2.1 (gE c w u)[i].2 (gE c w u)[i+1].2;grind
def Ht(c:aQ)(w:z1')(alh:Int):Int:=(e8 c).foldl (λn s=>if (dN s=1/\iy s=alh)/\(jH c w (k5 s)).isSome=true then n+k7 c.2.2.2.2 ((jH c w (k5 s)).getD 0) else n) 0
def Ao(c:aQ)(iQ:Int):Bool:=(e8 c).any λs=>k5 s == iQ&&dN s == 1
def ss(c:aQ)(w:z1'):Bool:=(List.range w.length).all λi=>bM (w.getD i 0) (c.1.getD i (0,0)).1 (c.1.getD i (0,0)).2
def iA(c:aQ)(w:z1'):Bool:=decide (w.length=c.1.length)&&ss c w&&(dT 0 9).all λu=>d' (bO c w u)
theorem W1{c:aQ}(az:gD c){w:z1'}(ai:w.length=c.1.length)(h:ss c w=true):po c w:=by
 refine⟨ai,λn aA=>?_⟩;obtain⟨i,G,rfl⟩:=List.mem_iff_getElem.1 aA;unfold ss at h;rw[List.all_eq_true]at h;have h1:=h i (by grind);rw[sq G,sq (by omega:i<c.1.length),ov]at h1;have:=az.clk _ (List.getElem_mem (by omega:i<c.1.length));omega
def j5:z4'->Nat
 | []=>1
 | s::r=>(s.2 - s.1+1).toNat*j5 r
def mM(c:aQ):z4'->z1'->List (z1')
 | [],w=>if iA c w=true then [w] else []
 | s::r,w=>(dT s.1 s.2).flatMap λn=>mM c r (w++[n])
theorem NW{aj β:Type}(f:aj->List β)(k:Nat):∀ (l:List aj),(∀ x∈l,(f x).length<=k)->(l.flatMap f).length<=l.length*k
 | [],_=>by simp
 | x::l,h=>by
  simp only[List.flatMap_cons,List.length_append,List.length_cons];have:=NW f k l λy aM=>h y (by grind);grind
theorem NX(c:aQ):∀ (r:z4') (w:z1'),(mM c r w).length<=j5 r
 | [],w=>by unfold mM j5;grind
 | s::r,w=>by
  unfold mM j5;have:=NW (λn=>mM c r (w++[n])) (j5 r) (dT s.1 s.2) λn _=>NX c r _;rw[xF]at this;omega
theorem W2{aj β:Type}(f:aj->List β):∀ (l:List aj) (b:List β),l.foldl (λb x=>b++f x) b=b++l.flatMap f
 | [],b=>by simp
 | x::l,b=>by simp only[List.foldl_cons,List.flatMap_cons];rw[W2 f l,List.append_assoc]
abbrev cv(c:aQ):List (z1'):=mM c c.1 []
def ali(c:aQ):Prop:=cu c=0->j5 c.1<=60
def gu(c:aQ):Prop:=akn c/\ali c
theorem gu.gN{c:aQ}(h:gu c):iC c:=by
 obtain⟨⟨h1,h2,h3,aR⟩,_⟩:=h;exact⟨by omega,by omega,by omega,by omega⟩
def eh(c:aQ)(b:Bool):List (z1')×Int:=if cu c≠0 then ([],cu c) else if b=false then ([],1) else if cv c=[] then ([],3) else (cv c,0)
theorem NY(c:aQ):∀ (r:z4') (w x:z1'),x∈mM c r w->iA c x=true
 | [],w,x,h=>by
  unfold mM at h;grind
 | s::r,w,x,h=>by
  unfold mM at h;rw[List.mem_flatMap]at h;obtain⟨n,_,aA⟩:=h;exact NY c r _ x aA
theorem DK{c:aQ}(h:cu c=0){w:z1'}(hw:iA c w=true):po c w:=by
 unfold iA at hw;simp only[Bool.and_eq_true,decide_eq_true_eq]at hw;exact W1 (oz h) hw.1.1 hw.1.2
theorem Hu{c:aQ}{w:z1'}(hw:iA c w=true){u:Int}(hu:0<=u/\u<=9):d' (bO c w u)=true:=by
 unfold iA at hw;simp only[Bool.and_eq_true,List.all_eq_true]at hw;exact hw.2 u (sc.2 hu)
theorem alj{c:aQ}{b:Bool}{w:z1'}(h:w∈(eh c b).1):cu c=0/\w∈cv c/\iA c w=true/\po c w:=by
 unfold eh at h;split at h
 ·grind
 ·rename_i hc;have hc:cu c=0:=by omega
  split at h
  ·grind
  ·split at h
   ·grind
   ·have:=NY c _ _ _ h;exact⟨hc,h,this,DK hc this⟩
def Hv:Option (Int×Int)->Int->Int×Int
 | none,n=>(n,n)
 | some s,n=>(min s.1 n,max s.2 n)
def xT(l:z1'):Option (Int×Int):=l.foldl (λo n=>some (Hv o n)) none
def tW(l:z1'):Int×Int:=(xT l).getD (0,0)
theorem alk(a b c:Int):b4.sh (a,b,c)=M.pure (bM a b c):=rfl
def k8(c:aQ)(iQ:Int):z1'×Int:=if (eh c (Ao c iQ)).2≠0 then ([],(eh c (Ao c iQ)).2) else if (eh c (Ao c iQ)).1.filterMap (λw=>jH c w iQ)=[] then ([],3) else ((eh c (Ao c iQ)).1.filterMap (λw=>jH c w iQ),0)
def Hw(c:aQ)(n:Int):(Int×Int)×Int:=(tW (k8 c n).1,(k8 c n).2)
abbrev Hx:aJ:=⟨.ax je tI,.ax mc tI,λx=>gu x.1,λx=>Hw x.1 x.2⟩
def Hy(c:aQ)(n:Int):(Int×Int)×Int:=(tW ((k8 c n).1.map λm=>k7 c.2.2.2.2 m),(k8 c n).2)
abbrev Hz:aJ:=⟨.ax je tI,.ax mc tI,λx=>gu x.1,λx=>Hy x.1 x.2⟩
def HA(c:aQ)(g:Int):(Int×Int)×Int:=(tW ((eh c (bM g 0 99)).1.map λw=>Ht c w g),(eh c (bM g 0 99)).2)
abbrev HB:aJ:=⟨.ax je tI,.ax mc tI,λx=>gu x.1,λx=>HA x.1 x.2⟩
def HC(c:aQ)(t:Int):(Int×Int)×Int:=(tW ((eh c (bM t 0 9999)).1.map λw=>Hs c w t*c.2.2.2.2.2.2.2.2.2.2),(eh c (bM t 0 9999)).2)
abbrev HD:aJ:=⟨.ax je tI,.ax mc tI,λx=>gu x.1,λx=>HC x.1 x.2⟩
def vv(u t:Int):Bool:=bM u 0 9&&bM t 0 9999
def NZ(c:aQ)(u t:Int):z1':=(eh c (vv u t)).1.map λw=>(mL (gE c w u) t).1
def rf(c:aQ)(u t:Int):z1'×Int:=((dT (-1) 99).filter λg=>(NZ c u t).contains g,(eh c (vv u t)).2)
abbrev HE:aJ:=⟨.ax je (.ax tI tI),.ax fF tI,λx=>gu x.1,λx=>rf x.1 x.2.1 x.2.2⟩
def DL(c:aQ)(w:z1')(u t:Int):Bool:=decide ((mL (gE c w u) t).1>=0)&&decide (lL c.2.2.2.1 (mL (gE c w u) t).2 t>=c.2.2.2.2.2.2.2.2.1)
def oA(c:aQ)(l:List (z1'))(u t:Int):Nat:=(l.filter λw=>DL c w u t).length
def su(c:aQ)(t:Int):z1'×z1'×Int:=
 if (eh c (bM t 0 9999)).2≠0 then ([],[],(eh c (bM t 0 9999)).2)
 else ((dT 0 9).filter (λu=>decide (oA c (eh c (bM t 0 9999)).1 u t=(eh c (bM t 0 9999)).1.length)),(dT 0 9).filter (λu=>decide (oA c (eh c (bM t 0 9999)).1 u t > 0)),0)
abbrev HF:aJ:=⟨.ax je tI,.ax fF (.ax fF tI),λx=>gu x.1,λx=>su x.1 x.2⟩
theorem N0:∀ (l:List bj) (t:Int) (b:Int×Int),(∀ e∈l,(0<=iy e.1))->(l.foldl (λb e=>if e.2<=t then (if dN e.1=2 then (-1,e.2) else (iy e.1,e.2)) else b) b=b\/∃ e∈l,e.2<=t/\l.foldl (λb e=>if e.2<=t then (if dN e.1=2 then (-1,e.2) else (iy e.1,e.2)) else b) b=(if dN e.1=2 then (-1,e.2) else (iy e.1,e.2)))
 | [],t,b,_=>.inl rfl
 | x::l,t,b,h=>by
  simp only[List.foldl_cons];by_cases hx:x.2<=t
  ·rw[if_pos hx];rcases N0 l t (if dN x.1=2 then (-1,x.2) else (iy x.1,x.2)) λe he=>h e (by grind) with h1 | ⟨e,he,h1,h2⟩
   ·exact .inr ⟨x,by simp,hx,h1⟩
   ·exact .inr ⟨e,by simp[he],h1,h2⟩
  ·rw[if_neg hx];rcases N0 l t b λe he=>h e (by grind) with h1 | ⟨e,he,h1,h2⟩
   ·exact .inl h1
   ·exact .inr ⟨e,by simp[he],h1,h2⟩
theorem alm{c:aQ}(az:gD c){w:z1'}(h2:po c w){u t:Int}(aH:t<=9999)(h:(mL (gE c w u) t).1>=0):Al (c,(mL (gE c w u) t).2,t):=by
 rcases N0 (gE c w u) t (-1,0) (λe he=>((Aj.1 (az.Ak (DH (An he)).1)).2.2.2.2.1).1) with h1 | ⟨e,he,h1,h3⟩
 ·unfold mL at h;grind
 ·have:=DJ az h2 (An he);have e2:(mL (gE c w u) t).2=e.2:=by
   unfold mL;grind
  exact⟨az.NU,by grind,by grind,show t<=11000 by omega⟩
abbrev kn(z:gT):aQ:=(z.1,z.2.1,z.2.2.1,z.2.2.2.1,z.2.2.2.2.1,z.cK,z.e6,z.gq,z.h9,z.jE,z.kF)
abbrev N1(z:gT):List aV:=z.hq
abbrev W3(z:gT):List (Option dt):=z.mJ
abbrev DM(c:aQ)(l:List aV)(t:List (Option dt)):gT:=(c.1,c.2.1,c.2.2.1,c.2.2.2.1,c.2.2.2.2.1,c.2.2.2.2.2.1,c.2.2.2.2.2.2.1,c.2.2.2.2.2.2.2.1,c.2.2.2.2.2.2.2.2.1,c.2.2.2.2.2.2.2.2.2.1,c.2.2.2.2.2.2.2.2.2.2,l,t,())
def tX(l:List aV)(w:z1')(u:Int):List bj:=(l.filter λs=>decide (tQ s=u)).map λs=>(s,xN s+w.getD (ph s).toNat 0)
theorem aln{l:List aV}{w:z1'}{i:Nat}(h:i<l.length)(u:Int):tX (l.take (i+1)) w u=if l[i].2.2.2.2.1=u then tX (l.take i) w u++[(l[i],xN l[i]+w.getD (ph l[i]).toNat 0)] else tX (l.take i) w u:=by
 unfold tX;rw[List.take_add_one,List.getElem?_eq_getElem h,Option.toList_some,List.filter_append,List.map_append];grind
theorem W4(l:List aV)(w:z1')(u:Int):(tX l w u).length<=l.length:=by
 unfold tX;grind
abbrev mN(c:aQ)(w:z1'):List (List bj):=[bO c w 0,bO c w 1,bO c w 2,bO c w 3,bO c w 4,bO c w 5,bO c w 6,bO c w 7,bO c w 8,bO c w 9]
def sv(c:aQ)(w:z1'):Bool:=(dT 0 9).all λu=>d' (bO c w u)
theorem alo(c:aQ)(w:z1'):sv c w=(d' (bO c w 0)&&(d' (bO c w 1)&&(d' (bO c w 2)&&(d' (bO c w 3)&&(d' (bO c w 4)&&(d' (bO c w 5)&&(d' (bO c w 6)&&(d' (bO c w 7)&&(d' (bO c w 8)&&d' (bO c w 9)))))))))):=by
 unfold sv;rw[show dT 0 9=[0,1,2,3,4,5,6,7,8,9] from by decide];simp
abbrev alp(x:z1'×gT):Prop:=cu (kn x.2)=0/\po (kn x.2) x.1/\N1 x.2=e8 (kn x.2)
def tY(x:z1'×gT):M (Option dt×Bool×gT):=M.du (alp x) (if sv (kn x.2) x.1=true then (some (x.1,mN (kn x.2) x.1),true,x.2) else (none,false,x.2))
theorem alq{τ aF:Type}{body:Int×Int×Int×τ->M (aa (Int×Int×Int×τ) aF)}(l:List bj){a n:Int}{z:τ}(bad sw:aF)
  (ab:∀ i,i<l.length->body (a,n,(i:Int),z)=M.pure (if (!qj l i)=true then .done bad else .next (a,n,((i+1:Nat):Int),z)))
  (he:body (a,n,(l.length:Int),z)=M.pure (.done sw)):M.loop body (a,n,0,z)=M.pure (if d' l=true then sw else bad):=by
 rw[M.dk (List.range l.length) (λi (_:Unit)=>(a,n,(i:Int),z)) (λi b=>if (!qj l i)=true then .done bad else .next b) (λ_=>sw) () ?_ ?_ ?_]
 ·rw[kC (q:=qj l) _ _ (λ_=>rfl)];rfl
 ·rfl
 ·intro i G b;have G:i<l.length:=by grind
  rw[ab i G,List.getElem_range];cases qj l i<;>rfl
 grind
theorem W5{X:Type}{l:List bj}(ai:l.length<=12){i:Nat}(G:i<l.length){k:Int}(ao:k=1+((i % 2:Nat):Int))(aI B:M X):NG l l[i] i k aI B=if (!qj l i)=true then aI else B:=by
 unfold NG;have y_:=ak2 l i;rw[Bool.or_comm,sq G]at y_;have e1:(decide (l[i].1.2.2.2.1≠k)||decide ((i:Int) > 0)&&decide (l[i].2=(List.getD l (Int.toNat (IntKind.wrap .i64 ((i:Int) - 1))) ((0,0,0,0,0,0),0)).2))=!qj l i:=by
  rw[<-y_,ao];rcases Nat.eq_zero_or_pos i with h0 | h0
  ·simp_all
  ·rw[bo (n:=(i:Int) - 1) (by omega) (by omega),show ((i:Int) - 1).toNat=i - 1 from by omega]
 rw[e1];have bw:decide ((i:Int) > 0)=true->(0<=IntKind.wrap .i64 ((i:Int) - 1)/\IntKind.wrap .i64 ((i:Int) - 1)<Int.ofNat (List.length l)):=λh=>by
  have h:=of_decide_eq_true h;rw[bo (n:=(i:Int) - 1) (by omega) (by omega),bJ];omega
 simp_all
theorem alr{l:List bj}(h:l.length<=12):z' (lK.sh,l,())=M.pure (e7 hH l,()):=M.bF ⟨h,rfl⟩ _
theorem als{l:List aV}{w:z1'}{c:aQ}(ai:l.length<=12)(hs:∀ s∈l,k6 c.1.length s=true)(hw:po c w){i:Nat}(G:i<l.length):0<=l[i].2.2.2.2.1/\l[i].2.2.2.2.1<=9/\(0<=l[i].2.1/\l[i].2.1<(w.length:Int))/\IntKind.wrap .i64 (l[i].2.2.1+w.getD l[i].2.1.toNat 0)=l[i].2.2.1+w.getD l[i].2.1.toNat 0:=by
 have h:=Aj.1 (hs _ (List.getElem_mem G));have h1:ph l[i]<(w.length:Int):=by rw[hw.1];omega
 have h2:=hw.2 _ (xE (d:=0) h.2.1.1 h1);have h3:=h.2.2.1;have aR:=h.2.2.2.1;exact⟨aR.1,aR.2,⟨h.2.1.1,h1⟩,bo (by grind) (by grind)⟩
abbrev nL(f:Nat->List bj)(c:gT):k4:=(f 0,f 1,f 2,f 3,f 4,f 5,f 6,f 7,f 8,f 9,c)
theorem N2{f g:Nat->List bj}(h:∀ u,u<10->f u=g u)(c:gT):nL f c=nL g c:=by
 simp only[nL,h 0 (by decide),h 1 (by decide),h 2 (by decide),h 3 (by decide),h 4 (by decide),h 5 (by decide),h 6 (by decide),h 7 (by decide),h 8 (by decide),h 9 (by decide)]
theorem N3(f:Nat->List bj)(c:gT):∀ k,k<10->mb k (nL f c)=f k
 | 0,_ | 1,_ | 2,_ | 3,_ | 4,_ | 5,_ | 6,_ | 7,_ | 8,_ | 9,_=>rfl
 | k+10,h=>by omega
theorem W6(f:Nat->List bj)(c:gT)(v:List bj):∀ k,k<10->Hc k v (nL f c)=nL (λj=>if j=k then v else f j) c
 | 0,_ | 1,_ | 2,_ | 3,_ | 4,_ | 5,_ | 6,_ | 7,_ | 8,_ | 9,_=>rfl
 | k+10,h=>by omega
theorem W7{X:Type}(f:Nat->M X){v:Int}{u:Nat}(h:v=(u:Int)):∀ {n:Nat},u<=n->He f v n=f u
 | 0,hu=>by
  obtain rfl:u=0:=by omega
  rfl
 | n+1,hu=>by
  unfold He;simp only[jC,bJ,h];by_cases e:u=n+1
  ·rw[if_pos (by omega),e]
  ·rw[if_neg (by omega)];exact W7 f rfl (by omega)
theorem alu{c:aQ}{w:z1'}(jZ:∀ u,(bO c w u).length<=12){z:gT}{g:Nat->List bj}{k:Nat}(ao:k<10)(az:g k=bO c w k) :
  M.loop (Hd k) (Int.ofNat k,Int.ofNat (List.length (bO c w k)),0,w,nL g z)=M.pure (if d' (bO c w k)=true then .next (Int.ofNat k,w,nL g z) else .done (.done (none,false,z))):=by
 have e1:mb k (nL g z)=bO c w k:=(N3 g z k ao).trans az;refine alq (bO c w k) _ _ (λi G=>?_) ?_
 ·have hw:=bo (n:=(i:Int)+1) (by omega) (by have:=jZ k;omega);unfold Hd;simp only[bJ,cE G,if_true,e1,cq G,cT G,M.bg];rcases Nat.mod_two_eq_zero_or_one i with an | an
  ·have au:decide (Int.tmod (i:Int) 2=1)=false:=by rw[WQ,an];rfl
   simp only[au,Bool.false_eq_true,if_false,M.EJ,M.aE,M.bK];rw[M.bp (by decide),e1];refine (W5 (jZ k) G (by rw[an];rfl) _ _).trans ?_;simp only[b7,hw];cases qj (bO c w k) i<;>rfl
  ·have au:decide (Int.tmod (i:Int) 2=1)=true:=by rw[WQ,an];rfl
   simp only[au,if_true,M.EJ,M.aE,M.bK];rw[M.bp (by decide),e1];refine (W5 (jZ k) G (by rw[an];rfl) _ _).trans ?_;simp only[b7,hw];cases qj (bO c w k) i<;>rfl
 ·unfold Hd;simp
theorem W8{c:aQ}{w:z1'}(hlen:∀ u,(oy c w u).length<=12)(jZ:∀ u,(bO c w u).length<=12){z:gT}:∀ n k,k+n=10->
  Dy z' lK.sh n k (w,nL (λu=>if u<k then bO c w u else oy c w u) z)=M.pure (if ((List.range' k n).all λu=>d' (bO c w u))=true then .next (w,nL (λu=>bO c w u) z) else .done (none,false,z))
 | 0,k,h=>by
  unfold Dy;rw[N2 (g:=λu=>bO c w u) λu hu=>if_pos (by omega)];rfl
 | n+1,k,h=>by
  have ao:k<10:=by omega
  have hs:z' (lK.sh,oy c w k,())=M.pure (bO c w k,()):=alr (hlen k);have hw:=bo (n:=(k:Int)+1) (by omega) (by omega);have e2:Hc k (bO c w k) (nL (λu=>if u<k then bO c w u else oy c w u) z)=nL (λu=>if u<k+1 then bO c w u else oy c w u) z:=by
   rw[W6 _ _ _ _ ao];exact N2 (λu hu=>by
    by_cases e:u=k
    ·subst e;simp
    ·by_cases e2:u<k
     ·simp[e,e2,show u<k+1 by omega]
     ·simp[e,e2,show ¬u<k+1 by omega]) _
  unfold Dy;dsimp only;rw[M.bp (by simp only[bJ];omega),N3 _ _ _ ao,if_neg (Nat.lt_irrefl k),hs,M.aE];simp only[e2];rw[alu jZ ao (if_pos (Nat.lt_succ_self k)),M.aE,List.range'_succ,List.all_cons];cases d' (bO c w k) with
  | false=>rfl
  | true=>
   simp only[if_true,Bool.true_and,M.bK];rw[M.bp (by simp only[bJ,b7,hw];omega)];exact W8 hlen jZ n (k+1) (by omega)
theorem N4(x):M.le (Wk fcClone.sh z' lK.sh x) (tY x):=M.bh λh=>by
 obtain⟨w,z⟩:=x;obtain⟨h1,h2,h3⟩:=h;change cu (kn z)=0 at h1;change po (kn z) w at h2;change z.hq=e8 (kn z) at h3;show _=M.pure (if sv (kn z) w=true then (some (w,mN (kn z) w),true,z) else (none,false,z));generalize tB:kn z=c at *
 have az:=oz h1;have ai:=az.NT;have oR:∀ s∈e8 c,k6 c.1.length s=true:=λs hs=>az.Ak hs;have aA:=az.dG;have hlen:∀ u,(oy c w u).length<=12:=λu=>Nat.le_trans (W4 (e8 c) w u) ai;have jZ:∀ u,(bO c w u).length<=12:=λu=>DG az w u;have pq:∀ u,tX z.hq w u=oy c w u:=λu=>by rw[h3];rfl
 rw[<-h3]at ai oR;clear h3;unfold Wk;rw[show fcClone.sh w=M.pure w from M.bF (show w.length<=3000000 by have:=h2.1;omega) _];simp only[M.aE,M.bK,M.bg];refine (congrArg (λm=>M.bind m _) (M.dk z.hq (λi (_:Unit)=>(w,z.hq,(z.hq.length:Int),(i:Int),w,nL (λu=>tX (z.hq.take i) w u) z)) (λ_ b=>.next b) (λ_=>.next (w,nL (λu=>oy c w u) z)) () ?_ ?_ ?_)).trans ?_
 ·simp only[bJ,List.take_zero];rfl
 ·intro i G b;obtain⟨aO,aP,bA,ga⟩:=als (c:=c) ai oR h2 G;have hw:=bo (n:=(i:Int)+1) (by omega) (by omega);have ij:∀ u,b6 (Add.add (tX (z.hq.take i) w u).length (Add.add 0 1)):=λu=>hG (by have:=W4 (z.hq.take i) w u;rw[List.length_take]at this;simp only[jC];omega);obtain⟨u,hu⟩:∃ u:Nat,z.hq[i].2.2.2.2.1=(u:Int):=⟨z.hq[i].2.2.2.2.1.toNat,by omega⟩
  have alv:u<=9:=by omega
  simp only[bJ,cE G,if_true,cT G,cq G,M.bg];rw[M.bp (show (0<=z.hq[i].2.2.2.2.1/\z.hq[i].2.2.2.2.1<((10:Nat):Int)) from⟨aO,by omega⟩),W7 _ hu alv];unfold Wj;simp only[cT G,bJ,N3 _ _ u (show u<10 by omega),W6 _ _ _ u (show u<10 by omega)];rw[M.bp trivial,M.bp (by omega),M.bp bA,M.bp (ij _),M.bp trivial,M.bp (by omega),M.aE,M.bK];simp only[b7,hw,ga];refine congrArg (λq=>M.pure (aa.next (w,z.hq,(z.hq.length:Int),((i:Int)+1),w,q))) ?_;refine N2 (λj aC=>?_) _;rw[aln G,hu];by_cases e:j=u
  ·subst e;rw[if_pos rfl,if_pos rfl,<-hu]
  ·rw[if_neg e,if_neg (by omega)]
 ·intro b;simp only[List.take_length,pq];simp
 ·rw[dM,M.aE,M.bK];have e0:=W8 (c:=c) (w:=w) hlen jZ (z:=z) 10 0 rfl;rw[M.bp (by decide)];rw[show (λu:Nat=>if u<0 then bO c w u else oy c w u)=λu:Nat=>oy c w u from funext λu=>if_neg (Nat.not_lt_zero u)]at e0;rw[e0,M.aE];have e1:((List.range' 0 10).all λu=>d' (bO c w u))=sv c w:=by
   rw[alo];simp[List.range']
  rw[e1];cases sv c w<;>rfl
abbrev h_(c:aQ)(w:z1'):Option dt:=some (w,mN c w)
abbrev alw(f:Nat)(x:z1'×gT):Prop:=cu (kn x.2)=0/\N1 x.2=e8 (kn x.2)/\x.1.length<=(kn x.2).1.length/\(kn x.2).1.length<x.1.length+f/\ss (kn x.2) x.1=true/\(W3 x.2).length+j5 ((kn x.2).1.drop x.1.length)<=60
def xU(f:Nat)(x:z1'×gT):M gT:=M.du (alw f x) (DM (kn x.2) (N1 x.2) (W3 x.2++(mM (kn x.2) ((kn x.2).1.drop x.1.length) x.1).map (h_ (kn x.2))))
theorem alx(x):¬(xU 0 x).b8:=λh=>by have h1:=h.2.2.1;have h2:=h.2.2.2.1;omega
theorem aly{c:aQ}{w:z1'}{n:Int}:ss c (w++[n])=(ss c w&&bM n (c.1.getD w.length (0,0)).1 (c.1.getD w.length (0,0)).2):=by
 unfold ss;grind
theorem alz{c:aQ}{w:z1'}(ai:w.length=c.1.length)(h:ss c w=true):iA c w=sv c w:=by
 unfold iA sv;grind
set_option maxHeartbeats 1000000 in
theorem alA(f:Nat)(x):M.le (Wm (xU f) tY x) (xU (f+1) x):=M.bh λh=>by
 obtain⟨w,a0,bT,a2,a3,a4,a5,fW,fX,hJ,a9,hb,l,t,u⟩:=x;obtain⟨h1,h2,h3,aR,bw,cY⟩:=h;change cu (a0,bT,a2,a3,a4,a5,fW,fX,hJ,a9,hb)=0 at h1;change l=e8 (a0,bT,a2,a3,a4,a5,fW,fX,hJ,a9,hb) at h2;change w.length<=a0.length at h3;change a0.length<w.length+(f+1) at aR;change ss (a0,bT,a2,a3,a4,a5,fW,fX,hJ,a9,hb) w=true at bw;change t.length+j5 (a0.drop w.length)<=60 at cY;show _=M.pure (DM (a0,bT,a2,a3,a4,a5,fW,fX,hJ,a9,hb) l (t++(mM (a0,bT,a2,a3,a4,a5,fW,fX,hJ,a9,hb) (a0.drop w.length) w).map (h_ (a0,bT,a2,a3,a4,a5,fW,fX,hJ,a9,hb))));have az:=oz h1;have aA:a0.length<=3:=az.dG;unfold Wm;simp only[Prod.cK,Prod.e6,Prod.gq,Prod.h9,Prod.jE,Prod.kF,Prod.hq,Prod.mJ,Prod.pg,Prod.se,Prod.xK,Prod.Np,Prod.Nq,Prod.Nr,Prod.Ns,bJ,M.bg];by_cases ai:w.length=a0.length
 ·rw[if_pos (by simp only[decide_eq_true_eq];omega)];have alB:po (a0,bT,a2,a3,a4,a5,fW,fX,hJ,a9,hb) w:=W1 az ai bw;have ag:tY (w,a0,bT,a2,a3,a4,a5,fW,fX,hJ,a9,hb,l,t,())=M.pure (if sv (a0,bT,a2,a3,a4,a5,fW,fX,hJ,a9,hb) w=true then (h_ (a0,bT,a2,a3,a4,a5,fW,fX,hJ,a9,hb) w,true,a0,bT,a2,a3,a4,a5,fW,fX,hJ,a9,hb,l,t,()) else (none,false,a0,bT,a2,a3,a4,a5,fW,fX,hJ,a9,hb,l,t,())):=M.bF ⟨h1,alB,h2⟩ _;rw[ag,M.aE,ai,List.drop_length];unfold mM;rw[alz ai bw];cases ao:sv (a0,bT,a2,a3,a4,a5,fW,fX,hJ,a9,hb) w with
  | true=>
   rw[if_pos rfl,if_pos rfl,M.bp (hG (by simp only[jC];omega)),M.aE,M.bK];rfl
  | false=>
   simp only[Bool.false_eq_true,if_false,M.aE,M.bK,List.map_nil,List.append_nil]
 ·have bZ:w.length<a0.length:=by omega
  rw[if_neg (by simp only[decide_eq_true_eq];omega),M.bp (show (0:Int)<=(w.length:Int)/\(w.length:Int)<(a0.length:Int) by omega)];rw[List.drop_eq_getElem_cons bZ]at cY ⊢;simp only[Int.toNat_natCast,sq bZ];have hs:=az.clk _ (List.getElem_mem bZ);change -30<=a0[w.length].1/\a0[w.length].1<=a0[w.length].2/\a0[w.length].2<=30 at hs;have mO:a0.getD w.length (0,0)=a0[w.length]:=sq bZ;generalize a0[w.length]=s at *
  unfold j5 at cY;have DN:∀ n (ts:List (Option dt)),s.1<=n->n<=s.2->ts.length+j5 (a0.drop (w.length+1))<=60->xU f (w++[n],a0,bT,a2,a3,a4,a5,fW,fX,hJ,a9,hb,l,ts,())=M.pure (DM (a0,bT,a2,a3,a4,a5,fW,fX,hJ,a9,hb) l (ts++(mM (a0,bT,a2,a3,a4,a5,fW,fX,hJ,a9,hb) (a0.drop (w.length+1)) (w++[n])).map (h_ (a0,bT,a2,a3,a4,a5,fW,fX,hJ,a9,hb)))):=by
   intro n ts aO aP bA;refine (M.bF ⟨h1,h2,?_,?_,?_,?_⟩ _).trans (congrArg M.pure ?_)
   ·show DM (a0,bT,a2,a3,a4,a5,fW,fX,hJ,a9,hb) l (ts++(mM (a0,bT,a2,a3,a4,a5,fW,fX,hJ,a9,hb) (a0.drop (w++[n]).length) (w++[n])).map (h_ (a0,bT,a2,a3,a4,a5,fW,fX,hJ,a9,hb)))=_;rw[List.length_append,List.length_singleton]
   ·show (w++[n]).length<=a0.length;simp;omega
   ·show a0.length<(w++[n]).length+f;simp;omega
   ·show ss (a0,bT,a2,a3,a4,a5,fW,fX,hJ,a9,hb) (w++[n])=true;rw[aly,bw];show (true&&bM n (a0.getD w.length (0,0)).1 (a0.getD w.length (0,0)).2)=true;rw[mO,Bool.true_and];exact ov.2 ⟨aO,aP⟩
   ·show ts.length+j5 (a0.drop (w++[n]).length)<=60;rw[List.length_append,List.length_singleton];exact bA
  rw[M.gg (dT s.1 s.2) (λi (ts:List (Option dt))=>(w,(w.length:Int),s.1+(i:Int),a0,bT,a2,a3,a4,a5,fW,fX,hJ,a9,hb,l,ts,())) (λn ts=>.next (ts++(mM (a0,bT,a2,a3,a4,a5,fW,fX,hJ,a9,hb) (a0.drop (w.length+1)) (w++[n])).map (h_ (a0,bT,a2,a3,a4,a5,fW,fX,hJ,a9,hb)))) (λts=>(a0,bT,a2,a3,a4,a5,fW,fX,hJ,a9,hb,l,ts,())) (λi ts=>ts.length<=t.length+i*j5 (a0.drop (w.length+1))) t ?_ ?_ ?_ ?_]
  ·rw[dM,W2 (f:=λn=>(mM (a0,bT,a2,a3,a4,a5,fW,fX,hJ,a9,hb) (a0.drop (w.length+1)) (w++[n])).map (h_ (a0,bT,a2,a3,a4,a5,fW,fX,hJ,a9,hb)))];rw[<-List.map_flatMap];rfl
  ·rw[Int.natCast_zero,Int.add_zero]
  ·simp
  ·intro i G ts ag;rw[xF]at G;have hw:=bo (n:=s.1+(i:Int)+1) (by omega) (by omega);have au:decide (s.1+(i:Int)<=s.2)=true:=by simpa using (by omega:s.1+(i:Int)<=s.2)
   have hle:=NX (a0,bT,a2,a3,a4,a5,fW,fX,hJ,a9,hb) (a0.drop (w.length+1)) (w++[s.1+(i:Int)]);have alC:ts.length+j5 (a0.drop (w.length+1))<=60:=by
    have:(i+1)*j5 (a0.drop (w.length+1))<=(s.2 - s.1+1).toNat*j5 (a0.drop (w.length+1)):=Nat.mul_le_mul_right _ (by omega);rw[Nat.succ_mul]at this;omega
   refine⟨?_,λaZ cS=>?_⟩
   ·simp only[Int.toNat_natCast,mO,au,if_true,b7,hw,Df,List.take_length];rw[M.bp (by omega),M.bp ⟨by omega,by omega,trivial,by omega⟩,M.bp ⟨by simp only[jC];omega,hG (by simp only[jC];omega)⟩,DN _ ts (by omega) (by omega) alC,M.aE];simp only[aa.gS];rw[show s.1+((i+1:Nat):Int)=s.1+(i:Int)+1 from by omega]
   ·simp only[aa.next.injEq,Df]at cS;subst cS;rw[List.length_append,List.length_map,Nat.succ_mul];omega
  ·intro ts ag;rw[xF];have au:decide (s.1+(((s.2 - s.1+1).toNat:Nat):Int)<=s.2)=false:=by simpa using (by omega:s.2<s.1+(((s.2 - s.1+1).toNat:Nat):Int))
   simp only[Int.toNat_natCast,mO,au,Bool.false_eq_true,if_false,M.aE];rw[M.bp (by omega)]
abbrev tZ:aQ:=([],[],[],[],0,0,0,0,0,0,0)
abbrev Ap:aJ:=⟨.ax gU (.bq je),cQ,λx=>∃ c:aQ,x.2=some c/\c.2.2.1.length<2 ^ 63,λx=>(x.2.getD tZ).2.2.1.contains (k5 x.1)⟩
theorem N5(x):M.le (VZ ox.sh x) (Ap.sh x):=M.bh λh=>by
 obtain⟨s,o⟩:=x;obtain⟨c,hc,h⟩:=h;change o=some c at hc;subst hc;unfold VZ;simp only[Option.getD_some];rw[show ox.sh (c.2.2.1,s.1)=M.pure (c.2.2.1.contains s.1) from M.bF h _,M.aE]
abbrev t_(c:aQ):dD:=(c,e8 c,(cv c).map (h_ c))
def DO(c:aQ)(f:Option dD->M Bool):Bool:=(f (some (c,e8 c,[]))).val false
def sx(c:aQ)(b:Bool):Option dD×Int:=if cu c≠0 then (none,cu c) else if b=false then (none,1) else if cv c=[] then (none,3) else (some (t_ c),0)
abbrev vw:aJ:=⟨.ax je (.fn (.bq sg) .bool),.ax (.bq sg) tI,λx=>gu x.1/\(cu x.1=0->∃ b,x.2 (some (x.1,e8 x.1,[]))=M.pure b),λx=>sx x.1 (DO x.1 x.2)⟩
theorem alD{c:aQ}(az:gD c):Hq ((λs=>Ap.sh (s,some c)),gC c.2.1,())=M.pure ((0,(e8 c).length),e8 c++List.replicate ((gC c.2.1).length - (e8 c).length) jg,()):=by
 have hv:∀ s,Ap.sh (s,some c)=M.pure (c.2.2.1.contains s.1):=λs=>M.bF ⟨c,rfl,by have:=az.jt;omega⟩ _;have e:((gC c.2.1).filter λs=>!(Ap.sh (s,some c)).val false)=e8 c:=by
  unfold e8;simp_all
 have:=akO c.2.1;refine (M.bF ⟨show (gC c.2.1).length<2 ^ 63 by omega,λs _=>⟨_,hv s⟩⟩ _).trans (congrArg M.pure ?_);grind
set_option maxHeartbeats 1000000 in
theorem alE(x):M.le (VE hI.sh Ho Hq (xU 5) Ap.sh x) (vw.sh x):=M.bh λh=>by
 obtain⟨c,f⟩:=x;obtain⟨h,ar⟩:=h;change gu c at h;change cu c=0->∃ b,f (some (c,e8 c,[]))=M.pure b at ar;unfold VE;show _=M.pure (sx c (DO c f));unfold sx;rw[show hI.sh c=M.pure (cu c) from M.bF h.gN _];simp only[M.aE,decide_eq_true_eq];by_cases hc:cu c=0
 ·simp only[hc,ne_eq,not_true_eq_false,if_false];have az:=oz hc;obtain⟨b,ab⟩:=ar hc;have h1:=az.dG;have hid:=Hp az.iI;rw[show Ho (c.2.1,())=M.pure (true,gC c.2.1,()) from M.bF ⟨hid,(Ag _).2 az.Ae⟩ _,M.aE];simp only[M.bg];rw[alD az,M.aE];have pn:List.drop 0 (List.take (e8 c).length (e8 c++List.replicate ((gC c.2.1).length - (e8 c).length) jg))=e8 c:=by
   rw[List.drop_zero,List.take_left]
  simp only[pn];unfold DO;simp only[ab,M.fp,M.aE];cases b with
  | false=>simp
  | true=>
   simp only[Bool.not_true,Bool.false_eq_true,if_false,M.aE,M.bK,reduceCtorEq];simp only[Prod.cK,Prod.e6,Prod.gq,Prod.h9,Prod.jE,Prod.kF,Prod.hq,Prod.mJ,Prod.pg,Prod.se,Prod.xK,Prod.Np,Prod.Nq,Prod.Nr,Prod.Ns,pn];have mO:xU 5 ([],c.1,c.2.1,c.2.2.1,c.2.2.2.1,c.2.2.2.2.1,c.2.2.2.2.2.1,c.2.2.2.2.2.2.1,c.2.2.2.2.2.2.2.1,c.2.2.2.2.2.2.2.2.1,c.2.2.2.2.2.2.2.2.2.1,c.2.2.2.2.2.2.2.2.2.2,e8 c,[],())=M.pure (DM c (e8 c) ((cv c).map (h_ c))):=M.bF ⟨hc,rfl,Nat.zero_le _,show c.1.length<0+5 by omega,rfl,show 0+j5 c.1<=60 by have:=h.2 hc;omega⟩ _;rw[mO,M.aE];simp only[bJ,List.length_map];by_cases aH:cv c=[]
   ·simp[aH]
   ·have:¬((cv c).length:Int)=0:=λe=>aH (List.eq_nil_of_length_eq_zero (by omega));simp only[this,aH,if_false]
 ·simp only[hc,ne_eq,not_false_eq_true,if_true]
def vx(l:List (Option dt))(f:Option dt->M (Int×Bool)):Option (Int×Int):=xT (l.filterMap λt=>if ((f t).val (0,false)).2=true then some ((f t).val (0,false)).1 else none)
abbrev Aq:aJ:=⟨.ax (.bq sg) (.fn (.bq xL) (.ax tI .bool)),.ax mc .bool,λx=>∃ b:dD,x.1=some b/\b.2.2.length<=60/\∀ t∈b.2.2,∃ r,x.2 t=M.pure r,λx=>((vx (x.1.getD (tZ,[],[])).2.2 x.2).getD (0,0),(vx (x.1.getD (tZ,[],[])).2.2 x.2).isSome)⟩
theorem W9{aj β fY:Type}(g:aj->Option β)(h:fY->β->fY):∀ (l:List aj) (b:fY),l.foldl (λb x=>(g x).elim b λy=>h b y) b=(l.filterMap g).foldl h b
 | [],b=>rfl
 | x::l,b=>by
  simp only[List.foldl_cons,List.filterMap_cons];rw[W9 g h l];grind
theorem alF(x):M.le (VN x) (Aq.sh x):=M.bh λh=>by
 obtain⟨o,f⟩:=x;obtain⟨b,ab,ai,ar⟩:=h;change o=some b at ab;subst ab;unfold VN;show _=M.pure ((vx b.2.2 f).getD (0,0),(vx b.2.2 f).isSome);simp only[Option.isSome_some,M.bg,Option.getD_some];change b.2.2.length<=60 at ai;change ∀ t∈b.2.2,∃ r,f t=M.pure r at ar;generalize b.2.2=l at *
 rw[M.dk l (λi (o:Option (Int×Int))=>(f,o.isSome,l,(l.length:Int),(i:Int),o.getD (0,0),())) (λt o=>.next ((if ((f t).val (0,false)).2=true then some ((f t).val (0,false)).1 else none).elim o λn=>some (Hv o n))) (λo=>.next (o.isSome,o.getD (0,0),())) none ?_ ?_ ?_]
 ·rw[dM,W9 (λt=>if ((f t).val (0,false)).2=true then some ((f t).val (0,false)).1 else none) (λo n=>some (Hv o n)),M.aE];rfl
 ·rfl
 ·intro i G o;have hw:=bo (n:=(i:Int)+1) (by omega) (by omega);obtain⟨r,V⟩:=ar _ (List.getElem_mem G);simp only[Prod.cK,bJ,cE G,if_true,cT G,cq G,M.bg,b7,hw,V,M.aE,M.fp,aa.gS];obtain⟨n,bS⟩:=r;cases bS with
  | false=>simp_all
  | true=>
   cases o with
   | none=>simp only[Bool.not_true,Bool.false_eq_true,if_false,if_true,Option.isSome_none,Bool.not_false,M.aE,M.bK,hw,Option.elim];rfl
   | some s=>
    simp only[Bool.not_true,Bool.false_eq_true,if_false,if_true,Option.isSome_some,M.aE,M.bK,hw,Option.elim,Option.getD_some];rw[WT,ak5];rfl
 simp
section
variable {aj:Type}
def W_(x:Nat×List (Int×aj)×(Nat×(z1'->Prop)×z1'×Bool)×Unit):M ((Nat×(z1'->Prop)×z1'×Bool)×Unit):=
 M.bind (M.pure ()) λy=>M.loop (λ(A:Nat×(Nat×(z1'->Prop)×z1'×Bool)×(Option (Int×aj)×List (Int×aj))×Unit)=>
 M.bind (FK A.2.2.1.2) λy=>if Option.isSome y=true then M.bind (M.af (Option.isSome (nz A.2.2.1.1 A.2.2.1.2 y)=true) (M.pure ())) λbG
 =>M.bind (M.af (A.1=A.2.1.1/\A.2.1.2.2.2=false/\∃ (T:z1'),A.2.1.2.1 (A.2.1.2.2.1++Option.getD (Option.map (λx=>x.1) (nz
 A.2.2.1.1 A.2.2.1.2 y)) 0::T)) (M.any λx=>True)) λds=>if (!ds)=true then M.bind (M.pure ((A.2.1.1,A.2.1.2.1,A.2.1.2.2.1++
 [Option.getD (Option.map (λx=>x.1) (nz A.2.2.1.1 A.2.2.1.2 y)) 0],!ds),())) λr=>M.pure (aa.done r) else M.pure (aa.next (A.1,(A.2.1.1,A.2.1.2.1,A.2.1.2.2.1++[Option.getD (Option.map (λx=>x.1) (nz A.2.2.1.1 A.2.2.1.2 y)) 0],!ds),(nz A.2.2.1.1 A.2.2.1.2 y,Cl A.2.2.1.2 y),())) else M.bind (M.pure (A.2.1,())) λr=>M.pure (aa.done r)) (x.1,x.2.2.1,(none,x.2.1),())
theorem W'{β:Type}:∀ (l:List β) (i:Nat) (h:i<l.length),(l[i]::l.eraseIdx i).Perm l
 | x::l,0,_=>.refl _
 | x::l,i+1,h=>by
  simp only[List.getElem_cons_succ,List.eraseIdx_cons_succ];exact (List.Perm.swap x _ _).trans ((W' l i (by grind)).cons x)
theorem Xa(l:Nat)(m:List (Int×aj)):M.b_ (W_ (l,m,(l,jF (some m),[],false),())) λy=>y.1.2.2.2=false->jF (some m) y.1.2.2.1:=by
 unfold W_;rw[M.aE];refine M.Bl (λA=>∃ p c bY,A=(l,(l,jF (some m),p,false),(c,bY),())/\(m.map (·.1)).Perm (p++bY.map (·.1))) (λA=>A.2.2.1.2.length) ?_ _ ⟨[],none,m,rfl,.refl _⟩;rintro A ⟨p,c,bY,rfl,hp⟩;simp only;rw[M.fG];refine⟨trivial,λy aM=>?_⟩;cases y with
 | none=>
  have V:bY=[]:=aM;subst V;simp only[Option.isSome_none,Bool.false_eq_true,if_false,M.aE];refine M.dE.2 λ_=>tT.2 (by grind)
 | some i=>
  have G:i<bY.length:=aM;have aA:nz c bY (some i)=some bY[i]:=List.getElem?_eq_getElem G;have V:Cl bY (some i)=bY.eraseIdx i:=rfl;have DP:(m.map (·.1)).Perm (p++bY[i].1::(bY.eraseIdx i).map (·.1)):=hp.trans (List.Perm.append_left p ((W' bY i G).symm.map (·.1)));simp only[Option.isSome_some,if_true,aA,V,M.bg,M.aE,Option.map_some,Option.getD_some];rw[M.fG,M.kr];refine⟨⟨trivial,trivial,(bY.eraseIdx i).map (·.1),tT.2 DP⟩,⟨true,trivial⟩,λb _=>?_⟩;cases b with
  | false=>
   simp only[Bool.not_false,if_true,M.aE];exact M.dE.2 λh=>by cases h
  | true=>
   simp only[Bool.not_true,Bool.false_eq_true,if_false];refine M.dE.2 ⟨⟨p++[bY[i].1],some bY[i],bY.eraseIdx i,rfl,by grind⟩,?_⟩;grind
end
theorem alG(l:Nat)(m:z4'):M.b_ (ND (l,m,(l,jF (some m),[],false),())) λy=>y.1.2.2.2=false->jF (some m) y.1.2.2.1:=Xa l m
theorem alH(l:Nat)(m:List (Int×aV)):M.b_ (NF (l,m,(l,jF (some m),[],false),())) λy=>y.1.2.2.2=false->jF (some m) y.1.2.2.1:=Xa l m
def c6(cl:z4'):List bj->List bj
 | a::b::r=>(a.1,lL cl a.2 b.2)::c6 cl r
 | _=>[]
def DQ(c:aQ)(fC:List (List bj)):Prop:=fC.length=10/\∀ l∈fC,l.length<=12/\∀ i,(h:i+1<l.length)->Al (c,l[i].2,l[i+1].2)
def pt(c:aQ)(fC:List (List bj)):List bj:=fC.flatMap (c6 c.2.2.2.1)
def sz(x:Option (Option dt)×Option (Option dD))(L:List bj):Prop:=∃ t b,x.1=some (some t)/\x.2=some (some b)/\DQ b.1 t.2/\L=pt b.1 t.2
theorem alI{cl:z4'}{l:List bj}{i:Nat}(h:i+1<l.length):c6 cl (l.drop i)=(l[i].1,lL cl l[i].2 l[i+1].2)::c6 cl (l.drop (i+2)):=by
 rw[List.drop_eq_getElem_cons (by omega:i<l.length),List.drop_eq_getElem_cons h];rfl
theorem alJ{cl:z4'}{l:List bj}{i:Nat}(h:¬i+1<l.length):c6 cl (l.drop i)=[]:=by
 have:(l.drop i).length<=1:=by grind
 match h:l.drop i with
 | []=>rfl
 | [_]=>rfl
 | _::_::_=>grind
set_option maxHeartbeats 1000000 in
theorem alK(eS:Nat)(t:dt)(b:dD)(h:DQ b.1 t.2):M.b_ (Hb vt.sh (eS,some t,some b,(eS,sz (some (some t),some (some b)),[],false),())) λy=>y.1.2.2.2=false->sz (some (some t),some (some b)) y.1.2.2.1:=by
 obtain⟨h1,h2⟩:=h;have Gt:∀ L,sz (some (some t),some (some b)) L<->L=pt b.1 t.2:=λL=>⟨λ⟨cC,aZ,e1,e2,_,e⟩=>by cases e1;cases e2;exact e,λe=>⟨t,b,rfl,rfl,⟨h1,h2⟩,e⟩⟩
 generalize sz (some (some t),some (some b))=S at *
 unfold Hb;simp only[Option.isSome_some,M.bg,Option.getD_some];refine M.Bl (λA=>∃ (u:Nat),u<=10/\A=(eS,some b,t.2,(u:Int),(eS,S,(t.2.take u).flatMap (c6 b.1.2.2.2.1),false),())) (λA=>(10 - A.2.2.2.1).toNat) ?_ _ ⟨0,by omega,rfl⟩;rintro A ⟨u,hu,rfl⟩;by_cases Lr:u<10
 ·have au:decide ((u:Int)<10)=true:=by simpa using (by omega:(u:Int)<10)
  have r9:u<t.2.length:=by omega
  have alL:=bo (n:=(u:Int)+1) (by omega) (by omega);have an:=List.getElem_mem r9;obtain⟨h3,aR⟩:=h2 _ an;simp only[au,if_true,cT r9];rw[M.bp (show (0:Int)<=(u:Int)/\(u:Int)<Int.ofNat 10 by rw[bJ];omega)];have fj:pt b.1 t.2=(t.2.take u).flatMap (c6 b.1.2.2.2.1)++(c6 b.1.2.2.2.1 t.2[u]++(t.2.drop (u+1)).flatMap (c6 b.1.2.2.2.1)):=by
   unfold pt;conv=>lhs;rw[<-List.take_append_drop u t.2,List.drop_eq_getElem_cons r9]
   simp only[List.flatMap_append,List.flatMap_cons]
  generalize alM:t.2[u]=jI at *
  generalize (t.2.drop (u+1)).flatMap (c6 b.1.2.2.2.1)=R at *
  generalize i':(t.2.take u).flatMap (c6 b.1.2.2.2.1)=P at *
  have alN:(t.2.take (u+1)).flatMap (c6 b.1.2.2.2.1)=P++c6 b.1.2.2.2.1 jI:=by
   rw[List.take_add_one,List.getElem?_eq_getElem r9,Option.toList_some,List.flatMap_append,i',alM];simp
  rw[M.fG];refine (M.Bl (p:=λz=>match z with | .next z=>z=(eS,some b,t.2,(u:Int),(eS,S,P++c6 b.1.2.2.2.1 jI,false),()) | .done z=>(match z with | .next _=>False | .done y=>y.1.2.2.2=true)) (λA=>∃ (i:Nat) (Q:List bj),i<=jI.length+1/\Q++c6 b.1.2.2.2.1 (jI.drop i)=c6 b.1.2.2.2.1 jI/\A=(eS,some b,jI,(i:Int),t.2,(u:Int),(eS,S,P++Q,false),())) (λA=>(20 - A.2.2.2.1).toNat) ?_ _ ⟨0,[],by omega,by simp,by simp⟩).mono λz a_=>?_
  ·rintro A ⟨i,Q,n6,tE,rfl⟩;have hw:=bo (n:=(i:Int)+1) (by omega) (by omega);have gA:=bo (n:=(i:Int)+2) (by omega) (by omega);by_cases G:i+1<jI.length
   ·have u1:i<jI.length:=by omega
    have au:decide ((i:Int)+1<(jI.length:Int))=true:=by simpa using (by omega:(i:Int)+1<(jI.length:Int))
    have cn:(0:Int)<=(i:Int)+1/\(i:Int)+1<(jI.length:Int):=⟨by omega,by omega⟩
    have jf:jI.getD ((i:Int)+1).toNat ((0,0,0,0,0,0),0)=jI[i+1]:=by
     rw[show ((i:Int)+1).toNat=i+1 from by omega,sq G]
    have em:vt.sh (b.1,jI[i].2,jI[i+1].2)=M.pure (lL b.1.2.2.2.1 jI[i].2 jI[i+1].2):=M.bF (aR i G) _;simp only[Prod.cK,Prod.e6,bJ,b7,hw,au,if_true,cT u1,cq u1,cn,jf,Option.isSome_some,Option.getD_some,em,M.iT,M.fp,and_self,M.bg,decide_true];rw[M.fG,M.kr];have cz:=alI (cl:=b.1.2.2.2.1) G;refine⟨⟨trivial,trivial,c6 b.1.2.2.2.1 (jI.drop (i+2))++R,(Gt _).2 ?_⟩,⟨true,trivial⟩,λy _=>?_⟩
    ·rw[fj,<-tE,cz];simp
    ·cases y with
     | false=>
      simp only[Bool.not_false,if_true,M.aE];exact M.dE.2 rfl
     | true=>
      simp only[Bool.not_true,Bool.false_eq_true,if_false,gA];refine M.dE.2 ⟨⟨i+2,Q++[(jI[i].1,lL b.1.2.2.2.1 jI[i].2 jI[i+1].2)],by omega,?_,?_⟩,?_⟩
      ·rw[<-tE,cz];simp
      ·rw[List.append_assoc];rfl
      ·show (20 - ((i:Int)+2)).toNat<(20 - (i:Int)).toNat;omega
   ·have au:decide ((i:Int)+1<(jI.length:Int))=false:=by simpa using (by omega:(jI.length:Int)<=(i:Int)+1)
    simp only[bJ,b7,hw,au,Bool.false_eq_true,if_false,M.aE];refine M.dE.2 ?_;rw[alJ G,List.append_nil]at tE;show (eS,some b,t.2,(u:Int),(eS,S,P++Q,false),())=_;rw[tE]
  ·cases z with
   | next z=>
    have a_:z=_:=a_;subst a_;simp only[M.bK,b7,alL];refine M.dE.2 ⟨⟨u+1,by omega,?_⟩,?_⟩
    ·rw[alN];rfl
    ·show (10 - ((u:Int)+1)).toNat<(10 - (u:Int)).toNat;omega
   | done z=>
    cases z with
    | next z=>exact absurd a_ id
    | done y=>
     have a_:y.1.2.2.2=true:=a_;simp only[M.pb];refine M.dE.2 λh=>?_;rw[a_]at h;cases h
 ·have MQ:u=10:=by omega
  subst MQ;simp only[show decide (((10:Nat):Int)<10)=false from by decide,Bool.false_eq_true,if_false,M.aE];refine M.dE.2 λ_=>(Gt _).2 ?_;show (t.2.take 10).flatMap _=_;rw[<-h1,List.take_length];rfl
abbrev Ar:aJ:=⟨.ax (.bq sg) (.bq xL),.b5 (.ax gU tI),λ_=>True,λx=>sz (some x.2,some x.1)⟩
theorem alO(x):M.le (ajL sz x) (Ar.sh x):=M.bh λ_=>rfl
end Go.Fer.H
namespace Go.Fer.H
open M (aa)
theorem As{aj β:Type}{f:aj->β}:∀ {l:List aj},(l.map f).Nodup->∀ {a b:aj},a∈l->b∈l->f a=f b->a=b
 | [],_,a,b,aU,_,_=>by grind
 | x::l,aA,a,b,aU,ab,e=>by
  rw[List.map_cons,List.nodup_cons]at aA;rcases List.mem_cons.1 aU with h1 | h1<;>rcases List.mem_cons.1 ab with h2 | h2
  ·grind
  ·grind
  ·grind
  ·exact As aA.2 h1 h2 e
theorem alP{l m:z1'}(h:l.Perm m):l.sum=m.sum:=by
 induction h with
 | nil=>rfl
 | cons x _ aG=>grind
 | swap x y l=>grind
 | trans _ _ h1 h2=>omega
theorem N6{l:List bj}(h:d' l=true){i:Nat}(G:i<l.length):dN l[i].1=1+((i % 2:Nat):Int)/\(0<i->l[i].2≠(l.getD (i - 1) e0).2):=by
 unfold d' at h;rw[List.all_eq_true]at h;have:=h i (by grind);unfold qj at this;grind
theorem Xb(cl:z4'):∀ l:List bj,(∀ i,(h:i<l.length)->dN l[i].1=1+((i % 2:Nat):Int))->c6 cl l=((tV l).filter λp=>dN p.1.1 == 1).map λp=>(p.1.1,lL cl p.1.2 p.2.2)
 | [],_=>rfl
 | [_],_=>rfl
 | [a,b],h=>by
  have aU:dN a.1=1:=h 0 (by simp);simp[c6,tV,aU]
 | a::b::c::r,h=>by
  have aU:dN a.1=1:=h 0 (by simp);have ab:dN b.1=2:=h 1 (by simp);have aG:=Xb cl (c::r) λi G=>by
   have:=h (i+2) (by grind);grind
  have e:tV (a::b::c::r)=(a,b)::(b,c)::tV (c::r):=rfl;rw[e,List.filter_cons_of_pos (by grind),List.filter_cons_of_neg (by grind),List.map_cons,<-aG];rfl
abbrev mP(c:aQ)(w:z1'):List bj:=pt c (mN c w)
theorem HG(c:aQ)(w:z1'):mP c w=(dT 0 9).flatMap λu=>c6 c.2.2.2.1 (bO c w u):=by
 rfl
theorem N7{c:aQ}{w:z1'}(hw:iA c w=true){u:Int}(hu:0<=u/\u<=9):gE c w u=bO c w u:=by
 unfold gE;rw[if_pos (Hu hw hu)]
theorem alQ{cl:z4'}{l:List bj}(h:d' l=true)(iQ:Int):DI cl iQ l=((c6 cl l).find? λp=>p.1.1 == iQ).map (·.2):=by
 rw[Xb cl l λi G=>(N6 h G).1];unfold DI;rw[List.find?_map,List.find?_filter,Option.map_map];refine congrArg _ (congrArg (λf=>(tV l).find? f) ?_);grind
theorem Xc{aj β:Type}{f g:aj->Option β}:∀ {l:List aj},(∀ x∈l,f x=g x)->l.findSome? f=l.findSome? g
 | [],_=>rfl
 | x::l,h=>by
  rw[List.findSome?_cons,List.findSome?_cons,h x (by simp),Xc λy aM=>h y (by grind)]
theorem N8{c:aQ}{w:z1'}(hw:iA c w=true)(iQ:Int):jH c w iQ=((mP c w).find? λp=>p.1.1 == iQ).map (·.2):=by
 unfold jH;rw[HG,List.find?_flatMap,List.map_findSome?];refine Xc λu hu=>?_;have hu:=sc.1 hu;rw[N7 hw hu,alQ (Hu hw hu)];rfl
theorem Xd{c:aQ}(az:gD c){w:z1'}(hw:iA c w=true):DQ c (mN c w):=by
 have h2:=DK az.ck hw;have key:∀ u:Int,0<=u/\u<=9->(bO c w u).length<=12/\∀ i,(h:i+1<(bO c w u).length)->Al (c,(bO c w u)[i].2,(bO c w u)[i+1].2):=by
  intro u hu;have:=N7 hw hu;refine⟨DG az w u,?_⟩;have k:=λi=>@WW c az w h2 u i;simp only[this]at k;exact k
 refine⟨rfl,λl ai=>?_⟩;simp only[mN,List.mem_cons,List.not_mem_nil,or_false]at ai;rcases ai with rfl | rfl | rfl | rfl | rfl | rfl | rfl | rfl | rfl | rfl<;>exact key _ (by omega)
theorem Xe{cl:z4'}:∀ {l:List bj} {p:bj},p∈c6 cl l->∃ i,∃ h:i+1<l.length,i % 2=0/\p=(l[i].1,lL cl l[i].2 l[i+1].2)
 | [],_,h=>by simp[c6]at h
 | [_],_,h=>by simp[c6]at h
 | a::b::r,p,h=>by
  unfold c6 at h;rcases List.mem_cons.1 h with rfl | h
  ·exact⟨0,by simp,rfl,rfl⟩
  ·obtain⟨i,G,h2,e⟩:=Xe h;exact⟨i+2,by grind,by omega,e⟩
theorem Xf(cl:z4'):∀ l:List bj,((c6 cl l).map (·.1)).Sublist (l.map (·.1))
 | []=>.slnil
 | [_]=>List.nil_sublist _
 | a::b::r=>by
  unfold c6;simp only[List.map_cons];exact ((Xf cl r).cons _).cons_cons _
theorem Xg(l:List aV):((gC l).map (·.1)).Nodup:=by
 unfold gC;have key:∀ L:z1',L.Nodup->((L.filterMap λid=>l.find? λs=>s.1 == id).map (·.1)).Nodup/\∀ k∈(L.filterMap λid=>l.find? λs=>s.1 == id).map (·.1),k∈L:=by
  grind
 refine (key _ ?_).1;unfold dT;show List.Pairwise _ _;rw[List.pairwise_map];exact (List.pairwise_lt_range).imp λh=>by omega
theorem N9(c:aQ):((e8 c).map (·.1)).Nodup:=by
 unfold e8;exact (Xg c.2.1).sublist (List.filter_sublist.map _)
theorem N_{c:aQ}{a b:aV}(aU:a∈e8 c)(ab:b∈e8 c)(h:a.1=b.1):a=b:=by
 exact As (N9 c) aU ab h
theorem N'(c:aQ)(w:z1')(u:Int):((bO c w u).map (·.1)).Perm ((e8 c).filter λs=>decide (tQ s=u)):=by
 unfold bO oy;refine ((DC hH _).map _).trans ?_;rw[List.map_map];exact List.Perm.of_eq (List.map_id' _)
theorem Xh{c:aQ}{w:z1'}{p:bj}(h:p∈mP c w):∃ u,0<=u/\u<=9/\∃ i,∃ G:i+1<(bO c w u).length,i % 2=0/\p=((bO c w u)[i].1,lL c.2.2.2.1 (bO c w u)[i].2 (bO c w u)[i+1].2):=by
 rw[HG,List.mem_flatMap]at h;obtain⟨u,hu,hp⟩:=h;obtain⟨i,G,h2,e⟩:=Xe hp;exact⟨u,(sc.1 hu).1,(sc.1 hu).2,i,G,h2,e⟩
theorem Au{c:aQ}{w:z1'}{p:bj}(h:p∈mP c w):p.1∈e8 c:=by
 obtain⟨u,_,_,i,G,_,rfl⟩:=Xh h;exact (DH (List.getElem_mem (by omega:i<(bO c w u).length))).1
theorem alR{c:aQ}{w:z1'}(hw:iA c w=true){p:bj}(h:p∈mP c w):dN p.1=1:=by
 obtain⟨u,h1,h2,i,G,h3,rfl⟩:=Xh h;have:=(N6 (Hu hw ⟨h1,h2⟩) (by omega:i<(bO c w u).length)).1;grind
theorem Oa(c:aQ)(w:z1'):((mP c w).map (·.1)).Nodup:=by
 have hc:(e8 c).Nodup:=by
  have:=N9 c;exact List.Pairwise.of_map _ (λa b h e=>h (by rw[e])) this
 have hu:∀ u,((c6 c.2.2.2.1 (bO c w u)).map (·.1)).Nodup/\∀ s∈(c6 c.2.2.2.1 (bO c w u)).map (·.1),tQ s=u:=by
  intro u;have hs:=Xf c.2.2.2.1 (bO c w u);have hp:=N' c w u;grind
 rw[HG,List.map_flatMap];have key:∀ L:z1',L.Nodup->(L.flatMap λu=>(c6 c.2.2.2.1 (bO c w u)).map (·.1)).Nodup/\∀ s∈(L.flatMap λu=>(c6 c.2.2.2.1 (bO c w u)).map (·.1)),tQ s∈L:=by
  grind
 refine (key _ ?_).1;unfold dT;show List.Pairwise _ _;rw[List.pairwise_map];exact (List.pairwise_lt_range).imp λh=>by omega
theorem Xi{aj:Type}(xV:aj->Int):∀ (l:List aj) (n:Int),l.foldl (λn x=>n+xV x) n=n+(l.map xV).sum
 | [],n=>by simp
 | x::l,n=>by simp only[List.foldl_cons,List.map_cons,List.sum_cons];rw[Xi xV l];omega
theorem alS{aj:Type}{f g:aj->Int}{l:List aj}(h:∀ x∈l,f x=g x):(l.map f).sum=(l.map g).sum:=by rw[List.map_congr_left h]
theorem alT{ψ:bj->Int}:∀ (C:List aV) (H:List bj),(C.map (·.1)).Nodup->(H.map (·.1)).Nodup->(∀ p∈H,p.1∈C)->(C.map λs=>(((H.find? λp=>p.1.1 == s.1).map ψ).getD 0)).sum=(H.map ψ).sum:=by
 intro C H iZ mw qM;have e:(H.map ψ).sum=((C.filterMap λs=>H.find? λp=>p.1.1 == s.1).map ψ).sum:=by
  refine alP (List.Perm.map ψ ?_);have alU:H.Nodup:=List.Pairwise.of_map _ (λa b h e=>h (by rw[e])) mw;refine (List.perm_ext_iff_of_nodup alU ?_).2 λp=>?_
  ·have:∀ C:List aV,(C.map (·.1)).Nodup->(C.filterMap λs=>H.find? λp=>p.1.1 == s.1).Nodup/\∀ q∈(C.filterMap λs=>H.find? λp=>p.1.1 == s.1),q.1.1∈C.map (·.1):=by
    grind
   grind
  ·rw[List.mem_filterMap];constructor
   ·intro hp;refine⟨p.1,qM p hp,?_⟩;have hex:(H.find? λq=>q.1.1 == p.1.1).isSome=true:=List.find?_isSome.2 ⟨p,hp,by simp⟩;obtain⟨q,be⟩:=Option.isSome_iff_exists.1 hex;have DR:q.1.1=p.1.1:=by grind
    have vy:=List.mem_of_find?_eq_some be;have alV:q.1=p.1:=As iZ (qM q vy) (qM p hp) DR;have:q=p:=As mw vy hp alV;grind
   grind
 rw[e];have:∀ C:List aV,(C.map λs=>(((H.find? λp=>p.1.1 == s.1).map ψ).getD 0)).sum=((C.filterMap λs=>H.find? λp=>p.1.1 == s.1).map ψ).sum:=by
  intro C;induction C with
  | nil=>rfl
  | cons s C aG=>
   grind
 grind
def t'(c:aQ)(g:Int)(p:bj):Int:=if iy p.1=g then k7 c.2.2.2.2 p.2 else 0
theorem alW{c:aQ}{w:z1'}(hw:iA c w=true)(g:Int):Ht c w g=((mP c w).map (t' c g)).sum:=by
 rw[<-alT (ψ:=t' c g) (e8 c) (mP c w) (N9 c) (Oa c w) λp hp=>Au hp];unfold Ht;have e:(λ(n:Int) (s:aV)=>if (dN s=1/\iy s=g)/\(jH c w (k5 s)).isSome=true then n+k7 c.2.2.2.2 ((jH c w (k5 s)).getD 0) else n)=λn s=>n+(if (dN s=1/\iy s=g)/\(jH c w (k5 s)).isSome=true then k7 c.2.2.2.2 ((jH c w (k5 s)).getD 0) else 0):=by
  grind
 rw[e,Xi,Int.zero_add];refine alS λs hs=>?_;rw[N8 hw];cases ar:(mP c w).find? λp=>p.1.1 == k5 s with
 | none=>simp
 | some p=>
  have hp:=List.mem_of_find?_eq_some ar;have h1:p.1.1=s.1:=by grind
  have h2:p.1=s:=N_ (Au hp) hs h1;have h3:=alR hw hp;rw[h2]at h3;simp only[Option.map_some,Option.getD_some,Option.isSome_some,and_true,h3,true_and,t',h2]
theorem Av(c:aQ)(b:Bool):((eh c b).2≠0/\(eh c b).1=[]/\sx c b=(none,(eh c b).2))\/(eh c b=(cv c,0)/\cu c=0/\b=true/\sx c b=(some (t_ c),0)):=by
 unfold eh sx;by_cases hc:cu c=0
 ·cases b with
  | false=>left;simp[hc]
  | true=>
   by_cases aH:cv c=[]
   ·left;simp[hc,aH]
   ·right;simp[hc,aH]
 ·left;simp[hc]
theorem Ob{aj β:Type}{f g:aj->Option β}:∀ {l:List aj},(∀ x∈l,f x=g x)->l.filterMap f=l.filterMap g
 | [],_=>rfl
 | x::l,h=>by
  rw[List.filterMap_cons,List.filterMap_cons,h x (by simp),Ob λy aM=>h y (by simp[aM])]
theorem Xj:tW []=(0,0):=rfl
theorem alX{aj:Type}(L:List aj)(P:aj->Option dt)(f:Option dt->M (Int×Bool))(v:aj->Int×Bool)(h:∀ w∈L,f (P w)=M.pure (v w)):vx (L.map P) f=xT (L.filterMap λw=>if (v w).2=true then some (v w).1 else none):=by
 unfold vx;rw[List.filterMap_map];refine congrArg xT (Ob λw hw=>?_);simp only[Function.comp,h w hw,M.fp]
theorem Xk{aj:Type}(xV:aj->Int)(L:List aj):(L.filterMap λw=>if ((xV w,true):Int×Bool).2=true then some ((xV w,true):Int×Bool).1 else none)=L.map xV:=by
 simp only[if_true];rw[<-List.filterMap_eq_map']
theorem Oc{c:aQ}(ai:(cv c).length<=60){f:Option dt->M (Int×Bool)}{v:z1'->Int×Bool}(h:∀ w∈cv c,f (h_ c w)=M.pure (v w)):Aq.sh (some (t_ c),f)=M.pure ((xT ((cv c).filterMap λw=>if (v w).2=true then some (v w).1 else none)).getD (0,0),(xT ((cv c).filterMap λw=>if (v w).2=true then some (v w).1 else none)).isSome):=by
 refine (M.bF ⟨t_ c,rfl,show ((cv c).map (h_ c)).length<=60 by simpa using ai,λt aH=>?_⟩ _).trans (congrArg M.pure ?_)
 ·show ((vx ((cv c).map (h_ c)) f).getD (0,0),(vx ((cv c).map (h_ c)) f).isSome)=_;rw[alX _ _ f v h]
 ·obtain⟨w,hw,rfl⟩:=List.mem_map.1 aH;exact⟨_,h w hw⟩
theorem alY:∀ {l:z1'},(xT l).isSome=!l.isEmpty:=by
 intro l;have key:∀ (l:z1') (o:Option (Int×Int)),o.isSome=true->(l.foldl (λo n=>some (Hv o n)) o).isSome=true:=by
  intro l;induction l with
  | nil=>intro o h;exact h
  | cons n l aG=>intro o _;exact aG _ rfl
 cases l with
 | nil=>rfl
 | cons n l=>exact key l _ rfl
theorem DS{c:aQ}{f:Option dD->M Bool}{b:Bool}(h:gu c)(ar:cu c=0->f (some (c,e8 c,[]))=M.pure b):vw.sh (c,f)=M.pure (sx c b):=by
 refine (M.bF ⟨h,λhc=>⟨b,ar hc⟩⟩ _).trans (congrArg M.pure ?_);show sx c (DO c f)=sx c b;unfold sx DO;by_cases hc:cu c=0
 ·rw[ar hc,M.fp]
 ·simp[hc]
theorem DT{c:aQ}(h:gu c)(hc:cu c=0):(cv c).length<=60:=Nat.le_trans (NX c _ _) (h.2 hc)
theorem vz{c:aQ}{w:z1'}(h:w∈cv c):iA c w=true:=NY c _ _ _ h
abbrev Aw:aJ:=⟨.ax gU (.bq tI),cQ,λx=>∃ k:Int,x.2=some k/\True,λx=>decide (k5 x.1=x.2.getD 0)&&decide (dN x.1=1)⟩
theorem alZ(x):M.le (ajV x) (Aw.sh x):=M.bh λ_=>rfl
abbrev Od:aJ:=⟨.ax (.bq sg) (.bq tI),cQ,λx=>∃ (b:dD) (k:Int),x.2=some k/\x.1=some b/\b.2.1.length<2 ^ 63,λx=>(x.1.getD (tZ,[],[])).2.1.any λs=>k5 s == x.2.getD 0&&dN s == 1⟩
theorem al0(x):M.le (V0 (iO gU).sh Aw.sh x) (Od.sh x):=M.bh λh=>by
 obtain⟨o,k⟩:=x;obtain⟨b,_,_,ab,h⟩:=h;change o=some b at ab;subst ab;unfold V0;simp only[Option.isSome_some,M.bg,Option.getD_some];have hv:∀ s,Aw.sh (s,some (k.getD 0))=M.pure (decide (k5 s=k.getD 0)&&decide (dN s=1)):=λs=>M.bF ⟨_,rfl,trivial⟩ _;rw[show (iO gU).sh (b.2.1,λs=>Aw.sh (s,some (k.getD 0)))=M.pure (b.2.1.any λs=>(Aw.sh (s,some (k.getD 0))).val false) from M.bF ⟨h,λs _=>⟨_,hv s⟩⟩ _,M.aE];refine congrArg M.pure ?_;show _=b.2.1.any λs=>k5 s == k.getD 0&&dN s == 1;refine congrArg (λp=>b.2.1.any p) ?_;funext s;rw[hv,M.fp];rw[Bool.eq_iff_iff];simp
theorem Xl{f:Int->M Int}{n:Int}:∀ (L:List bj),(∀ p∈L,p.1.1=n->∃ v,f p.2=M.pure v)->
  jy (λ(A:Int×(Int->M Int)×Int×Bool×Unit) (y:aV×Int)=>M.bind (if decide (y.1.1=A.1)=true then M.bind (A.2.1 y.2) λy=>M.pure (cP.ret,y,true,()) else M.pure
 (cP.normal,A.2.2.1,A.2.2.2.1,())) λp=>M.pure (p.1,A.1,A.2.1,p.2.1,p.2.2.1,())) L (n,f,0,false,())=(L.find? λp=>p.1.1 == n).elim (M.pure (cP.normal,n,f,0,false,())) λp=>M.pure (cP.ret,n,f,(f p.2).val 0,true,())
 | [],_=>rfl
 | p::L,h=>by
  unfold jy;by_cases hp:p.1.1=n
  ·obtain⟨v,hv⟩:=h p (by simp) hp;simp[hp,hv]
  ·have aG:=Xl L λq be=>h q (by simp[be]);simp only[hp,decide_false,Bool.false_eq_true,if_false,M.aE];rw[aG,List.find?_cons_of_neg (by simpa using hp)]
abbrev Oe:aJ:=⟨.ax (.bq xL) (.ax (.bq (.bq sg)) (.ax (.bq tI) (.bq (.fn tI tI)))),.ax tI .bool,λx=>∃ (t:dt) (b:dD) (n:Int) (f:Int->M Int),x=(some t,some (some b),some n,some f)/\DQ b.1 t.2/\∀ p∈pt b.1 t.2,p.1.1=n->∃ v,f p.2=M.pure v,λx=>((pt ((x.2.1.getD none).getD (tZ,[],[])).1 (x.1.getD ([],[])).2).find? λp=>p.1.1 == x.2.2.1.getD 0).elim (0,false) λp=>(((x.2.2.2.getD λ_=>M.fail) p.2).val 0,true)⟩
theorem al1(x):M.le (V1 Ar.sh x) (Oe.sh x):=M.sb λh=>by
 obtain⟨t,b,n,f,rfl,h1,h2⟩:=h;unfold V1;simp only[Option.getD_some];rw[show Ar.sh (some b,some t)=M.pure (sz (some (some t),some (some b))) from rfl,M.aE,M.fG];refine⟨⟨_,t,b,rfl,rfl,h1,rfl⟩,λL iv=>?_⟩;obtain⟨cC,aZ,e1,e2,_,rfl⟩:=iv;cases e1;cases e2;rw[Xl (f:=f) (n:=n) _ h2];show M.b_ _ λy=>y=((pt b.1 t.2).find? λp=>p.1.1 == n).elim (0,false) λp=>((f p.2).val 0,true)
 cases (pt b.1 t.2).find? λp=>p.1.1 == n with
 | none=>simp only[Option.elim,M.aE,rY];exact M.dE.2 rfl
 | some p=>simp only[Option.elim,M.aE,rY];exact M.dE.2 rfl
abbrev Ax:aJ:=⟨.ax je (.ax tI (.fn tI tI)),.ax mc tI,λx=>gu x.1/\∀ w∈cv x.1,∀ m,cu x.1=0->jH x.1 w x.2.1=some m->∃ v,x.2.2 m=M.pure v,λx=>(tW ((k8 x.1 x.2.1).1.map λm=>(x.2.2 m).val 0),(k8 x.1 x.2.1).2)⟩
theorem al2(x):M.le (VJ vw.sh Aq.sh Od.sh Oe.sh x) (Ax.sh x):=M.bh λh=>by
 obtain⟨c,n,f⟩:=x;obtain⟨h,ar⟩:=h;change gu c at h;change ∀ w∈cv c,∀ m,cu c=0->jH c w n=some m->∃ v,f m=M.pure v at ar;unfold VJ;show _=M.pure (tW ((k8 c n).1.map λm=>(f m).val 0),(k8 c n).2);unfold k8;rw[DS (b:=Ao c n) h λhc=>M.bF ⟨(c,e8 c,[]),n,rfl,rfl,by have:=(oz hc).NT;show (e8 c).length<2 ^ 63;omega⟩ _];rcases Av c (Ao c n) with⟨h1,h2,h3⟩ | ⟨h1,h2,h3,aR⟩
 ·rw[h3];simp only[M.aE];rw[if_pos (by simpa using h1),if_pos h1];rfl
 ·rw[h1,aR];simp only[M.aE];rw[if_neg (by simp)];have az:=oz h2;rw[Oc (v:=λw=>(jH c w n).elim (0,false) λm=>((f m).val 0,true)) (DT h h2) λw hw=>?_,M.aE]
  ·have e:((cv c).filterMap λw=>if ((jH c w n).elim ((0,false):Int×Bool) λm=>((f m).val 0,true)).2=true then some ((jH c w n).elim ((0,false):Int×Bool) λm=>((f m).val 0,true)).1 else none)=((cv c).filterMap λw=>jH c w n).map λm=>(f m).val 0:=by
    rw[List.map_filterMap];refine Ob λw _=>?_;cases jH c w n<;>rfl
   rw[e,alY];generalize (cv c).filterMap (λw=>jH c w n)=l;cases l with
   | nil=>rfl
   | cons m l=>simp;rfl
  ·have aH:=vz hw;have uT:=N8 aH n;refine (M.bF ⟨(w,mN c w),t_ c,n,f,rfl,Xd az aH,λp hp Xm=>?_⟩ _).trans (congrArg M.pure ?_)
   ·show ((mP c w).find? λp=>p.1.1 == n).elim (0,false) (λp=>((f p.2).val 0,true))=_;rw[uT];cases (mP c w).find? λp=>p.1.1 == n<;>rfl
   ·refine ar w hw p.2 h2 ?_;rw[uT];have hex:((mP c w).find? λq=>q.1.1 == n).isSome=true:=List.find?_isSome.2 ⟨p,hp,by simpa using Xm⟩;obtain⟨q,be⟩:=Option.isSome_iff_exists.1 hex;have DR:q.1.1=n:=by have:=List.find?_some be;simpa using this
    have vy:=List.mem_of_find?_eq_some be;have hs:q.1=p.1:=N_ (Au vy) (Au hp) (DR.trans Xm.symm);have:q=p:=As (Oa c w) vy hp hs;rw[be,this];rfl
abbrev xW:aJ:=⟨tI,tI,λ_=>True,λx=>x⟩
theorem al3(x):M.le (ajK x) (xW.sh x):=M.bh λ_=>rfl
theorem al4(x):M.le (Vx Ax.sh xW.sh x) (Hx.sh x):=M.bh λh=>by
 obtain⟨c,n⟩:=x;change gu c at h;unfold Vx;rw[show Ax.sh (c,n,xW.sh)=M.pure (tW ((k8 c n).1.map λm=>(xW.sh m).val 0),(k8 c n).2) from M.bF ⟨h,λ_ _ m _ _=>⟨m,rfl⟩⟩ _];simp only[M.aE];show _=M.pure (Hw c n);unfold Hw;have:((k8 c n).1.map λm=>(xW.sh m).val 0)=(k8 c n).1:=by
  have:(λm:Int=>(xW.sh m).val 0)=λm=>m:=by
   funext m;exact M.fp
  rw[this,List.map_id']
 rw[this]
abbrev xX:aJ:=⟨.ax tI (.bq je),tI,λx=>∃ c:aQ,x.2=some c/\xS (c.2.2.2.2,x.1),λx=>k7 (x.2.getD tZ).2.2.2.2 x.1⟩
theorem al5(x):M.le (VK vu.sh x) (xX.sh x):=M.bh λh=>by
 obtain⟨m,q⟩:=x;obtain⟨c,hc,h⟩:=h;change q=some c at hc;subst hc;unfold VK;simp only[Option.getD_some];rw[show vu.sh (c.2.2.2.2,m)=M.pure (k7 c.2.2.2.2 m) from M.bF h _,M.aE]
theorem Xn{c:aQ}(az:gD c){w:z1'}(hw:iA c w=true){n m:Int}(an:jH c w n=some m):xX.sh (m,some c)=M.pure (k7 c.2.2.2.2 m):=by
 have:=W0 az (DK az.ck hw) an;exact M.bF ⟨c,rfl,az.NS,show -100000<=m by omega,show m<=20000 by omega⟩ _
theorem al6{c:aQ}{n m:Int}(an:m∈(k8 c n).1):cu c=0/\∃ w,iA c w=true/\w∈cv c/\jH c w n=some m:=by
 unfold k8 at an;split at an
 ·simp at an
 ·split at an
  ·simp at an
  ·rw[List.mem_filterMap]at an;obtain⟨w,hw,he⟩:=an;obtain⟨h1,h2,h3,_⟩:=alj hw;exact⟨h1,w,h3,h2,he⟩
theorem al7(x):M.le (Vw Ax.sh xX.sh x) (Hz.sh x):=M.bh λh=>by
 obtain⟨c,n⟩:=x;change gu c at h;unfold Vw;rw[show Ax.sh (c,n,λm=>xX.sh (m,some c))=M.pure (tW ((k8 c n).1.map λm=>(xX.sh (m,some c)).val 0),(k8 c n).2) from M.bF ⟨h,λw hw m hc an=>⟨_,Xn (oz hc) (vz hw) an⟩⟩ _];simp only[M.aE];show _=M.pure (Hy c n);unfold Hy;have:((k8 c n).1.map λm=>(xX.sh (m,some c)).val 0)=(k8 c n).1.map λm=>k7 c.2.2.2.2 m:=by
  refine List.map_congr_left λm an=>?_;obtain⟨hc,w,hw,_,he⟩:=al6 an;rw[Xn (oz hc) hw he,M.fp]
 rw[this]
abbrev Of:aJ:=⟨.ax (.bq sg) (.bq tI),cQ,λx=>∃ k:Int,x.2=some k/\True,λx=>bM (x.2.getD 0) 0 99⟩
theorem al8(x):M.le (VP vm.sh x) (Of.sh x):=M.bh λ_=>by
 unfold VP;rw[show vm.sh (x.2.getD 0)=M.pure (bM (x.2.getD 0) 0 99) from rfl,M.aE]
abbrev Og:aJ:=⟨.ax (.bq xL) (.ax (.bq (.bq sg)) (.ax (.bq tI) (.bq je))),.ax tI .bool,λx=>∃ (t:dt) (b:dD) (n:Int) (c:aQ),x=(some t,some (some b),some n,some c)/\DQ b.1 t.2/\(pt b.1 t.2).length<=1000/\∀ p∈pt b.1 t.2,xS (c.2.2.2.2,p.2),λx=>(((pt ((x.2.1.getD none).getD (tZ,[],[])).1 (x.1.getD ([],[])).2).map (t' (x.2.2.2.getD tZ) (x.2.2.1.getD 0))).sum,true)⟩
theorem Oh{c:aQ}{n:Int}:∀ (L:List bj) (a:Int),(∀ p∈L,xS (c.2.2.2.2,p.2))->0<=a->a+100000*(L.length:Int)<=1000000000->
  jy (λ(A:Int×aQ×Int×Unit) (y:aV×Int)=>M.bind (if decide (y.1.2.2.2.2.2=A.1)=true then M.af (vu.sh (A.2.1.2.2.2.2,y.2)).b8 (M.pure (cP.normal,IntKind.wrap
 .i64 (Add.add A.2.2.1 (M.val (vu.sh (A.2.1.2.2.2.2,y.2)) 0)),())) else M.pure (cP.normal,A.2.2.1,())) λp=>M.pure (p.1,A.1,A.2.1,p.2.1,())) L (n,c,a,())=M.pure (cP.normal,n,c,a+(L.map (t' c n)).sum,())
 | [],a,_,_,_=>by simp[jy]
 | p::L,a,h,h0,h1=>by
  unfold jy;simp only[List.length_cons]at h1;by_cases hp:p.1.2.2.2.2.2=n
  ·have ab:=ak8 (h p (by simp));have hv:vu.sh (c.2.2.2.2,p.2)=M.pure (k7 c.2.2.2.2 p.2):=M.bF (h p (by simp)) _;have hw:=bo (n:=a+k7 c.2.2.2.2 p.2) (by omega) (by omega);have aG:=Oh (c:=c) (n:=n) L (a+k7 c.2.2.2.2 p.2) (λq be=>h q (by simp[be])) (by omega) (by omega);simp only[hp,decide_true,if_true,hv,M.iT,M.fp,M.bg,b7,hw,M.aE];simp only[b7]at aG;rw[aG,List.map_cons,List.sum_cons];rw[show t' c n p=k7 c.2.2.2.2 p.2 from if_pos hp];rw[Int.add_assoc]
  ·have aG:=Oh (c:=c) (n:=n) L a (λq be=>h q (by simp[be])) h0 (by omega);simp only[hp,decide_false,Bool.false_eq_true,if_false,M.aE];rw[aG,List.map_cons,List.sum_cons];rw[show t' c n p=0 from if_neg hp,Int.zero_add]
theorem al9(x):M.le (VR vu.sh Ar.sh x) (Og.sh x):=M.sb λh=>by
 obtain⟨t,b,n,c,rfl,h1,h2,h3⟩:=h;unfold VR;simp only[Option.getD_some];rw[show Ar.sh (some b,some t)=M.pure (sz (some (some t),some (some b))) from rfl,M.aE,M.fG];refine⟨⟨_,t,b,rfl,rfl,h1,rfl⟩,λL iv=>?_⟩;obtain⟨cC,aZ,e1,e2,_,rfl⟩:=iv;cases e1;cases e2;rw[Oh _ 0 h3 (by omega) (by omega)];show M.b_ _ λy=>y=(((pt b.1 t.2).map (t' c n)).sum,true)
 simp only[M.aE,rY,Int.zero_add];exact M.dE.2 rfl
theorem Xo(cl:z4'):∀ l:List bj,(c6 cl l).length<=l.length
 | []=>by simp[c6]
 | [_]=>by simp[c6]
 | a::b::r=>by unfold c6;simp only[List.length_cons];have:=Xo cl r;omega
theorem al_{c:aQ}(az:gD c)(w:z1'):(mP c w).length<=1000:=by
 rw[HG];have:=NW (λu=>c6 c.2.2.2.1 (bO c w u)) 12 (dT 0 9) λu _=>Nat.le_trans (Xo _ _) (DG az w u);rw[show (dT 0 9).length=10 from by decide]at this;omega
theorem al'{c:aQ}(az:gD c){w:z1'}(hw:iA c w=true){p:bj}(hp:p∈mP c w):xS (c.2.2.2.2,p.2):=by
 have hex:((mP c w).find? λq=>q.1.1 == p.1.1).isSome=true:=List.find?_isSome.2 ⟨p,hp,by simp⟩;obtain⟨q,be⟩:=Option.isSome_iff_exists.1 hex;have DR:q.1.1=p.1.1:=by have:=List.find?_some be;simpa using this
 have vy:=List.mem_of_find?_eq_some be;have:q=p:=As (Oa c w) vy hp (N_ (Au vy) (Au hp) DR);have hv:jH c w p.1.1=some p.2:=by rw[N8 hw,be,this];rfl
 have:=W0 az (DK az.ck hw) hv;exact⟨az.NS,show -100000<=p.2 by omega,show p.2<=20000 by omega⟩
theorem ama(x):M.le (Vz vw.sh Aq.sh Of.sh Og.sh x) (HB.sh x):=M.bh λh=>by
 obtain⟨c,g⟩:=x;change gu c at h;unfold Vz;show _=M.pure (HA c g);unfold HA;rw[DS (b:=bM g 0 99) h λhc=>M.bF ⟨g,rfl,trivial⟩ _];rcases Av c (bM g 0 99) with⟨h1,h2,h3⟩ | ⟨h1,h2,h3,aR⟩
 ·rw[h2,h3];simp only[M.aE,List.map_nil,Xj];rw[if_pos (by simpa using h1)]
 ·rw[h1,aR];simp only[M.aE];rw[if_neg (by simp)];have az:=oz h2;rw[Oc (v:=λw=>(Ht c w g,true)) (DT h h2) λw hw=>?_,M.aE,Xk]
  ·rfl
  ·have aH:=vz hw;refine (M.bF ⟨(w,mN c w),t_ c,g,c,rfl,Xd az aH,al_ az w,λp hp=>al' az aH hp⟩ _).trans (congrArg M.pure ?_);show (((mP c w).map (t' c g)).sum,true)=_;rw[alW aH]
def me(t:Int):List bj->bj×Bool->bj×Bool
 | [],b=>b
 | e::l,b=>me t l (if e.2<=t then (e,decide (dN e.1=1)) else b)
def gF(l:List bj)(t:Int):bj×Bool:=me t l (e0,false)
theorem Xp{t:Int}{e:bj}{l:List bj}{b:bj×Bool}(h:e.2<=t):me t (e::l) b=me t l (e,decide (dN e.1=1)):=by rw[me,if_pos h]
theorem Xq{t:Int}{e:bj}{l:List bj}{b:bj×Bool}(h:¬e.2<=t):me t (e::l) b=me t l b:=by rw[me,if_neg h]
theorem Xr(t:Int):∀ (l:List bj) (b:bj×Bool),l.foldl (λb e=>if e.2<=t then (e,decide (dN e.1=1)) else b) b=me t l b
 | [],_=>rfl
 | e::l,b=>Xr t l _
theorem amb(l:List bj)(t:Int)(h:∀ e∈l,dN e.1=1\/dN e.1=2):mL l t=(if (gF l t).2=true then iy (gF l t).1.1 else -1,(gF l t).1.2):=by
 have key:∀ (l:List bj) (b:bj×Bool),(∀ e∈l,dN e.1=1\/dN e.1=2)->l.foldl (λb e=>if e.2<=t then (if dN e.1=2 then (-1,e.2) else (iy e.1,e.2)) else b) (if b.2=true then iy b.1.1 else -1,b.1.2)=(if (me t l b).2=true then iy (me t l b).1.1 else -1,(me t l b).1.2):=by
  intro l;induction l with
  | nil=>intro b _;rfl
  | cons e l aG=>
   intro b h;rw[List.foldl_cons];by_cases he:e.2<=t
   ·rw[Xp he,<-aG (e,decide (dN e.1=1)) λx hx=>h x (by grind),if_pos he];grind
   ·rw[Xq he,if_neg he];grind
 exact key l (e0,false) h
theorem Xs(l:List bj)(t:Int):gF l t=(e0,false)\/((gF l t).1∈l/\(gF l t).1.2<=t/\(gF l t).2=decide (dN (gF l t).1.1=1)):=by
 have key:∀ (l:List bj) (b:bj×Bool),me t l b=b\/((me t l b).1∈l/\(me t l b).1.2<=t/\(me t l b).2=decide (dN (me t l b).1.1=1)):=by
  intro l;induction l with
  | nil=>intro b;exact .inl rfl
  | cons e l aG=>
   intro b;by_cases he:e.2<=t
   ·rw[Xp he];grind
   ·rw[Xq he];grind
 exact key l (e0,false)
abbrev Oi(t:dt):Prop:=t.2.length=10/\∀ l∈t.2,l.length<=12
abbrev xY:aJ:=⟨.ax (.bq xL) (.ax tI tI),.ax Hf .bool,λx=>∃ t:dt,x.1=some t/\Oi t/\0<=x.2.1/\x.2.1<=9,λx=>gF ((x.1.getD ([],[])).2.getD x.2.1.toNat []) x.2.2⟩
theorem amc(x):M.le (VH x) (xY.sh x):=M.bh λh=>by
 obtain⟨o,u,m⟩:=x;obtain⟨t,h1,⟨h2,h3⟩,aR,bw⟩:=h;change o=some t at h1;change 0<=u at aR;change u<=9 at bw;subst h1;unfold VH;show _=M.pure (gF (t.2.getD u.toNat []) m);simp only[Option.isSome_some,M.bg,Option.getD_some];rw[M.bp (show (0:Int)<=u/\u<Int.ofNat 10 by grind)];have an:t.2.getD u.toNat []∈t.2:=xE aR (by omega);have ai:=h3 _ an;generalize t.2.getD u.toNat []=l at *
 rw[M.dk l (λi (b:bj×Bool)=>(m,b.2,l,(l.length:Int),(i:Int),e0,b.1,())) (λe b=>.next (if e.2<=m then (e,decide (dN e.1=1)) else b)) (λb=>.next (b.2,e0,b.1,())) (e0,false) ?_ ?_ ?_]
 ·rw[dM,M.aE,Xr];rfl
 ·rfl
 ·intro i G b;have hw:=bo (n:=(i:Int)+1) (by omega) (by omega);simp only[Prod.cK,Prod.e6,bJ,cE G,if_true,cT G,cq G,M.bg,b7,hw,aa.gS,decide_eq_true_eq];by_cases he:l[i].2<=m
  ·simp_all
  ·simp only[he,if_false,M.aE,M.bK,hw];rfl
 simp
theorem Xt(c:aQ)(w:z1'){u:Int}(h0:0<=u)(h:u<=9):(mN c w).getD u.toNat []=bO c w u:=by
 have hu:u=0\/u=1\/u=2\/u=3\/u=4\/u=5\/u=6\/u=7\/u=8\/u=9:=by omega
 rcases hu with rfl | rfl | rfl | rfl | rfl | rfl | rfl | rfl | rfl | rfl<;>rfl
theorem Xu{c:aQ}(az:gD c)(w:z1'):Oi (w,mN c w):=by
 refine⟨rfl,λl ai=>?_⟩;simp only[mN,List.mem_cons,List.not_mem_nil,or_false]at ai;rcases ai with rfl | rfl | rfl | rfl | rfl | rfl | rfl | rfl | rfl | rfl<;>exact DG az w _
theorem Xv{c:aQ}(az:gD c)(w:z1'){u t:Int}(h0:0<=u)(h:u<=9):xY.sh (h_ c w,u,t)=M.pure (gF (bO c w u) t):=by
 refine (M.bF ⟨_,rfl,Xu az w,h0,h⟩ _).trans (congrArg M.pure ?_);show gF ((mN c w).getD u.toNat []) t=_;rw[Xt c w h0 h]
theorem amd{c:aQ}(az:gD c){w:z1'}{u:Int}{e:bj}(he:e∈bO c w u):dN e.1=1\/dN e.1=2/\iy e.1=0:=(Aj.1 (az.Ak (DH he).1)).2.2.2.2.2
theorem Oj{c:aQ}(az:gD c){w:z1'}{u:Int}{e:bj}(he:e∈bO c w u):0<=iy e.1/\iy e.1<=99:=(Aj.1 (az.Ak (DH he).1)).2.2.2.2.1
theorem HH{c:aQ}(az:gD c){w:z1'}(hw:iA c w=true){u:Int}(hu:0<=u/\u<=9)(t:Int):mL (gE c w u) t=(if (gF (bO c w u) t).2=true then iy (gF (bO c w u) t).1.1 else -1,(gF (bO c w u) t).1.2)/\(decide ((mL (gE c w u) t).1>=0)=(gF (bO c w u) t).2):=by
 have e:=amb (bO c w u) t λe he=>(amd az he).imp id And.left;rw[N7 hw hu];refine⟨e,?_⟩;rw[e];cases ab:(gF (bO c w u) t).2 with
 | false=>simp
 | true=>
  simp only[if_true,decide_eq_true_eq];rcases Xs (bO c w u) t with h | ⟨h,_⟩
  ·grind
  ·exact (Oj az h).1
abbrev Ay:aJ:=⟨.ax (.bq sg) (.bq tI),cQ,λx=>∃ k:Int,x.2=some k/\True,λx=>bM (x.2.getD 0) 0 9999⟩
theorem Xw(x):M.le (VM xO.sh x) (Ay.sh x):=M.bh λ_=>by
 unfold VM;rw[show xO.sh (x.2.getD 0)=M.pure (bM (x.2.getD 0) 0 9999) from rfl,M.aE]
theorem ame(x):M.le (ajS xO.sh x) (Ay.sh x):=Xw x
def DU(t:dt)(m p:Int):Int:=(dT 0 9).foldl (λn u=>if (gF (t.2.getD u.toNat []) m).2=true then n+p else n) 0
abbrev Ol:aJ:=⟨.ax (.bq xL) (.ax (.bq tI) (.bq je)),.ax tI .bool,λx=>∃ (t:dt) (m:Int) (c:aQ),x=(some t,some m,some c)/\Oi t/\0<=c.2.2.2.2.2.2.2.2.2.2/\c.2.2.2.2.2.2.2.2.2.2<=100000,λx=>(DU (x.1.getD ([],[])) (x.2.1.getD 0) (x.2.2.getD tZ).2.2.2.2.2.2.2.2.2.2,true)⟩
theorem amf(x):M.le (VO xY.sh x) (Ol.sh x):=M.bh λh=>by
 obtain⟨t,m,c,rfl,h1,h2,h3⟩:=h;unfold VO;simp only[Option.getD_some];show _=M.pure (DU t m c.2.2.2.2.2.2.2.2.2.2,true);rw[M.gg (dT 0 9) (λi (n:Int)=>(some t,m,c,n,(i:Int),())) (λu n=>.next (if (gF (t.2.getD u.toNat []) m).2=true then n+c.2.2.2.2.2.2.2.2.2.2 else n)) (λn=>.next (n,())) (λi n=>0<=n/\n<=100000*(i:Int)) 0 ?_ ?_ ?_ ?_]
 ·rw[dM,M.aE];rfl
 ·rfl
 ·omega
 ·intro i G n aA;have G:i<10:=by simpa [dT]using G
  have hw:=bo (n:=(i:Int)+1) (by omega) (by omega);have gA:=bo (n:=n+c.2.2.2.2.2.2.2.2.2.2) (by omega) (by omega);have au:decide ((i:Int)<10)=true:=by grind
  refine⟨?_,λaZ cS=>?_⟩
  ·simp only[au,if_true,Df,Int.zero_add];rw[show xY.sh (some t,(i:Int),m)=M.pure (gF (t.2.getD ((i:Int)).toNat []) m) from M.bF ⟨t,rfl,h1,by simp,by grind⟩ _];simp only[M.aE,b7,hw,gA,aa.gS];by_cases ao:(gF (t.2.getD ((i:Int)).toNat []) m).2=true
   ·simp only[ao,if_true,M.aE,M.bK,hw];rfl
   ·simp only[ao,Bool.false_eq_true,if_false,M.aE,M.bK,hw];rfl
  grind
 ·intro n aA;have:(dT 0 9).length=10:=by decide
  simp[this]
theorem amg{c:aQ}(az:gD c){w:z1'}(hw:iA c w=true)(m:Int):DU (w,mN c w) m c.2.2.2.2.2.2.2.2.2.2=Hs c w m*c.2.2.2.2.2.2.2.2.2.2:=by
 unfold DU Hs;have key:∀ (L:z1') (n:Int),(∀ u∈L,0<=u/\u<=9)->L.foldl (λn u=>if (gF ((mN c w).getD u.toNat []) m).2=true then n+c.2.2.2.2.2.2.2.2.2.2 else n) (n*c.2.2.2.2.2.2.2.2.2.2)=(L.foldl (λn u=>if (mL (gE c w u) m).1>=0 then n+1 else n) n)*c.2.2.2.2.2.2.2.2.2.2:=by
  intro L;induction L with
  | nil=>simp
  | cons u L aG=>
   intro n h;have hu:=h u (by simp);obtain⟨_,h2⟩:=HH az hw hu m;simp only[List.foldl_cons];rw[Xt c w hu.1 hu.2];grind
 have:=key (dT 0 9) 0 λu hu=>sc.1 hu;grind
theorem amh(x):M.le (Vy vw.sh Aq.sh Ay.sh Ol.sh x) (HD.sh x):=M.bh λh=>by
 obtain⟨c,t⟩:=x;change gu c at h;unfold Vy;show _=M.pure (HC c t);unfold HC;rw[DS (b:=bM t 0 9999) h λhc=>M.bF ⟨t,rfl,trivial⟩ _];rcases Av c (bM t 0 9999) with⟨h1,h2,h3⟩ | ⟨h1,h2,h3,aR⟩
 ·rw[h2,h3];simp only[M.aE,List.map_nil,Xj];grind
 ·rw[h1,aR];simp only[M.aE];rw[if_neg (by simp)];have az:=oz h2;have hp:=(Hr.1 az.NS).2.2.2.2.2.2;rw[Oc (v:=λw=>(Hs c w t*c.2.2.2.2.2.2.2.2.2.2,true)) (DT h h2) λw hw=>?_,M.aE,Xk]
  ·rfl
  ·refine (M.bF ⟨(w,mN c w),t,c,rfl,Xu az w,hp.1,hp.2⟩ _).trans (congrArg M.pure ?_);show (DU (w,mN c w) t c.2.2.2.2.2.2.2.2.2.2,true)=_;rw[amg az (vz hw)]
theorem Xx(p:Int×Int)(m:z4')(k v:Int):eN (p::m) k v=if decide (k=p.1)=true then (p.1,v)::m else p::eN m k v:=rfl
theorem Om(k v:Int):∀ m:z4',((m.map (·.1)).Nodup->((eN m k v).map (·.1)).Nodup)/\∀ x,x∈(eN m k v).map (·.1)<->x∈m.map (·.1)\/x=k
 | []=>by
  rw[show eN [] k v=[(k,v)] from rfl];simp
 | p::m=>by
  obtain⟨h1,h2⟩:=Om k v m;rw[Xx];grind
theorem Xy(k v:Int){B:Int}:∀ m:z4',(∀ p∈m,0<=p.2/\p.2<=B)->0<=v/\v<=B->∀ p∈eN m k v,0<=p.2/\p.2<=B
 | [],_,hv,p,hp=>by
  rw[show eN [] k v=[(k,v)] from rfl,List.mem_singleton]at hp;grind
 | q::m,h,hv,p,hp=>by
  rw[Xx]at hp;split at hp
  ·grind
  ·rcases List.mem_cons.1 hp with rfl | hp
   ·grind
   ·exact Xy k v m (λx hx=>h x (by grind)) hv p hp
def k9(c:aQ)(w:z1')(u t:Int):Int:=if (gF (bO c w u) t).2=true then iy (gF (bO c w u) t).1.1 else -1
def xZ(m:z4')(k:Int):Int:=Option.getD (Option.map (λx=>x.2) (List.find? (λp=>decide (k=p.1)) m)) 0
structure Az(L:z1')(i:Nat)(m:z4'):Prop where
 l7:(m.map (·.1)).Nodup
 mem:∀ x,x∈m.map (·.1)<->x∈L
 val:∀ p∈m,0<=p.2/\p.2<=(i:Int)
theorem Az.add{L:z1'}{i:Nat}{m:z4'}(h:Az L i m)(k:Int)(G:i<=60):IntKind.wrap .i64 (xZ m k+1)=xZ m k+1/\Az (L++[k]) (i+1) (eN m k (xZ m k+1)):=by
 have ab:0<=xZ m k/\xZ m k<=(i:Int):=by
  unfold xZ;cases ar:m.find? λp=>decide (k=p.1) with
  | none=>simp
  | some p=>exact h.val p (List.mem_of_find?_eq_some ar)
 refine⟨bo (by omega) (by omega),(Om _ _ _).1 h.l7,λx=>?_,Xy _ _ _ (λp hp=>by have:=h.val p hp;omega) (by omega)⟩;rw[(Om _ _ _).2,h.mem];simp
theorem ami{c:aQ}(az:gD c){w:z1'}(hw:iA c w=true){u:Int}(hu:0<=u/\u<=9):((bO c w u).filter λe=>dN e.1 == 1).length<=11:=by
 have ai:=DG az w u;by_cases axm:(bO c w u).length=12
 ·have h1:=(N6 (Hu hw hu) (by omega:1<(bO c w u).length)).1;have h1:dN (bO c w u)[1].1=2:=h1;have an:=List.getElem_mem (by omega:1<(bO c w u).length);have:((bO c w u).filter λe=>dN e.1 == 1).length<(bO c w u).length:=by
   refine List.length_filter_lt_length_iff_exists.2 ⟨_,an,by grind⟩
  omega
 grind
theorem amj(c:aQ)(w w':z1')(u:Int):(((bO c w u).filter λe=>dN e.1 == 1).map (·.1)).Perm (((bO c w' u).filter λe=>dN e.1 == 1).map (·.1)):=by
 have e:∀ w,((bO c w u).filter λe=>dN e.1 == 1).map (·.1)=((bO c w u).map (·.1)).filter λs=>dN s == 1:=λw=>by rw[List.filter_map];rfl
 rw[e,e];exact ((N' c w u).trans (N' c w' u).symm).filter _
theorem On(c:aQ)(w:z1')(u t:Int):k9 c w u t=-1\/∃ s∈((bO c w u).filter λe=>dN e.1 == 1).map (·.1),k9 c w u t=iy s:=by
 unfold k9;rcases Xs (bO c w u) t with h | ⟨h1,h2,h3⟩
 ·left;rw[h];rfl
 ·by_cases ab:(gF (bO c w u) t).2=true
  ·right;rw[if_pos ab];rw[h3]at ab;exact⟨_,List.mem_map.2 ⟨_,List.mem_filter.2 ⟨h1,by simpa using ab⟩,rfl⟩,rfl⟩
  ·left;rw[if_neg ab]
theorem amk{c:aQ}(az:gD c){u t:Int}(hu:0<=u/\u<=9){K:z1'}(aA:K.Nodup)(iu:∀ x∈K,x∈(cv c).map λw=>k9 c w u t):K.length<=12:=by
 cases hT:cv c with
 | nil=>
  rw[hT]at iu;cases K with
  | nil=>simp
  | cons x K=>have:=iu x (by simp);grind
 | cons w0 T=>
  have zM:iA c w0=true:=vz (by grind);have qM:K ⊆ -1::(((bO c w0 u).filter λe=>dN e.1 == 1).map (·.1)).map iy:=by
   intro x hx;obtain⟨w,hw,rfl⟩:=List.mem_map.1 (iu x hx);rcases On c w u t with h | ⟨s,hs,h⟩
   ·grind
   ·rw[h];exact List.mem_cons_of_mem _ (List.mem_map_of_mem ((amj c w w0 u).mem_iff.1 hs))
  have:=aA.length_le_of_subset qM;have axn:=ami az zM hu;grind
abbrev Oo:aJ:=⟨.ax (.bq sg) (.ax (.bq tI) (.bq tI)),cQ,λx=>∃ a b:Int,x.2=(some a,some b),λx=>vv (x.2.1.getD 0) (x.2.2.getD 0)⟩
theorem aml(x):M.le (VF b4.sh xO.sh x) (Oo.sh x):=M.bh λ_=>by
 unfold VF;rw[alk,M.aE,show xO.sh (x.2.2.getD 0)=M.pure (bM (x.2.2.getD 0) 0 9999) from rfl,M.kB,M.aE,vf];rfl
theorem Xz{c:aQ}(az:gD c){w:z1'}(hw:iA c w=true){u:Int}(hu:0<=u/\u<=9)(t:Int):(mL (gE c w u) t).1=k9 c w u t:=by rw[(HH az hw hu t).1];rfl
theorem amm(x):M.le (Vv vw.sh xY.sh sk.sh Hm.sh Oo.sh x) (HE.sh x):=M.sb λh=>by
 obtain⟨c,u,t⟩:=x;change gu c at h;unfold Vv;show M.b_ _ λy=>y=rf c u t;unfold rf NZ;rw[DS (b:=vv u t) h λhc=>M.bF ⟨u,t,rfl⟩ _];rcases Av c (vv u t) with⟨h1,h2,h3⟩ | ⟨h1,h2,h3,aR⟩
 ·rw[h2,h3];simp only[M.aE];rw[if_pos (by grind)];refine M.dE.2 ?_;simp
 ·rw[h1,aR];simp only[M.aE];rw[if_neg (by simp)];have az:=oz h2;have cp:(0<=u/\u<=9)/\0<=t/\t<=9999:=by
   unfold vv at h3;rw[Bool.and_eq_true,ov,ov]at h3;exact h3
  have hu:=cp.1;have hlen:=DT h h2;simp only[Option.isSome_some,M.bg,Option.getD_some];show M.b_ (M.bind (M.loop _ ((cv c).map (h_ c),_,0,u,t,[],())) _) _;rw[M.fG];refine (M.Bl (p:=λz=>∃ m,z=.next (m,())/\Az ((cv c).map λw=>k9 c w u t) 60 m) (λA=>∃ (i:Nat) (m:z4'),i<=(cv c).length/\A=((cv c).map (h_ c),(((cv c).map (h_ c)).length:Int),(i:Int),u,t,m,())/\Az (((cv c).take i).map λw=>k9 c w u t) i m) (λA=>((cv c).length - A.2.2.1).toNat) ?_ _ ⟨0,[],Nat.zero_le _,rfl,⟨.nil,by simp,by simp⟩⟩).mono ?_
  ·rintro A ⟨i,m,n6,rfl,bb⟩;by_cases G:i<(cv c).length
   ·have c6:i<((cv c).map (h_ c)).length:=by grind
    have hw:=bo (n:=(i:Int)+1) (by omega) (by omega);have an:=List.getElem_mem G;obtain⟨bT,a2⟩:=bb.add (k9 c (cv c)[i] u t) (by omega);have pn:((cv c).take (i+1)).map (λw=>k9 c w u t)=((cv c).take i).map (λw=>k9 c w u t)++[k9 c (cv c)[i] u t]:=by
     rw[List.take_add_one,List.getElem?_eq_getElem G,Option.toList_some,List.map_append];rfl
    simp only[Prod.cK,bJ,cE c6,if_true,cT c6,cq c6,M.bg,List.getElem_map];rw[Xv az _ hu.1 hu.2,M.aE];have fin:∀ k,k=k9 c (cv c)[i] u t->(∃ (kR:Nat) (c8:z4'),kR<=(cv c).length/\(((cv c).map (h_ c),(((cv c).map (h_ c)).length:Int),IntKind.wrap .i64 ((i:Int)+1),u,t,eN m k (IntKind.wrap .i64 (xZ m k+1)),()):List (Option dt)×Int×Int×Int×Int×z4'×Unit)=((cv c).map (h_ c),(((cv c).map (h_ c)).length:Int),(kR:Int),u,t,c8,())/\Az (((cv c).take kR).map λw=>k9 c w u t) kR c8)/\((cv c).length - IntKind.wrap .i64 ((i:Int)+1)).toNat<((cv c).length - (i:Int)).toNat:=by
     grind
    cases ab:(gF (bO c (cv c)[i] u) t).2 with
    | true=>
     simp only[if_true];rw[M.aE,M.bK];exact M.dE.2 (fin _ (by unfold k9;grind))
    | false=>
     simp only[Bool.false_eq_true,if_false];rw[M.aE,M.bK];exact M.dE.2 (fin (-1) (by unfold k9;grind))
   ·have amn:i=(cv c).length:=by omega
    subst amn;have au:decide (((cv c).length:Int)<(((cv c).map (h_ c)).length:Int))=false:=by simp
    simp only[au,Bool.false_eq_true,if_false,M.aE];refine M.dE.2 ⟨m,rfl,bb.l7,?_,λp hp=>by have:=bb.val p hp;omega⟩;have:=bb.mem;grind
  ·rintro z ⟨m,rfl,bb⟩;rw[M.bK];rw[show Hm.sh m=M.pure (jF (some m)) from rfl,M.aE];have amo:m.length<=12:=by
    have:=amk az hu (t:=t) bb.l7 λx hx=>(bb.mem x).1 hx;grind
   rw[show sk.sh (jF (some m))=M.pure (e7 gW (m.map (·.1))) from (M.bF (WB (by omega)) _).trans (congrArg M.pure WC),M.aE];refine M.dE.2 ?_;have e1:e7 gW (m.map (·.1))=(dT (-1) 99).filter λg=>((cv c).map λw=>(mL (gE c w u) t).1).contains g:=by
    have amp:((cv c).map λw=>(mL (gE c w u) t).1)=(cv c).map λw=>k9 c w u t:=List.map_congr_left λw hw=>Xz az (vz hw) hu t;rw[amp];have G:(dT (-1) 99).Pairwise (·<·):=by
     unfold dT;rw[List.pairwise_map];exact (List.pairwise_lt_range).imp λh=>by omega
    refine z_ ((G.filter _).imp λh=>Int.le_of_lt h) ((List.perm_ext_iff_of_nodup bb.l7 ((G.filter _).imp λh=>by omega)).2 λk=>?_);rw[bb.mem,List.mem_filter,sc];simp only[List.contains_iff_mem];refine⟨λao=>⟨?_,ao⟩,λao=>ao.2⟩;obtain⟨w,hw,rfl⟩:=List.mem_map.1 ao;rcases On c w u t with h | ⟨s,hs,h⟩
    ·omega
    ·rw[h];obtain⟨e,he,rfl⟩:=List.mem_map.1 hs;have:=Oj az (List.mem_filter.1 he).1;omega
   rw[e1]
def Oq(c:aQ)(l:List bj)(t:Int):Bool:=(gF l t).2&&decide (lL c.2.2.2.1 (gF l t).1.2 t>=c.2.2.2.2.2.2.2.2.1)
theorem amq{c:aQ}(az:gD c){w:z1'}(hw:iA c w=true){u:Int}(hu:0<=u/\u<=9)(t:Int):Oq c (bO c w u) t=DL c w u t:=by
 obtain⟨h1,h2⟩:=HH az hw hu t;unfold Oq DL;grind
theorem amr(x):M.le (VD vw.sh xY.sh vt.sh Ay.sh x) (HF.sh x):=M.bh λh=>by
 obtain⟨c,t⟩:=x;change gu c at h;unfold VD;show _=M.pure (su c t);unfold su;rw[DS (b:=bM t 0 9999) h λhc=>M.bF ⟨t,rfl,trivial⟩ _];rcases Av c (bM t 0 9999) with⟨h1,h2,h3⟩ | ⟨h1,h2,h3,aR⟩
 ·rw[h3];simp only[M.aE];grind
 ·rw[h1,aR];simp only[M.aE];rw[if_neg (by simp),if_neg (by simp)];have az:=oz h2;have aH:=ov.1 h3;have hlen:=DT h h2;have hT:∀ w∈cv c,iA c w=true:=λw hw=>vz hw;rw[M.gg (dT 0 9) (λi (b:z1'×z1')=>(some (t_ c),(i:Int),c,t,b.1,b.2,())) (λu b=>.next (if decide (oA c (cv c) u t=(cv c).length)=true then b.1++[u] else b.1,if decide (oA c (cv c) u t > 0)=true then b.2++[u] else b.2)) (λb=>.next (b.1,b.2,())) (λi b=>b.1.length<=i/\b.2.length<=i) ([],[]) ?_ (by simp) ?_ ?_]
  ·rw[dM,M.aE,M.bK];have key:∀ (p q:Int->Bool) (l:z1') (a b:z1'),l.foldl (λ(z:z1'×z1') u=>(if p u=true then z.1++[u] else z.1,if q u=true then z.2++[u] else z.2)) (a,b)=(a++l.filter p,b++l.filter q):=by
    intro p q l;induction l with
    | nil=>simp
    | cons u l aG=>
     intro a b;simp only[List.foldl_cons];rw[aG];cases hp:p u<;>cases be:q u<;>simp[hp,be]
   rw[key (λu=>decide (oA c (cv c) u t=(cv c).length)) (λu=>decide (oA c (cv c) u t > 0))];simp
  ·rfl
  ·intro i G b ij;have G:i<10:=by simpa [dT]using G
   have hw:=bo (n:=(i:Int)+1) (by omega) (by omega);have au:decide ((i:Int)<10)=true:=by grind
   refine⟨?_,λaZ cS=>?_⟩
   ·simp only[au,if_true,Df,Int.zero_add,Prod.cK,Option.isSome_some,M.bg,Option.getD_some];rw[M.gg (cv c) (λk (n:Nat)=>(some (t_ c),(i:Int),(n:Int),(i:Int),(cv c).map (h_ c),(((cv c).map (h_ c)).length:Int),(k:Int),c,t,b.1,b.2,())) (λw n=>.next (if DL c w i t=true then n+1 else n)) (λn=>.next (some (t_ c),(i:Int),(n:Int),(i:Int),c,t,b.1,b.2,())) (λk n=>n<=k) 0 ?_ (by simp) ?_ ?_]
    ·rw[dM];have key:∀ (l:List (z1')) (n:Nat),l.foldl (λn w=>if DL c w i t=true then n+1 else n) n=n+oA c l i t:=by
      intro l;induction l with
      | nil=>intro n;rfl
      | cons w l aG=>
       intro n;simp only[List.foldl_cons];rw[aG];unfold oA;grind
     rw[key,Nat.zero_add,M.aE,M.bK];have Bh:((cv c).map (h_ c)).length=(cv c).length:=List.length_map _;simp only[Prod.cK,Prod.e6,Prod.gq,bJ,Option.isSome_some,M.bg,Option.getD_some,Bh];have eO:b6 (Add.add b.1.length (Add.add 0 1)):=hG (by grind);have pL:b6 (Add.add b.2.length (Add.add 0 1)):=hG (by grind);have d1:decide ((oA c (cv c) i t:Int) > 0)=decide (oA c (cv c) i t > 0):=by simp
     have d2:decide ((oA c (cv c) i t:Int)=((cv c).length:Int))=decide (oA c (cv c) i t=(cv c).length):=by grind
     rw[d1];cases h1:decide (oA c (cv c) i t > 0)<;>cases h2:decide (oA c (cv c) i t=(cv c).length)<;>
      simp only[if_true,Bool.false_eq_true,if_false,M.bp eO,M.bp pL,M.aE,M.bK,Option.isSome_some,M.bg,Option.getD_some,Bh,d2,h2,b7,hw,aa.gS]<;>rfl
    ·rfl
    ·intro k ao n aA;have vq:k<((cv c).map (h_ c)).length:=by grind
     have hw:=bo (n:=(k:Int)+1) (by omega) (by omega);have gA:=bo (n:=(n:Int)+1) (by omega) (by omega);have kx:=hT _ (List.getElem_mem ao);have mf:=DK h2 kx;have hu:0<=(i:Int)/\(i:Int)<=9:=by omega
     have tk:=amq az kx hu t;obtain⟨b1,cI⟩:=HH az kx hu t;refine⟨?_,λaZ cS=>?_⟩
     ·simp only[Prod.cK,Prod.e6,Prod.gq,Prod.h9,Prod.jE,Prod.kF,bJ,cE vq,if_true,cT vq,cq vq,M.bg,b7,hw,List.getElem_map];rw[Xv az _ hu.1 hu.2,M.aE,<-tk];unfold Oq;cases ab:(gF (bO c (cv c)[k] (i:Int)) t).2 with
      | true=>
       have BP:Al (c,(gF (bO c (cv c)[k] (i:Int)) t).1.2,t):=by
        have:=alm az mf aH.2 (u:=(i:Int)) (t:=t) (by grind);grind
       have ams:vt.sh (c,(gF (bO c (cv c)[k] (i:Int)) t).1.2,t)=M.pure (lL c.2.2.2.1 (gF (bO c (cv c)[k] (i:Int)) t).1.2 t):=M.bF BP _;simp only[ams,M.iT,M.fp,Bool.true_and,and_self,forall_const,M.bg,true_and];by_cases an:lL c.2.2.2.1 (gF (bO c (cv c)[k] (i:Int)) t).1.2 t>=c.2.2.2.2.2.2.2.2.1
       ·simp_all
       ·simp only[an,decide_false,Bool.false_eq_true,if_false,M.aE,M.bK,hw,aa.gS];rfl
      | false=>
       simp_all
     grind
    simp
   grind
  ·intro b ij;rfl
def XA(Ot:aQ->M Int)(x:aQ):M Bool:=
 if (decide (Int.ofNat (List.length x.1) > 20)||decide (Int.ofNat (List.length x.2.1) > 40)||decide (Int.ofNat (List.length x.2.2.1) > 60)||decide (Int.ofNat (List.length x.2.2.2.1) > 40))=true then M.pure true else M.bind (Ot x) λy=>if decide (y≠0)=true then M.pure false else M.bind (M.loop (λ(A:Int×Int×aQ×Unit)=>letI b:=List.getD A.2.2.1.1 (Int.toNat A.2.1) (0,0);letI a:=A.2.1<Int.ofNat (List.length A.2.2.1.1);if decide a=true then M.af (0<=A.2.1/\a) (M.af (0<=A.2.1/\a) (M.pure (aa.next (IntKind.wrap .i64 (A.1*IntKind.wrap .i64 (Add.add (IntKind.wrap .i64 (b.2-b.1)) 1)),IntKind.wrap .i64 (Add.add A.2.1 1),A.2.2.1,())))) else M.bind (M.pure (aa.next (A.1,()))) λr=>M.pure (aa.done r)) (1,0,x,())) (aa.bl (λ(A:Int×Unit)=>M.pure (decide (A.1 > 60))))
def lM(c:aQ):Bool:=decide (c.1.length > 20)||decide (c.2.1.length > 40)||decide (c.2.2.1.length > 60)||decide (c.2.2.2.1.length > 40)||(decide (cu c=0)&&decide (j5 c.1 > 60))
theorem XB:∀ (l:z4') (n:Nat),l.foldl (λn s=>n*(s.2 - s.1+1).toNat) n=n*j5 l
 | [],n=>by simp[j5]
 | s::l,n=>by simp only[List.foldl_cons,j5];rw[XB l,Nat.mul_assoc]
abbrev vA:aJ:=⟨je,cQ,iC,lM⟩
theorem amt(x):M.le (XA hI.sh x) (vA.sh x):=M.bh λh=>by
 unfold XA;show _=M.pure (lM x);simp only[bJ];by_cases hs:(decide ((x.1.length:Int) > 20)||decide ((x.2.1.length:Int) > 40)||decide ((x.2.2.1.length:Int) > 60)||decide ((x.2.2.2.1.length:Int) > 40))=true
 ·rw[if_pos hs];refine congrArg M.pure ?_;unfold lM;grind
 ·rw[if_neg hs,show hI.sh x=M.pure (cu x) from M.bF h _,M.aE];have e:lM x=(decide (cu x=0)&&decide (j5 x.1 > 60)):=by
   unfold lM;grind
  rw[e];by_cases hc:cu x=0
  ·have az:=oz hc;rw[if_neg (by grind)];have aA:=az.dG;rw[M.gg x.1 (λi (n:Nat)=>((n:Int),(i:Int),x,())) (λs n=>.next (n*(s.2 - s.1+1).toNat)) (λn=>.next ((n:Int),())) (λi n=>n<=61 ^ i) 1 ?_ ?_ ?_ ?_]
   ·rw[dM,XB,Nat.one_mul,M.aE,M.bK];grind
   ·rfl
   ·simp
   ·intro i G n hF;have ao:=az.clk _ (List.getElem_mem G);have ab:n<=61 ^ 3:=Nat.le_trans hF (Nat.pow_le_pow_right (by omega) (by omega));have hw:=bo (n:=(i:Int)+1) (by omega) (by omega);have b1:=bo (n:=x.1[i].2 - x.1[i].1) (by omega) (by omega);have cI:=bo (n:=x.1[i].2 - x.1[i].1+1) (by omega) (by omega);have ec:((n*(x.1[i].2 - x.1[i].1+1).toNat:Nat):Int)=(n:Int)*(x.1[i].2 - x.1[i].1+1):=by
     grind
    have an:n*(x.1[i].2 - x.1[i].1+1).toNat<=61 ^ (i+1):=by
     rw[Nat.pow_succ];exact Nat.mul_le_mul hF (by omega)
    have GK:n*(x.1[i].2 - x.1[i].1+1).toNat<=61 ^ 4:=Nat.le_trans an (Nat.pow_le_pow_right (by omega) (by omega));have eC:=bo (n:=(n:Int)*(x.1[i].2 - x.1[i].1+1)) (by omega) (by omega);simp_all
   simp
  grind
theorem amu{c:aQ}(h:lM c=false):gu c:=by
 unfold lM at h;simp only[Bool.or_eq_false_iff,decide_eq_false_iff_not,Bool.and_eq_false_imp,decide_eq_true_eq]at h;obtain⟨⟨⟨⟨h1,h2⟩,h3⟩,aR⟩,bw⟩:=h;exact⟨⟨by omega,by omega,by omega,by omega⟩,λhc=>by omega⟩
end Go.Fer.H
namespace Go.Fer
open M (aa)
abbrev aK:Type:=List UInt8
abbrev aW:Type:=br×H.aQ
abbrev vC:Type:=z2'×List (List (Int×z1'×Int×Int))×Int×Int×z2'×z1'×List da×List dq×List Dm×Unit
abbrev AA:Type:=Int×Bool×Option Nat
abbrev kJ(l:List (aK×AA))(a:aK)(b:AA):List (aK×AA):=ln (k:=.str) (v:=.st (.ax (.int .i64) (.ax .bool .dO))) l a b
def XC(Ot:H.aQ->M Int)(Ou:br->M Int)(x:aW):M Int:=
 M.bind (Ou x.1) λy=>M.bind (b3 (!(decide (y≠0))) (Ot x.2) 0) λbG=>if (decide (y≠0)||decide (bG≠0))=true then M.pure 120 else M.pure 0
def XD(amv:aW->M Int)(amw:aW×Unit->M (aW×Unit))(amx:Unit->M (List (aK×Int×Bool×Option Nat)))(amy:List (aK×Int×Bool×Option Nat)×aK×aW×Unit->M (aK×aW×Unit))(x:aW×List aK):M (List aK×aW×Int):=
 letI d:=Int.ofNat (List.length x.2);M.bind (amv x.1) λy=>if decide (y≠0)=true then M.pure ([],((([],[],0,[]),[],[],[],[],0),[],[],[],[],0,0,0,0,0,0,0),y) else if decide (d > 40)=true then M.pure ([],((([],[],0,[]),[],[],[],[],0),[],[],[],[],0,0,0,0,0,0,0),2) else M.bind (amw (x.1,())) λy=>M.bind (amx ()) λbG=>M.bind (M.loop (λ(A:List (aK×Int×Bool×Option Nat)×List aK×Int×Int×List aK×Int×Int×Int×Int×Int×Int×Int×Int×Int×aW×Unit)=>letI b:=A.2.2.2;letI a:=b.2.2.2.2;letI c:=a.2.2.2.2;if decide (b.1<A.2.2.1)=true then M.af (0<=b.1/\b.1<Int.ofNat (List.length A.2.1)) (M.bind (amy (A.1,List.getD A.2.1 (Int.toNat b.1) [],c.2.2.2.1,())) (λy=>M.af (b6 (Add.add (List.length b.2.1) (Add.add 0 1))) (M.pure (aa.next (A.1,A.2.1,A.2.2.1,IntKind.wrap .i64 (Add.add b.1 1),b.2.1++[y.1],b.2.2.1,b.2.2.2.1,a.1,a.2.1,a.2.2.1,a.2.2.2.1,c.1,c.2.1,c.2.2.1,y.2.1,()))))) else M.bind (M.pure (aa.next (b.2.1,b.2.2.1,b.2.2.2.1,a.1,a.2.1,a.2.2.1,a.2.2.2.1,c.1,c.2.1,c.2.2.1,c.2.2.2.1,()))) λr=>M.pure (aa.done r)) (bG,x.2,d,0,[],0,0,0,0,0,0,0,0,0,y.1,())) (aa.bl (λ(A:List aK×Int×Int×Int×Int×Int×Int×Int×Int×Int×aW×Unit)=>M.af True (M.pure (A.1,A.2.2.2.2.2.2.2.2.2.2.1,0))))
def XE(Dp:br->M Int)(zZ:H.aQ->M Int)(x:aW):M Int:=
 M.bind (Dp x.1) λy=>M.bind (b3 (!(decide (y≠0))) (zZ x.2) 0) λbG=>if (decide (y≠0)||decide (bG≠0))=true then M.pure 120 else M.pure 0
def XF(Ov:H.aQ×z7'×z1'->M (H.aQ×Int))(XG:br->M br)(x:aW×Unit):M (aW×Unit):=
 M.bind (Ov (x.1.2,[],[])) λy=>M.af (XG x.1.1).b8 (M.pure ((M.val (XG x.1.1) (([],[],0,[]),[],[],[],[],0),y.1),()))
def amz(x:Unit):M (List (aK×Int×Bool×Option Nat)):=
 M.pure (kJ (kJ (kJ (kJ (kJ (kJ (kJ (kJ (kJ (kJ (kJ (kJ (kJ (kJ (kJ (kJ (kJ (kJ (kJ (kJ [] [108,101,110,100] (5,false,some 119)) [98,97,99,107] (4,false,some 120)) [118,111,105,100] (1,false,some 121)) [108,97,115,116,115] (1,false,some 122)) [102,101,101] (1,false,some 123)) [111,119,101,115] (1,false,some 124)) [104,101,108,100] (1,false,some 125)) [119,104,101,114,101] (2,false,some 126)) [109,105,115,115,105,110,103] (1,false,some 127)) [116,114,105,97,108] (4,false,some 128)) [102,105,116,115] (3,false,some 129)) [115,116,111,99,107] (2,false,some 130)) [99,111,109,101,115] (3,false,some 131)) [112,105,101,99,101] (4,true,some 132)) [119,105,115,104] (5,true,some 133)) [100,114,111,112] (1,false,some 134)) [99,97,110] (1,false,some 135)) [116,97,107,101,115] (0,true,some 136)) [109,111,115,116] (0,false,some 137)) [101,120,116,114,97] (0,false,some 138))
def XH(amA:aK×aK->M (List aK))(amB:aK->M (Int×Bool))(amC:Nat->z1'×aW×Unit->M (aK×aW×Unit))(x:List (aK×Int×Bool×Option Nat)×aK×aW×Unit):M (aK×aW×Unit):=
 M.bind (amA (x.2.1,[32])) λy=>letI b:=Int.ofNat (List.length y);letI f:=IntKind.wrap .i64 (b-1);letI d:=List.drop (Int.toNat 1) (List.take (Int.toNat b) y);letI a:=Option.map (λx=>x.2) (List.find? (λp=>decide (List.getD y (Int.toNat 0) []=p.1)) x.1);letI c:=Option.getD a (0,false,none);M.af ((0:Int)<=0/\0<b) (if (!(Option.isSome a)||decide (f<c.1)||decide (f > c.1)&&!c.2.1)=true then M.pure ([63],x.2.2.1,()) else M.bind (M.af ((0:Int)<=1/\1<=b/\b<=b) (M.loop (λ(A:List aK×Int×Int×(Int×Bool×Option Nat)×z1'×aW×Unit)=>letI e:=A.2.2;if decide (e.1<A.2.1)=true then M.af (0<=e.1/\e.1<Int.ofNat (List.length A.1)) (M.bind (amB (List.getD A.1 (Int.toNat e.1) [])) (λy=>if (!y.2)=true then M.bind (M.bind (M.pure ([63],e.2.2.2.1,())) (λr=>M.pure (aa.done r))) λr=>M.pure (aa.done r) else M.af (b6 (Add.add (List.length e.2.2.1) (Add.add 0 1))) (M.pure (aa.next (A.1,A.2.1,IntKind.wrap .i64 (Add.add e.1 1),e.2.1,e.2.2.1++[y.1],e.2.2.2.1,()))))) else M.bind (M.pure (aa.next (e.2.1,e.2.2.1,e.2.2.2.1,()))) λr=>M.pure (aa.done r)) (d,Int.ofNat (List.length d),0,c,[],x.2.2.1,()))) (aa.bl (λ(A:(Int×Bool×Option Nat)×z1'×aW×Unit)=>M.bind (M.af (∃ (k:Nat),List.Mem k [119,120,121,122,123,124,125,126,127,128,129,130,131,132,133,134,135,136,137,138]/\A.1.2.2=some k) (amC (Option.getD A.1.2.2 0) (A.2.1,A.2.2.1,()))) λy=>M.pure (y.1,y.2.1,()))))
def XI(DV:z7'×z1'×aW×Unit->M (aK×aW×Unit))(x:z1'×aW×Unit):M (aK×aW×Unit):=
 letI a:=Int.ofNat (List.length x.1);M.af ((0:Int)<=0/\0<a) (M.af ((0:Int)<=1/\1<a) (M.af ((0:Int)<=2/\2<a) (M.af ((0:Int)<=3/\3<a) (M.af ((0:Int)<=4/\4<a) (M.bind (DV ([(List.getD x.1 (Int.toNat 0) 0,List.getD x.1 (Int.toNat 1) 0,List.getD x.1 (Int.toNat 2) 0,1,List.getD x.1 (Int.toNat 3) 0,List.getD x.1 (Int.toNat 4) 0)],[],x.2.1,())) (λy=>M.pure (y.1,y.2.1,())))))))
def XJ(Ov:H.aQ×z7'×z1'->M (H.aQ×Int))(x:z7'×z1'×aW×Unit):M (aK×aW×Unit):=
 M.af True (M.bind (Ov (x.2.2.1.2,x.1,x.2.1)) (λy=>if decide (y.2≠0)=true then M.pure ([110,111],x.2.2.1,()) else M.af True (M.pure ([111,107],(x.2.2.1.1,y.1),()))))
def XK(DV:z7'×z1'×aW×Unit->M (aK×aW×Unit))(x:z1'×aW×Unit):M (aK×aW×Unit):=
 letI a:=Int.ofNat (List.length x.1);M.af ((0:Int)<=0/\0<a) (M.af ((0:Int)<=1/\1<a) (M.af ((0:Int)<=2/\2<a) (M.af ((0:Int)<=3/\3<a) (M.bind (DV ([(List.getD x.1 (Int.toNat 0) 0,List.getD x.1 (Int.toNat 1) 0,List.getD x.1 (Int.toNat 2) 0,2,List.getD x.1 (Int.toNat 3) 0,0)],[],x.2.1,())) (λy=>M.pure (y.1,y.2.1,()))))))
def XL(DV:z7'×z1'×aW×Unit->M (aK×aW×Unit))(x:z1'×aW×Unit):M (aK×aW×Unit):=
 M.bind (DV ([],x.1,x.2.1,())) λy=>M.pure (y.1,y.2.1,())
def XM(Ow:H.aQ×Int->M ((Int×Int)×Int))(rh:(Int×Int)×Int->M aK)(x:z1'×aW×Unit):M (aK×aW×Unit):=
 letI a:=(x.2.1.2,List.getD x.1 (Int.toNat 0) 0);M.af True (M.af ((0:Int)<=0/\0<Int.ofNat (List.length x.1)) (M.af (Ow a).b8 (M.af (rh (M.val (Ow a) ((0,0),0))).b8 (M.pure (M.val (rh (M.val (Ow a) ((0,0),0))) [],x.2.1,())))))
def XN(nM:Int×z1'->M aK)(x:(Int×Int)×Int):M aK:=
 M.bind (nM (x.2,[x.1.1,x.1.2])) λy=>M.pure y
def XO(AB:z1'->M aK)(x:Int×z1'):M aK:=
 if decide (x.1=0)=true then M.bind (AB x.2) λy=>M.pure y else if decide (x.1=3)=true then M.pure [110,111,110,101] else M.pure [110,111]
def XP(amD:Int->M aK)(amE:List aK×aK->M aK)(x:z1'):M aK:=
 letI b:=Int.ofNat (List.length x);if decide (b=0)=true then M.pure [110,111,110,101] else M.bind (M.loop (λ(A:z1'×Int×Int×List aK×Unit)=>letI a:=A.2.2;if decide (a.1<A.2.1)=true then M.af (0<=a.1/\a.1<Int.ofNat (List.length A.1)) (M.bind (amD (List.getD A.1 (Int.toNat a.1) 0)) (λy=>M.af (b6 (Add.add (List.length a.2.1) (Add.add 0 1))) (M.pure (aa.next (A.1,A.2.1,IntKind.wrap .i64 (Add.add a.1 1),a.2.1++[y],()))))) else M.bind (M.pure (aa.next (a.2.1,()))) λr=>M.pure (aa.done r)) (x,b,0,[],())) (aa.bl (λ(A:List aK×Unit)=>M.bind (amE (A.1,[32])) λy=>M.pure y))
def XQ(Ox:H.aQ×Int->M ((Int×Int)×Int))(rh:(Int×Int)×Int->M aK)(x:z1'×aW×Unit):M (aK×aW×Unit):=
 letI a:=(x.2.1.2,List.getD x.1 (Int.toNat 0) 0);M.af True (M.af ((0:Int)<=0/\0<Int.ofNat (List.length x.1)) (M.af (Ox a).b8 (M.af (rh (M.val (Ox a) ((0,0),0))).b8 (M.pure (M.val (rh (M.val (Ox a) ((0,0),0))) [],x.2.1,())))))
def XR(Oy:H.aQ×Int->M ((Int×Int)×Int))(rh:(Int×Int)×Int->M aK)(x:z1'×aW×Unit):M (aK×aW×Unit):=
 letI a:=(x.2.1.2,List.getD x.1 (Int.toNat 0) 0);M.af True (M.af ((0:Int)<=0/\0<Int.ofNat (List.length x.1)) (M.af (Oy a).b8 (M.af (rh (M.val (Oy a) ((0,0),0))).b8 (M.pure (M.val (rh (M.val (Oy a) ((0,0),0))) [],x.2.1,())))))
def XS(Oz:H.aQ×Int->M ((Int×Int)×Int))(rh:(Int×Int)×Int->M aK)(x:z1'×aW×Unit):M (aK×aW×Unit):=
 letI a:=(x.2.1.2,List.getD x.1 (Int.toNat 0) 0);M.af True (M.af ((0:Int)<=0/\0<Int.ofNat (List.length x.1)) (M.af (Oz a).b8 (M.af (rh (M.val (Oz a) ((0,0),0))).b8 (M.pure (M.val (rh (M.val (Oz a) ((0,0),0))) [],x.2.1,())))))
def XT(oB:H.aQ×Int×Int->M (z1'×Int))(nM:Int×z1'->M aK)(AB:z1'->M aK)(x:z1'×aW×Unit):M (aK×aW×Unit):=
 letI b:=Int.ofNat (List.length x.1);letI a:=(x.2.1.2,List.getD x.1 (Int.toNat 0) 0,List.getD x.1 (Int.toNat 1) 0);M.af True (M.af ((0:Int)<=0/\0<b) (M.af ((0:Int)<=1/\1<b) (M.af (oB a).b8 (M.af ((!(decide ((M.val (oB a) ([],0)).2≠0)))=true->((!(decide ((M.val (oB a) ([],0)).2≠0)))=true/\True)/\((0:Int)<=0/\0<Int.ofNat (List.length (M.val (oB a) ([],0)).1))/\True) (if (decide ((M.val (oB a) ([],0)).2≠0)||decide (List.getD (M.val (oB a) ([],0)).1 (Int.toNat 0) (0:Int)>=0))=true then M.bind (nM ((M.val (oB a) ([],0)).2,(M.val (oB a) ([],0)).1)) λy=>M.pure (y,x.2.1,()) else if decide (Int.ofNat (List.length (M.val (oB a) ([],0)).1)=1)=true then M.pure ([115,104,111,112],x.2.1,()) else M.af ((0:Int)<=1/\1<=Int.ofNat (List.length (M.val (oB a) ([],0)).1)/\Int.ofNat (List.length (M.val (oB a) ([],0)).1)<=Int.ofNat (List.length (M.val (oB a) ([],0)).1)) (M.bind (AB (List.drop (Int.toNat 1) (List.take (Int.toNat (Int.ofNat (List.length (M.val (oB a) ([],0)).1))) (M.val (oB a) ([],0)).1))) (λy=>M.af (b6 (Add.add (Add.add (Add.add (Add.add (Add.add (Add.add 0 1) 1) 1) 1) 1) (List.length y))) (M.pure ([115,104,111,112,32]++y,x.2.1,())))))))))
def XU(DW:H.aQ×Int->M (z1'×z1'×Int))(nM:Int×z1'->M aK)(AB:z1'->M aK)(x:z1'×aW×Unit):M (aK×aW×Unit):=
 letI a:=(x.2.1.2,List.getD x.1 (Int.toNat 0) 0);M.af True (M.af ((0:Int)<=0/\0<Int.ofNat (List.length x.1)) (M.af (DW a).b8 (if decide ((M.val (DW a) ([],[],0)).2.2≠0)=true then M.bind (nM ((M.val (DW a) ([],[],0)).2.2,[])) λy=>M.pure (y,x.2.1,()) else M.bind (AB (M.val (DW a) ([],[],0)).1) λy=>M.af (b6 (Add.add (List.length y) (Add.add (Add.add (Add.add 0 1) 1) 1))) (M.bind (AB (M.val (DW a) ([],[],0)).2.1) (λbG=>M.af (b6 (Add.add (List.length (y++[32,47,32])) (List.length bG))) (M.pure (y++[32,47,32]++bG,x.2.1,())))))))
def XV(G5:bc×Int->M ((Int×Int)×Int))(ua:br×Unit->M (vC))(Dk:z2'×List (List (Int×z1'×Int×Int))×Int×z2'->M Int)(x:z1'×aW×Unit):M (aK×aW×Unit):=
 letI c:=List.getD x.1 (Int.toNat 0) 0;letI b:=Int.ofNat (List.length x.1);M.af True (M.bind (ua (x.2.1.1,())) (λy=>letI d:=y.2.2.2.2;letI a:=(y.1,y.2.1,y.2.2.1,d.1++[(c,List.getD x.1 (Int.toNat 1) 0,List.getD x.1 (Int.toNat 2) 0,List.getD x.1 (Int.toNat 3) 0)]);M.af True (M.af ((0:Int)<=0/\0<b) (M.af ((0:Int)<=1/\1<b) (M.af ((0:Int)<=2/\2<b) (M.af ((0:Int)<=3/\3<b) (M.af (b6 (Add.add (List.length d.1) (Add.add 0 1))) (M.af True (M.af True (M.bind (Dk a) (λbG=>if decide (bG≠0)=true then M.pure ([110,111],x.2.1,()) else M.af True (M.af ((0:Int)<=0/\0<b) (M.af (G5 (a,c)).b8 (if decide ((M.val (G5 (a,c)) ((0,0),0)).2≠0)=true then M.pure ([108,105,97,114],x.2.1,()) else M.af True (M.pure ([111,107],((a,d.2.1,d.2.2.1,d.2.2.2.1,d.2.2.2.2.1,y.2.2.2.1),x.2.1.2),()))))))))))))))))
def XW(vj:bc×Int×Int×Int->M (Int×Int))(nM:Int×z1'->M aK)(x:z1'×aW×Unit):M (aK×aW×Unit):=
 letI b:=Int.ofNat (List.length x.1);letI a:=(x.2.1.1.1,List.getD x.1 (Int.toNat 0) 0,List.getD x.1 (Int.toNat 1) 0,List.getD x.1 (Int.toNat 2) 0);M.af True (M.af ((0:Int)<=0/\0<b) (M.af ((0:Int)<=1/\1<b) (M.af ((0:Int)<=2/\2<b) (M.af (vj a).b8 (if decide ((M.val (vj a) (0,0)).2≠0)=true then M.bind (nM ((M.val (vj a) (0,0)).2,[])) λy=>M.pure (y,x.2.1,()) else M.af (0<=(M.val (vj a) (0,0)).1/\(M.val (vj a) (0,0)).1<Int.ofNat 4) (M.pure (List.getD [[],[115,117,114,101,108,121],[110,101,118,101,114],[112,101,114,104,97,112,115]] (Int.toNat (M.val (vj a) (0,0)).1) [],x.2.1,())))))))
def XX(ua:br×Unit->M (vC))(x0:br×aW×Unit->M (aK×aW×Unit))(x:z1'×aW×Unit):M (aK×aW×Unit):=
 letI c:=Int.ofNat (List.length x.1);letI a:=List.getD x.1 (Int.toNat 0) 0;M.af True (M.bind (ua (x.2.1.1,())) (λy=>letI d:=y.2.2.2.2.2;letI b:=Int.ofNat (List.length d.1);M.af ((0:Int)<=0/\0<c) (if decide (a>=b)=true then M.pure ([110,111],x.2.1,()) else M.af ((0:Int)<=0/\0<c) (M.af (0<=a/\a<b) (M.af ((0:Int)<=1/\1<c) (M.af (0<=a/\a<b) (M.bind (x0 (((y.1,y.2.1,y.2.2.1,y.2.2.2.2.1),List.set d.1 (Int.toNat a) (IntKind.wrap .i64 (Add.add (List.getD d.1 (Int.toNat a) 0) (List.getD x.1 (Int.toNat 1) 0))),d.2.1,d.2.2.1,d.2.2.2.1,y.2.2.2.1),x.2.1,())) (λy=>M.pure (y.1,y.2.1,())))))))))
def XY(Dp:br->M Int)(x:br×aW×Unit):M (aK×aW×Unit):=
 M.bind (Dp x.1) λy=>if decide (y≠0)=true then M.pure ([110,111],x.2.1,()) else M.af True (M.pure ([111,107],(x.1,x.2.1.2),()))
def XZ(ua:br×Unit->M (vC))(x0:br×aW×Unit->M (aK×aW×Unit))(x:z1'×aW×Unit):M (aK×aW×Unit):=
 letI a:=Int.ofNat (List.length x.1);M.af True (M.bind (ua (x.2.1.1,())) (λy=>letI b:=y.2.2.2.2.2;M.af ((0:Int)<=0/\0<a) (M.af ((0:Int)<=1/\1<a) (M.af ((0:Int)<=2/\2<a) (M.af (b6 (Add.add (List.length b.2.2.2.1) (Add.add 0 1))) (M.bind (x0 (((y.1,y.2.1,y.2.2.1,y.2.2.2.2.1),b.1,b.2.1,b.2.2.1,b.2.2.2.1++[(List.getD x.1 (Int.toNat 0) 0,List.getD x.1 (Int.toNat 1) 0,List.getD x.1 (Int.toNat 2) 0)],y.2.2.2.1),x.2.1,())) (λy=>M.pure (y.1,y.2.1,()))))))))
def X0(ua:br×Unit->M (vC))(x0:br×aW×Unit->M (aK×aW×Unit))(x:z1'×aW×Unit):M (aK×aW×Unit):=
 letI a:=Int.ofNat (List.length x.1);M.af True (M.bind (ua (x.2.1.1,())) (λy=>letI b:=y.2.2.2.2.2;M.af ((0:Int)<=0/\0<a) (M.af ((0:Int)<=1/\1<a) (M.af ((0:Int)<=2/\2<a) (M.af ((0:Int)<=3/\3<a) (M.af ((0:Int)<=4/\4<=a/\a<=a) (M.af (b6 (Add.add (List.length b.2.1) (Add.add 0 1))) (M.bind (x0 (((y.1,y.2.1,y.2.2.1,y.2.2.2.2.1),b.1,b.2.1++[(List.getD x.1 (Int.toNat 0) 0,List.getD x.1 (Int.toNat 1) 0,List.getD x.1 (Int.toNat 2) 0,List.getD x.1 (Int.toNat 3) 0,List.drop (Int.toNat 4) (List.take (Int.toNat a) x.1))],b.2.2.1,b.2.2.2.1,y.2.2.2.1),x.2.1,())) (λy=>M.pure (y.1,y.2.1,()))))))))))
def X1(ua:br×Unit->M (vC))(x0:br×aW×Unit->M (aK×aW×Unit))(x:z1'×aW×Unit):M (aK×aW×Unit):=
 letI a:=Int.ofNat (List.length x.1);M.af True (M.bind (ua (x.2.1.1,())) (λy=>letI b:=y.2.2.2.2.2;M.af ((0:Int)<=0/\0<a) (M.af ((0:Int)<=1/\1<a) (M.af ((0:Int)<=2/\2<a) (M.af ((0:Int)<=3/\3<a) (M.af ((0:Int)<=4/\4<a) (M.af ((0:Int)<=5/\5<=a/\a<=a) (M.af (b6 (Add.add (List.length b.2.2.1) (Add.add 0 1))) (M.bind (x0 (((y.1,y.2.1,y.2.2.1,y.2.2.2.2.1),b.1,b.2.1,b.2.2.1++[(List.drop (Int.toNat 5) (List.take (Int.toNat a) x.1),(List.getD x.1 (Int.toNat 0) 0,List.getD x.1 (Int.toNat 1) 0),List.getD x.1 (Int.toNat 2) 0,List.getD x.1 (Int.toNat 3) 0,List.getD x.1 (Int.toNat 4) 0)],b.2.2.2.1,y.2.2.2.1),x.2.1,())) (λy=>M.pure (y.1,y.2.1,())))))))))))
def X2(X3:List dq->M (List dq))(amF:Int×Int×List dq×Unit->M ((Nat×Nat)×List dq×Unit))(x:z1'×aW×Unit):M (aK×aW×Unit):=
 letI c:=x.2.1.1.2.2;letI b:=List.getD x.1 (Int.toNat 0) 0;letI a:=(0:Int)<=0/\0<Int.ofNat (List.length x.1);M.af a (M.af True (if decide (b>=Int.ofNat (List.length c.2.1))=true then M.pure ([110,111],x.2.1,()) else M.af True (M.af (X3 c.2.1).b8 (M.af a (M.af a (M.bind (amF (b,IntKind.wrap .i64 (Add.add b 1),M.val (X3 c.2.1) [],())) (λy=>M.af True (M.pure ([111,107],((x.2.1.1.1,x.2.1.1.2.1,c.1,List.drop y.1.1 (List.take y.1.2 y.2.1),c.2.2),x.2.1.2),())))))))))
def X4(OA:br×Int->M (z1'×Int))(nM:Int×z1'->M aK)(x:z1'×aW×Unit):M (aK×aW×Unit):=
 letI a:=(x.2.1.1,List.getD x.1 (Int.toNat 0) 0);M.af True (M.af ((0:Int)<=0/\0<Int.ofNat (List.length x.1)) (M.af (OA a).b8 (M.bind (nM ((M.val (OA a) ([],0)).2,(M.val (OA a) ([],0)).1)) (λy=>M.pure (y,x.2.1,())))))
def X5(amG:br×z1'->M (Int×Int))(amH:z1'×Unit->M (z1'×Unit))(nM:Int×z1'->M aK)(x:z1'×aW×Unit):M (aK×aW×Unit):=
 M.bind (amH (x.1,())) λy=>M.bind (M.loop (λ(A:Int×Int×z1'×aW×Unit)=>letI b:=A.2;letI a:=0<=b.1/\b.1<Int.ofNat (List.length b.2.1);if decide (b.1<A.1)=true then M.af a (M.af a (M.pure (aa.next (A.1,IntKind.wrap .i64 (Add.add b.1 1),List.set b.2.1 (Int.toNat b.1) (IntKind.wrap .i64 (List.getD b.2.1 (Int.toNat b.1) 0-1)),b.2.2.1,())))) else M.bind (M.pure (aa.next (b.2.1,b.2.2.1,()))) λr=>M.pure (aa.done r)) (Int.ofNat (List.length y.1),0,y.1,x.2.1,())) (aa.bl (λ(A:z1'×aW×Unit)=>M.af True (M.bind (amG (A.2.1.1,A.1)) (λy=>M.bind (nM (y.2,[y.1])) λy=>M.pure (y,A.2.1,())))))
def X6(amI:br->M (Int×Int))(nM:Int×z1'->M aK)(x:z1'×aW×Unit):M (aK×aW×Unit):=
 M.af True (M.bind (amI x.2.1.1) (λy=>M.bind (nM (y.2,[y.1])) λy=>M.pure (y,x.2.1,())))
def X7(amJ:br->M (Int×Int))(nM:Int×z1'->M aK)(x:z1'×aW×Unit):M (aK×aW×Unit):=
 M.af True (M.bind (amJ x.2.1.1) (λy=>M.bind (nM (y.2,[y.1])) λy=>M.pure (y,x.2.1,())))
def X8(amK:H.aQ×H.aQ->M Bool)(amL:bc×bc->M Bool)(vD:z1'×z1'->M Bool)(x:aW×aW):M Bool:=
 letI l:=x.2.1.2.2;letI k:=x.1.1.2.2;M.bind (amK (x.1.2,x.2.2)) λy=>M.bind (b3 (!(!y)) (amL (x.1.1.1,x.2.1.1)) false) λbG=>M.bind (b3 (!(!y||!bG)) (vD (x.1.1.2.1,x.2.1.2.1)) false) λds=>if (!y||!bG||!ds||decide (Int.ofNat (List.length k.1)≠Int.ofNat (List.length l.1))||decide (Int.ofNat (List.length k.2.1)≠Int.ofNat (List.length l.2.1))||decide (Int.ofNat (List.length k.2.2.1)≠Int.ofNat (List.length l.2.2.1))||decide (k.2.2.2≠l.2.2.2))=true then M.pure false else M.bind (M.loop (λ(A:Int×br×br×Unit)=>letI m:=A.2.2.1;letI j:=A.1<Int.ofNat (List.length A.2.1.2.2.1);letI e:=List.getD A.2.1.2.2.1 (Int.toNat A.1) (0,0,0,0,[]);letI d:=List.getD m.2.2.1 (Int.toNat A.1) (0,0,0,0,[]);letI a:=decide (e.1≠d.1)||decide (e.2.1≠d.2.1)||decide (e.2.2.1≠d.2.2.1)||decide (e.2.2.2.1≠d.2.2.2.1);if decide j=true then M.af (0<=A.1/\j) (M.af (0<=A.1/\A.1<Int.ofNat (List.length m.2.2.1)) (M.bind (b3 (!a) (vD (e.2.2.2.2,d.2.2.2.2)) false) (λy=>if (a||!y)=true then M.bind (M.bind (M.pure false) (λr=>M.pure (aa.done r))) λr=>M.pure (aa.done r) else M.pure (aa.next (IntKind.wrap .i64 (Add.add A.1 1),A.2.1,m,()))))) else M.bind (M.pure (aa.next (A.2.1,m,()))) λr=>M.pure (aa.done r)) (0,x.1.1,x.2.1,())) (aa.bl (λ(A:br×br×Unit)=>M.bind (M.loop (λ(A:Int×br×br×Unit)=>letI n:=A.2.2.1;letI i:=A.1<Int.ofNat (List.length A.2.1.2.2.2.1);letI c:=List.getD A.2.1.2.2.2.1 (Int.toNat A.1) ([],(0,0),0,0,0);letI b:=List.getD n.2.2.2.1 (Int.toNat A.1) ([],(0,0),0,0,0);if decide i=true then M.af (0<=A.1/\i) (M.af (0<=A.1/\A.1<Int.ofNat (List.length n.2.2.2.1)) (M.bind (vD (c.1,b.1)) (λy=>if (!y||!(decide (c.2.1.1=b.2.1.1)&&decide (c.2.1.2=b.2.1.2))||decide (c.2.2.1≠b.2.2.1)||decide (c.2.2.2.1≠b.2.2.2.1)||decide (c.2.2.2.2≠b.2.2.2.2))=true then M.bind (M.bind (M.pure false) (λr=>M.pure (aa.done r))) λr=>M.pure (aa.done r) else M.pure (aa.next (IntKind.wrap .i64 (Add.add A.1 1),A.2.1,n,()))))) else M.bind (M.pure (aa.next (A.2.1,n,()))) λr=>M.pure (aa.done r)) (0,A.1,A.2.1,())) (aa.bl (λ(A:br×br×Unit)=>M.bind (M.loop (λ(A:Int×br×br×Unit)=>letI h:=A.1<Int.ofNat (List.length A.2.1.2.2.2.2.1);letI g:=List.getD A.2.1.2.2.2.2.1 (Int.toNat A.1) (0,0,0);letI f:=List.getD A.2.2.1.2.2.2.2.1 (Int.toNat A.1) (0,0,0);if decide h=true then M.af (0<=A.1/\h) (M.af (0<=A.1/\A.1<Int.ofNat (List.length A.2.2.1.2.2.2.2.1)) (if (!(decide (g.1=f.1)&&(decide (g.2.1=f.2.1)&&decide (g.2.2=f.2.2))))=true then M.bind (M.bind (M.pure false) (λr=>M.pure (aa.done r))) λr=>M.pure (aa.done r) else M.pure (aa.next (IntKind.wrap .i64 (Add.add A.1 1),A.2.1,A.2.2.1,())))) else M.bind (M.pure (aa.next ())) λr=>M.pure (aa.done r)) (0,A.1,A.2.1,())) (aa.bl (λ(A:Unit)=>M.pure true))))))
def X9(vD:z1'×z1'->M Bool)(x:H.aQ×H.aQ):M Bool:=
 letI e:=x.2.2.2.2.2.2;letI d:=x.1.2.2.2.2.2;letI c:=decide (Int.ofNat (List.length x.1.1)≠Int.ofNat (List.length x.2.1))||decide (Int.ofNat (List.length x.1.2.1)≠Int.ofNat (List.length x.2.2.1));M.bind (b3 (!c) (vD (x.1.2.2.1,x.2.2.2.1)) false) λy=>if (c||!y||decide (Int.ofNat (List.length x.1.2.2.2.1)≠Int.ofNat (List.length x.2.2.2.2.1))||!(decide (x.1.2.2.2.2.1=x.2.2.2.2.2.1)&&(decide (d.1=e.1)&&(decide (d.2.1=e.2.1)&&(decide (d.2.2.1=e.2.2.1)&&(decide (d.2.2.2.1=e.2.2.2.1)&&(decide (d.2.2.2.2.1=e.2.2.2.2.1)&&decide (d.2.2.2.2.2=e.2.2.2.2.2))))))))=true then M.pure false else M.bind (M.loop (λ(A:Int×H.aQ×H.aQ×Unit)=>letI m:=A.2.2.1;letI l:=A.1<Int.ofNat (List.length A.2.1.1);letI j:=List.getD A.2.1.1 (Int.toNat A.1) (0,0);letI h:=List.getD m.1 (Int.toNat A.1) (0,0);if decide l=true then M.af (0<=A.1/\l) (M.af (0<=A.1/\A.1<Int.ofNat (List.length m.1)) (if (!(decide (j.1=h.1)&&decide (j.2=h.2)))=true then M.bind (M.bind (M.pure false) (λr=>M.pure (aa.done r))) λr=>M.pure (aa.done r) else M.pure (aa.next (IntKind.wrap .i64 (Add.add A.1 1),A.2.1,m,())))) else M.bind (M.pure (aa.next (A.2.1,m,()))) λr=>M.pure (aa.done r)) (0,x.1,x.2,())) (aa.bl (λ(A:H.aQ×H.aQ×Unit)=>M.bind (M.loop (λ(A:Int×H.aQ×H.aQ×Unit)=>letI n:=A.2.2.1;letI k:=A.1<Int.ofNat (List.length A.2.1.2.1);letI b:=List.getD A.2.1.2.1 (Int.toNat A.1) (0,0,0,0,0,0);letI a:=List.getD n.2.1 (Int.toNat A.1) (0,0,0,0,0,0);if decide k=true then M.af (0<=A.1/\k) (M.af (0<=A.1/\A.1<Int.ofNat (List.length n.2.1)) (if (!(decide (b.1=a.1)&&(decide (b.2.1=a.2.1)&&(decide (b.2.2.1=a.2.2.1)&&(decide (b.2.2.2.1=a.2.2.2.1)&&(decide (b.2.2.2.2.1=a.2.2.2.2.1)&&decide (b.2.2.2.2.2=a.2.2.2.2.2)))))))=true then M.bind (M.bind (M.pure false) (λr=>M.pure (aa.done r))) λr=>M.pure (aa.done r) else M.pure (aa.next (IntKind.wrap .i64 (Add.add A.1 1),A.2.1,n,())))) else M.bind (M.pure (aa.next (A.2.1,n,()))) λr=>M.pure (aa.done r)) (0,A.1,A.2.1,())) (aa.bl (λ(A:H.aQ×H.aQ×Unit)=>M.bind (M.loop (λ(A:Int×H.aQ×H.aQ×Unit)=>letI i:=A.1<Int.ofNat (List.length A.2.1.2.2.2.1);letI g:=List.getD A.2.1.2.2.2.1 (Int.toNat A.1) (0,0);letI f:=List.getD A.2.2.1.2.2.2.1 (Int.toNat A.1) (0,0);if decide i=true then M.af (0<=A.1/\i) (M.af (0<=A.1/\A.1<Int.ofNat (List.length A.2.2.1.2.2.2.1)) (if (!(decide (g.1=f.1)&&decide (g.2=f.2)))=true then M.bind (M.bind (M.pure false) (λr=>M.pure (aa.done r))) λr=>M.pure (aa.done r) else M.pure (aa.next (IntKind.wrap .i64 (Add.add A.1 1),A.2.1,A.2.2.1,())))) else M.bind (M.pure (aa.next ())) λr=>M.pure (aa.done r)) (0,A.1,A.2.1,())) (aa.bl (λ(A:Unit)=>M.pure true))))))
def X_(x:z1'×z1'):M Bool:=
 if decide (Int.ofNat (List.length x.1)≠Int.ofNat (List.length x.2))=true then M.pure false else M.bind (M.loop (λ(A:z1'×z1'×Int×Unit)=>letI a:=A.2.2.1;letI b:=a<Int.ofNat (List.length A.1);if decide b=true then M.af (0<=a/\b) (M.af (0<=a/\a<Int.ofNat (List.length A.2.1)) (if decide (List.getD A.1 (Int.toNat a) 0≠List.getD A.2.1 (Int.toNat a) 0)=true then M.bind (M.bind (M.pure false) (λr=>M.pure (aa.done r))) λr=>M.pure (aa.done r) else M.pure (aa.next (A.1,A.2.1,IntKind.wrap .i64 (Add.add a 1),())))) else M.bind (M.pure (aa.next ())) λr=>M.pure (aa.done r)) (x.1,x.2,0,())) (aa.bl (λ(A:Unit)=>M.pure true))
def X'(vD:z1'×z1'->M Bool)(x:bc×bc):M Bool:=
 if (decide (Int.ofNat (List.length x.1.1)≠Int.ofNat (List.length x.2.1))||decide (Int.ofNat (List.length x.1.2.1)≠Int.ofNat (List.length x.2.2.1))||decide (x.1.2.2.1≠x.2.2.2.1)||decide (Int.ofNat (List.length x.1.2.2.2)≠Int.ofNat (List.length x.2.2.2.2)))=true then M.pure false else M.bind (M.loop (λ(A:Int×bc×bc×Unit)=>letI y:=A.2.2.1;letI t:=A.1<Int.ofNat (List.length A.2.1.1);letI j:=List.getD A.2.1.1 (Int.toNat A.1) (0,0,0,0);letI i:=List.getD y.1 (Int.toNat A.1) (0,0,0,0);if decide t=true then M.af (0<=A.1/\t) (M.af (0<=A.1/\A.1<Int.ofNat (List.length y.1)) (if (!(decide (j.1=i.1)&&(decide (j.2.1=i.2.1)&&(decide (j.2.2.1=i.2.2.1)&&decide (j.2.2.2=i.2.2.2)))))=true then M.bind (M.bind (M.pure false) (λr=>M.pure (aa.done r))) λr=>M.pure (aa.done r) else M.pure (aa.next (IntKind.wrap .i64 (Add.add A.1 1),A.2.1,y,())))) else M.bind (M.pure (aa.next (A.2.1,y,()))) λr=>M.pure (aa.done r)) (0,x.1,x.2,())) (aa.bl (λ(A:bc×bc×Unit)=>M.bind (M.loop (λ(A:Int×bc×bc×Unit)=>letI z:=A.2.2.1;letI q:=A.1<Int.ofNat (List.length A.2.1.2.2.2);letI h:=List.getD A.2.1.2.2.2 (Int.toNat A.1) (0,0,0,0);letI f:=List.getD z.2.2.2 (Int.toNat A.1) (0,0,0,0);if decide q=true then M.af (0<=A.1/\q) (M.af (0<=A.1/\A.1<Int.ofNat (List.length z.2.2.2)) (if (!(decide (h.1=f.1)&&(decide (h.2.1=f.2.1)&&(decide (h.2.2.1=f.2.2.1)&&decide (h.2.2.2=f.2.2.2)))))=true then M.bind (M.bind (M.pure false) (λr=>M.pure (aa.done r))) λr=>M.pure (aa.done r) else M.pure (aa.next (IntKind.wrap .i64 (Add.add A.1 1),A.2.1,z,())))) else M.bind (M.pure (aa.next (A.2.1,z,()))) λr=>M.pure (aa.done r)) (0,A.1,A.2.1,())) (aa.bl (λ(A:bc×bc×Unit)=>M.bind (M.loop (λ(A:Int×bc×bc×Unit)=>letI s:=A.1<Int.ofNat (List.length A.2.1.2.1);letI p:=Int.toNat A.1;letI v:=List.getD A.2.1.2.1 p [];letI u:=List.getD A.2.2.1.2.1 p [];if decide s=true then M.bind (M.af (0<=A.1/\s) (M.af (0<=A.1/\A.1<Int.ofNat (List.length A.2.2.1.2.1)) (if decide (Int.ofNat (List.length v)≠Int.ofNat (List.length u))=true then M.bind (M.bind (M.bind (M.pure false) (λr=>M.pure (aa.done r))) (λr=>M.pure (aa.done r))) λr=>M.pure (aa.done r) else M.loop (λ(A:Int×List (Int×z1'×Int×Int)×List (Int×z1'×Int×Int)×Int×bc×bc×Unit)=>letI n:=A.2.2.2;letI l:=0<=n.1/\n.1<Int.ofNat (List.length A.2.2.1);letI k:=n.1<Int.ofNat (List.length A.2.1);letI w:=0<=n.1/\k;letI d:=List.getD A.2.1 (Int.toNat n.1) (0,[],0,0);letI c:=List.getD A.2.2.1 (Int.toNat n.1) (0,[],0,0);letI b:=decide (d.1≠c.1);letI g:=(!b)=true;letI o:=g->g/\True/\True;letI a:=b||!(decide (d.2.2.1=c.2.2.1)&&decide (d.2.2.2=c.2.2.2));letI e:=(!a)=true;letI m:=e->e/\True/\True;if decide k=true then M.af w (M.af l (M.af (g->(g/\g)/\w/\True) (M.af o (M.af o (M.af (g->(g/\g)/\l/\True) (M.af o (M.af o (M.af (g->(g/\g)/\True/\True) (M.af (True/\(b=false->g)) (M.af (e->(e/\e)/\w/\True) (M.af m (M.af m (M.af (e->(e/\e)/\l/\True) (M.af m (M.af m (M.af (e->(e/\e/\True)/\(vD (d.2.1,c.2.1)).b8/\True) (M.af m (M.af (True/\(a=false->e)) (if (a||!(M.val (vD (d.2.1,c.2.1)) false))=true then M.bind (M.bind (M.bind (M.bind (M.pure false) (λr=>M.pure (aa.done r))) (λr=>M.pure (aa.done r))) (λr=>M.pure (aa.done r))) λr=>M.pure (aa.done r) else M.pure (aa.next (A.1,A.2.1,A.2.2.1,IntKind.wrap .i64 (Add.add n.1 1),n.2.1,n.2.2.1,()))))))))))))))))))))) else M.bind (M.pure (aa.next (A.1,n.2.1,n.2.2.1,()))) λr=>M.pure (aa.done r)) (A.1,v,u,0,A.2.1,A.2.2.1,())))) (aa.bl (λ(A:Int×bc×bc×Unit)=>M.pure (aa.next (IntKind.wrap .i64 (Add.add A.1 1),A.2.1,A.2.2.1,())))) else M.bind (M.pure (aa.next ())) λr=>M.pure (aa.done r)) (0,A.1,A.2.1,())) (aa.bl (λ(A:Unit)=>M.pure true))))))
def Ya(amM:aW×List aK->M Bool)(OB:aW->M Int)(x:aW×List aK×Int):M Bool:=
 M.bind (amM (x.1,x.2.1)) λy=>M.bind (b3 (!y) (OB x.1) 0) λbG=>M.pure (!y&&decide (bG=0)&&decide (Int.ofNat (List.length x.2.1)<=x.2.2))
def Yb(OB:aW->M Int)(amN:br->M Bool)(amO:H.aQ->M Bool)(DX:aK->M (aK×z1'×Bool))(x:aW×List aK):M Bool:=
 M.bind (amN x.1.1) λy=>M.bind (b3 (!y) (amO x.1.2) false) λbG=>if (y||bG||decide (Int.ofNat (List.length x.2) > 60))=true then M.pure true else M.bind (M.loop (λ(A:List aK×Int×Int×Int×Int×Int×aW×Unit)=>letI h:=A.2.2.2;letI b:=h.2.2;letI e:=b.1<Int.ofNat (List.length b.2.1.1.2.2.1);if decide e=true then M.af (0<=b.1/\e) (M.pure (aa.next (A.1,A.2.1,A.2.2.1,h.1,IntKind.wrap .i64 (Add.add h.2.1 (Int.ofNat (List.length (List.getD b.2.1.1.2.2.1 (Int.toNat b.1) (0,0,0,0,[])).2.2.2.2))),IntKind.wrap .i64 (Add.add b.1 1),b.2.1,()))) else M.bind (M.pure (aa.next (A.1,A.2.1,A.2.2.1,h.1,h.2.1,b.2.1,()))) λr=>M.pure (aa.done r)) (x.2,Int.ofNat (List.length x.1.1.2.2.2.1),Int.ofNat (List.length x.1.1.2.2.1),Int.ofNat (List.length x.1.1.2.2.2.2.1),0,0,x.1,())) (aa.bl (λ(A:List aK×Int×Int×Int×Int×aW×Unit)=>M.bind (M.loop (λ(A:List aK×Int×Int×Int×Int×Int×aW×Unit)=>letI j:=A.2.1;letI d:=A.2.2;letI a:=d.2.2;letI i:=a.2.1;letI g:=a.2.2.1;letI f:=List.getD A.1 (Int.toNat i) [];letI c:=i<Int.ofNat (List.length A.1);if decide c=true then M.bind (M.af (0<=i/\c) (if decide (Int.ofNat (List.length f) > 80)=true then M.bind (M.bind (M.bind (M.pure true) (λr=>M.pure (aa.done r))) (λr=>M.pure (aa.done r))) λr=>M.pure (aa.done r) else M.af (0<=i/\c) (M.bind (DX f) (λy=>if (!y.2.2)=true then M.pure (aa.next (A.1,j,d.1,d.2.1,a.1,i,g,())) else if decide (y.1=[119,105,115,104])=true then M.pure (aa.next (A.1,IntKind.wrap .i64 (Add.add j 1),d.1,d.2.1,a.1,i,g,())) else if decide (y.1=[112,105,101,99,101])=true then M.pure (aa.next (A.1,j,IntKind.wrap .i64 (Add.add d.1 1),d.2.1,IntKind.wrap .i64 (Add.add a.1 (IntKind.wrap .i64 (Int.ofNat (List.length y.2.1)-4))),i,g,())) else if decide (y.1=[99,111,109,101,115])=true then M.pure (aa.next (A.1,j,d.1,IntKind.wrap .i64 (Add.add d.2.1 1),a.1,i,g,())) else M.pure (aa.next (A.1,j,d.1,d.2.1,a.1,i,g,())))))) (aa.bl (λ(A:List aK×Int×Int×Int×Int×Int×aW×Unit)=>letI k:=A.2.2.2;M.pure (aa.next (A.1,A.2.1,A.2.2.1,k.1,k.2.1,IntKind.wrap .i64 (Add.add k.2.2.1 1),k.2.2.2.1,())))) else M.bind (M.pure (aa.next (j,d.1,d.2.1,a.1,g,()))) λr=>M.pure (aa.done r)) (A.1,A.2.1,A.2.2.1,A.2.2.2.1,A.2.2.2.2.1,0,A.2.2.2.2.2.1,())) (aa.bl (λ(A:Int×Int×Int×Int×aW×Unit)=>M.bind (OB A.2.2.2.2.1) λy=>M.pure (decide (y=0)&&(decide (A.1 > 3)||decide (A.2.1 > 4)||decide (A.2.2.1 > 3)||decide (A.2.2.2.1 > 4)))))))
def Yc(amP:aK->M (List aK))(amQ:aK->M Int)(amR:Unit->M (List aK×z1'×z1'))(x:aK):M (aK×z1'×Bool):=
 M.bind (amP x) λy=>M.bind (M.loop (λ(A:List aK×Int×z1'×Unit)=>letI j:=A.2.1<Int.ofNat (List.length A.1);if decide j=true then M.af (0<=A.2.1/\j) (M.bind (amQ (List.getD A.1 (Int.toNat A.2.1) [])) (λy=>if decide (y<0)=true then M.bind (M.bind (M.pure ([],[],false)) (λr=>M.pure (aa.done r))) λr=>M.pure (aa.done r) else M.af (b6 (Add.add (List.length A.2.2.1) (Add.add 0 1))) (M.pure (aa.next (A.1,IntKind.wrap .i64 (Add.add A.2.1 1),A.2.2.1++[y],()))))) else M.bind (M.pure (aa.next (A.1,A.2.2.1,()))) λr=>M.pure (aa.done r)) (y,1,[],())) (aa.bl (λ(A:List aK×z1'×Unit)=>M.bind (amR ()) λy=>M.bind (M.loop (λ(A:List aK×List aK×z1'×z1'×Int×z1'×Unit)=>letI l:=List.getD A.1 (Int.toNat 0) [];letI h:=(0:Int)<=0/\0<Int.ofNat (List.length A.1);letI c:=A.2.2.2;letI m:=c.2.1;letI k:=Int.ofNat (List.length c.2.2.1);letI i:=m<Int.ofNat (List.length A.2.1);letI g:=Int.toNat m;letI f:=(0<=m/\m<Int.ofNat (List.length c.1))/\True;letI d:=decide (List.getD c.1 g (0:Int)<0);letI a:=decide (k>=List.getD A.2.2.1 g 0);letI e:=a=true;letI b:=(a&&!d)=true;letI n:=b->b/\True/\True;if decide i=true then M.af (0<=m/\i) (M.af h (if decide (List.getD A.2.1 g []=l)=true then M.af h (M.af (0<=m/\m<Int.ofNat (List.length A.2.2.1)) (M.af (e->(e/\e)/\f) (M.af (e->e/\True/\True) (M.af (e->(e/\True)/\True/\True) (M.af (e->True/\True/\e) (M.af n (M.af (b->(b/\b)/\f) (M.af n (M.af (b->(b/\b)/\True/\True) (M.af (e->(e/\(d=false->b))/\True/\True) (M.af (True/\(e->e)) (M.bind (M.bind (M.pure (l,c.2.2.1,a&&(d||decide (k<=List.getD c.1 g 0)))) (λr=>M.pure (aa.done r))) (λr=>M.pure (aa.done r)))))))))))))) else M.pure (aa.next (A.1,A.2.1,A.2.2.1,c.1,IntKind.wrap .i64 (Add.add m 1),c.2.2.1,())))) else M.bind (M.pure (aa.next ())) λr=>M.pure (aa.done r)) (A.1,y.1,y.2.1,y.2.2,0,A.2.1,())) (aa.bl (λ(A:Unit)=>M.pure ([],[],false)))))
def Yd(x:aK):M (List aK):=
 M.bind (M.loop (λ(A:aK×Int×List aK×Unit)=>letI g:=A.2.1;letI f:=A.2.2.1;letI e:=Int.ofNat (List.length A.1);letI c:=Int.ofNat (List.length f);letI b:=IntKind.wrap .i64 (Add.add g 1);letI d:=List.drop (Int.toNat g) (List.take (Int.toNat b) A.1);letI a:=IntKind.wrap .i64 (c-1);letI h:=List.getD f (Int.toNat a) [];if decide (g<e)=true then M.bind (M.af (0<=g/\g<e) (if decide (Int.ofNat (List.getD A.1 (Int.toNat g) 0).1.1.1=32)=true then M.af (b6 (Add.add (List.length f) (Add.add 0 1))) (M.pure (aa.next (A.1,g,f++[[]],()))) else M.af (0<=a/\a<c) (M.af (0<=g/\g<=b/\b<=e) (M.af (b6 (Add.add (List.length h) (List.length d))) (M.af (0<=a/\a<c) (M.pure (aa.next (A.1,g,List.set f (Int.toNat a) (h++d),())))))))) (aa.bl (λ(A:aK×Int×List aK×Unit)=>M.pure (aa.next (A.1,IntKind.wrap .i64 (Add.add A.2.1 1),A.2.2.1,())))) else M.bind (M.pure (aa.next (f,()))) λr=>M.pure (aa.done r)) (x,0,[[]],())) (aa.bl (λ(A:List aK×Unit)=>M.pure A.1))
def Ye(x:aK):M Int:=
 letI b:=Int.ofNat (List.length x);letI g:=decide (b > 1);letI d:=decide (b=0)||decide (b > 6);M.af ((!d&&g)=true->((!d&&g)=true/\True)/\((0:Int)<=0/\0<b)/\True) (if (d||g&&decide (Int.ofNat (List.getD x (Int.toNat 0) 0).1.1.1=48))=true then M.pure (-1) else M.bind (M.loop (λ(A:aK×Int×Int×Unit)=>letI h:=A.2.2.1;letI c:=h<Int.ofNat (List.length A.1);letI f:=0<=h/\c;letI a:=Int.ofNat (List.getD A.1 (Int.toNat h) 0).1.1.1;letI e:=(!(decide (a<48)))=true;if decide c=true then M.af f (M.af (e->(e/\e)/\f/\True) (if (decide (a<48)||decide (a > 57))=true then M.bind (M.bind (M.pure (-1)) (λr=>M.pure (aa.done r))) λr=>M.pure (aa.done r) else M.af f (M.pure (aa.next (A.1,IntKind.wrap .i64 (Add.add (IntKind.wrap .i64 (10*A.2.1)) (IntKind.wrap .i64 (IntKind.wrap .u8 (a-48)))),IntKind.wrap .i64 (Add.add h 1),()))))) else M.bind (M.pure (aa.next (A.2.1,()))) λr=>M.pure (aa.done r)) (x,0,0,())) (aa.bl (λ(A:Int×Unit)=>M.pure A.1)))
def amS(x:Unit):M (List aK×z1'×z1'):=
 M.pure ([[108,101,110,100],[98,97,99,107],[118,111,105,100],[108,97,115,116,115],[102,101,101],[111,119,101,115],[104,101,108,100],[119,104,101,114,101],[109,105,115,115,105,110,103],[116,114,105,97,108],[102,105,116,115],[115,116,111,99,107],[99,111,109,101,115],[112,105,101,99,101],[119,105,115,104],[100,114,111,112],[99,97,110],[116,97,107,101,115],[109,111,115,116],[101,120,116,114,97]],[5,4,1,1,1,1,1,2,1,4,3,2,3,4,5,1,1,0,0,0],[5,4,1,1,1,1,1,2,1,4,3,2,3,-1,-1,1,1,-1,0,0])
def Yf(HI:aW×List aK->M (List aK×aW×Int))(amT:List aK×List aK->M Bool)(amU:Unit->M aW)(x:Unit):M Bool:=
 M.bind (amU ()) λy=>M.bind (HI (y,[[108,101,110,100,32,49,32,48,32,49,48,48,32,51,32,55],[98,97,99,107,32,50,32,48,32,49,55,49,32,51],[102,101,101,32,49],[119,104,101,114,101,32,51,32,49,55,49],[116,114,105,97,108,32,49,32,48,32,48,32,48],[115,116,111,99,107,32,48,32,49],[101,120,116,114,97],[100,114,111,112,32,51],[101,120,116,114,97]])) λy=>M.bind (b3 (decide (y.2.2=0)) (amT (y.1,[[111,107],[111,107],[51,48,48,32,51,48,48],[115,104,111,112],[108,105,97,114],[111,107],[49],[111,107],[48]])) false) λbG=>M.pure (decide (y.2.2=0)&&bG&&decide (Int.ofNat (List.length y.2.1.2.2.1)=2)&&decide (Int.ofNat (List.length y.2.1.1.2.2.2.1)=3))
def Yg(x:List aK×List aK):M Bool:=
 if decide (Int.ofNat (List.length x.1)≠Int.ofNat (List.length x.2))=true then M.pure false else M.bind (M.loop (λ(A:List aK×List aK×Int×Unit)=>letI a:=A.2.2.1;letI b:=a<Int.ofNat (List.length A.1);if decide b=true then M.af (0<=a/\b) (M.af (0<=a/\a<Int.ofNat (List.length A.2.1)) (if decide (List.getD A.1 (Int.toNat a) []≠List.getD A.2.1 (Int.toNat a) [])=true then M.bind (M.bind (M.pure false) (λr=>M.pure (aa.done r))) λr=>M.pure (aa.done r) else M.pure (aa.next (A.1,A.2.1,IntKind.wrap .i64 (Add.add a 1),())))) else M.bind (M.pure (aa.next ())) λr=>M.pure (aa.done r)) (x.1,x.2,0,())) (aa.bl (λ(A:Unit)=>M.pure true))
def Yh(amV:aK->M aK)(DX:aK->M (aK×z1'×Bool))(x:aK):M Bool:=
 M.bind (DX x) λy=>letI i:=y.2.2;M.bind (amV x) λbG=>letI h:=decide (bG=[98,97,99,107]);letI g:=decide (bG=[119,105,115,104]);letI f:=decide (bG=[118,111,105,100]);letI e:=decide (bG=[108,101,110,100]);letI d:=decide (bG=[112,105,101,99,101]);letI c:=decide (bG=[99,111,109,101,115]);letI b:=decide (bG=[115,116,111,99,107]);letI a:=decide (bG=[116,114,105,97,108]);M.bind (if e=true then M.pure (aa.next (i,e,())) else if h=true then M.pure (aa.next (i,h,())) else if f=true then M.pure (aa.next (i,f,())) else if a=true then M.pure (aa.next (i,a,())) else if b=true then M.pure (aa.next (i,b,())) else if c=true then M.pure (aa.next (i,c,())) else if d=true then M.pure (aa.next (i,d,())) else if g=true then M.pure (aa.next (i,g,())) else M.pure (aa.next (i,decide (bG=[100,114,111,112]),()))) (aa.bl (λ(A:Bool×Bool×Unit)=>if A.2.1=true then M.pure (!A.1) else M.pure true))
def Yi(DX:aK->M (aK×z1'×Bool))(x:aK):M aK:=
 M.bind (DX x) λy=>M.pure y.1
def OD(HI:aW×List aK->M (List aK×aW×Int))(amW:aW×aW->M Bool)(amX:aW×List aK×Int->M Bool)(Yj:Unit->M Bool)(amY:aK->M Bool)(x:aW×List aK):M Bool:=
 M.bind (amX (x.1,x.2,40)) λy=>if (!y)=true then M.bind (Yj ()) λy=>M.pure y else M.bind (HI x) λy=>if (decide (y.2.2≠0)||decide (Int.ofNat (List.length y.1)≠Int.ofNat (List.length x.2)))=true then M.pure false else M.bind (M.loop (λ(A:List aK×List aK×Int×aW×aW×List aK×Unit)=>letI b:=A.2.2;letI f:=b.2.2.2.1;letI e:=List.getD A.1 (Int.toNat b.1) [];letI c:=b.1<Int.ofNat (List.length A.1);if decide c=true then M.bind (M.af (0<=b.1/\b.1<Int.ofNat (List.length A.2.1)) (if decide (List.getD A.2.1 (Int.toNat b.1) []=[111,107])=true then M.af (0<=b.1/\c) (M.bind (amY e) (λy=>if y=true then M.bind (M.bind (M.bind (M.pure false) (λr=>M.pure (aa.done r))) (λr=>M.pure (aa.done r))) λr=>M.pure (aa.done r) else M.af (0<=b.1/\c) (M.af (b6 (Add.add (List.length f) (Add.add 0 1))) (M.pure (aa.next (A.1,A.2.1,b.1,b.2.1,b.2.2.1,f++[e],())))))) else M.pure (aa.next (A.1,A.2.1,b.1,b.2.1,b.2.2.1,f,())))) (aa.bl (λ(A:List aK×List aK×Int×aW×aW×List aK×Unit)=>M.pure (aa.next (A.1,A.2.1,IntKind.wrap .i64 (Add.add A.2.2.1 1),A.2.2.2.1,A.2.2.2.2.1,A.2.2.2.2.2.1,())))) else M.bind (M.pure (aa.next (b.2.1,b.2.2.1,f,()))) λr=>M.pure (aa.done r)) (x.2,y.1,0,x.1,y.2.1,[],())) (aa.bl (λ(A:aW×aW×List aK×Unit)=>M.bind (HI (A.1,A.2.2.1)) λy=>letI a:=decide (y.2.2≠0)||decide (Int.ofNat (List.length y.1)≠Int.ofNat (List.length A.2.2.1));M.bind (b3 (!a) (amW (A.2.1,y.2.1)) false) λbG=>if (a||!bG)=true then M.pure false else M.bind (M.loop (λ(A:List aK×Int×Unit)=>letI d:=A.2.1<Int.ofNat (List.length A.1);if decide d=true then M.af (0<=A.2.1/\d) (if decide (List.getD A.1 (Int.toNat A.2.1) []≠[111,107])=true then M.bind (M.bind (M.pure false) (λr=>M.pure (aa.done r))) λr=>M.pure (aa.done r) else M.pure (aa.next (A.1,IntKind.wrap .i64 (Add.add A.2.1 1),()))) else M.bind (M.pure (aa.next ())) λr=>M.pure (aa.done r)) (y.1,0,())) (aa.bl (λ(A:Unit)=>M.bind (Yj ()) λy=>M.pure y))))
def HJ{fY:Type}(c0:z2'->M (z2'))(c1:List (List (Int×z1'×Int×Int))->M (List (List (Int×z1'×Int×Int))))(c2:z2'->M (z2'))(c3:List (Int×z1'×Int×Int)×Unit->M (List (Int×z1'×Int×Int)×Unit))(c4:z1'->M (z1'))(c5:List da->M (List da))(lp:List dq->M (List dq))(n1:z3'->M (z3'))(x:br)(fin:br->M fY):M fY:=
 M.af True (M.af (c0 x.1.1).b8 (M.af True (M.af (c1 x.1.2.1).b8 (M.af True (M.af (c2 x.1.2.2.2).b8 (M.af True (M.af True (M.af True (M.bind (M.af True (M.loop (λ(A:Int×Int×Int×z1'×List da×List dq×z3'×Int×Int×Int×z2'×List (List (Int×z1'×Int×Int))×z2'×Unit)=>letI g1:=A.2;letI s:=g1.2.2.2;letI h:=Int.toNat g1.1;letI f:=s.2.2.2;letI v:=f.2.2.2.2;if decide (g1.1<A.1)=true then M.bind (M.af True (M.af (0<=g1.1/\g1.1<Int.ofNat (List.length v.1)) (M.af True (M.af (h=h) (M.bind (c3 (List.getD v.1 h [],())) (λy=>M.af True (M.af (h=h) (M.af True (M.af (h=h) (M.loop (λ(A:Nat×Int×Int×Int×Int×Int×z1'×List da×List dq×z3'×Int×Int×Int×z2'×(List (List (Int×z1'×Int×Int))×Nat)×z2'×List (Int×z1'×Int×Int)×Unit)=>letI g:=A.2.2.2.2;letI z:=g.2.2.2;letI a:=z.2.2.2;letI k:=a.2.2.2.2;letI u:=0<=g.1/\g.1<Int.ofNat (List.length k.2.2.1);letI e:=List.getD k.2.2.1 (Int.toNat g.1) (0,[],0,0);if decide (g.1<A.2.2.2.1)=true then M.af True (M.af (A.1=k.1.2) (M.af True (M.af (A.1=k.1.2) (M.af u (M.af (c4 e.2.1).b8 (M.af u (M.pure (aa.next (A.1,A.2.1,A.2.2.1,A.2.2.2.1,IntKind.wrap .i64 (Add.add g.1 1),g.2.1,g.2.2.1,z.1,z.2.1,z.2.2.1,a.1,a.2.1,a.2.2.1,a.2.2.2.1,k.1,k.2.1,List.set k.2.2.1 (Int.toNat g.1) (e.1,M.val (c4 e.2.1) [],e.2.2),()))))))))) else M.bind (M.pure (aa.next (A.2.1,A.2.2.1,g.2.1,g.2.2.1,z.1,z.2.1,z.2.2.1,a.1,a.2.1,a.2.2.1,a.2.2.2.1,k.1,k.2.1,k.2.2.1,()))) λr=>M.pure (aa.done r)) (h,A.1,g1.1,Int.ofNat (List.length y.1),0,g1.2.1,g1.2.2.1,s.1,s.2.1,s.2.2.1,f.1,f.2.1,f.2.2.1,f.2.2.2.1,(v.1,h),v.2.1,y.1,()))))))))))) (aa.bl (λ(A:Int×Int×Int×z1'×List da×List dq×z3'×Int×Int×Int×z2'×(List (List (Int×z1'×Int×Int))×Nat)×z2'×List (Int×z1'×Int×Int)×Unit)=>letI dd:=A.2.2.2.2;letI j:=dd.2.2.2;letI c1:=j.2.2.2.2;M.pure (aa.next (A.1,IntKind.wrap .i64 (Add.add A.2.1 1),A.2.2.1,A.2.2.2.1,dd.1,dd.2.1,dd.2.2.1,j.1,j.2.1,j.2.2.1,j.2.2.2.1,List.set c1.1.1 c1.1.2 c1.2.2.1,c1.2.1,())))) else M.bind (M.pure (aa.next (g1.2.1,g1.2.2.1,s.1,s.2.1,s.2.2.1,f.1,f.2.1,f.2.2.1,f.2.2.2.1,v.1,v.2.1,()))) λr=>M.pure (aa.done r)) (Int.ofNat (List.length (M.val (c1 x.1.2.1) [])),0,x.1.2.2.1,x.2.1,x.2.2.1,x.2.2.2.1,x.2.2.2.2.1,x.2.2.2.2.2,0,0,M.val (c0 x.1.1) [],M.val (c1 x.1.2.1) [],M.val (c2 x.1.2.2.2) [],()))) (aa.bl (λ(A:Int×z1'×List da×List dq×z3'×Int×Int×Int×z2'×List (List (Int×z1'×Int×Int))×z2'×Unit)=>letI d1:=A.2.2;letI n:=d1.2.2;M.af (c4 A.2.1).b8 (M.af (c5 d1.1).b8 (M.af (lp d1.2.1).b8 (M.af (n1 n.1).b8 (M.bind (M.loop (λ(A:Int×Int×Int×Int×Int×Int×z2'×List (List (Int×z1'×Int×Int))×z2'×z1'×List da×List dq×z3'×Unit)=>letI e1:=A.2;letI t:=e1.2.2.2;letI d:=t.2.2.2;letI w:=d.2.2.2;letI o:=0<=e1.1/\e1.1<Int.ofNat (List.length w.1);letI b:=List.getD w.1 (Int.toNat e1.1) (0,0,0,0,[]);if decide (e1.1<A.1)=true then M.af o (M.af (c4 b.2.2.2.2).b8 (M.af o (M.pure (aa.next (A.1,IntKind.wrap .i64 (Add.add e1.1 1),e1.2.1,e1.2.2.1,t.1,t.2.1,t.2.2.1,d.1,d.2.1,d.2.2.1,List.set w.1 (Int.toNat e1.1) (b.1,b.2.1,b.2.2.1,b.2.2.2.1,M.val (c4 b.2.2.2.2) []),w.2.1,w.2.2.1,()))))) else M.bind (M.pure (aa.next (e1.2.1,e1.2.2.1,t.1,t.2.1,t.2.2.1,d.1,d.2.1,d.2.2.1,w.1,w.2.1,w.2.2.1,()))) λr=>M.pure (aa.done r)) (Int.ofNat (List.length (M.val (c5 d1.1) [])),0,A.1,n.2.1,n.2.2.1,n.2.2.2.1,n.2.2.2.2.1,n.2.2.2.2.2.1,n.2.2.2.2.2.2.1,M.val (c4 A.2.1) [],M.val (c5 d1.1) [],M.val (lp d1.2.1) [],M.val (n1 n.1) [],())) (aa.bl (λ(A:Int×Int×Int×Int×z2'×List (List (Int×z1'×Int×Int))×z2'×z1'×List da×List dq×z3'×Unit)=>letI h1:=A.2.2.2;letI m:=h1.2.2.2;M.bind (M.loop (λ(A:Int×Int×Int×Int×Int×Int×z2'×List (List (Int×z1'×Int×Int))×z2'×z1'×List da×List dq×z3'×Unit)=>letI f1:=A.2;letI l:=f1.2.2.2;letI c:=l.2.2.2.2;letI bT:=c.2.2.2;letI p:=0<=f1.1/\f1.1<Int.ofNat (List.length bT.1);letI i:=List.getD bT.1 (Int.toNat f1.1) ([],(0,0),0,0,0);if decide (f1.1<A.1)=true then M.af p (M.af (c4 i.1).b8 (M.af p (M.pure (aa.next (A.1,IntKind.wrap .i64 (Add.add f1.1 1),f1.2.1,f1.2.2.1,l.1,l.2.1,l.2.2.1,l.2.2.2.1,c.1,c.2.1,c.2.2.1,List.set bT.1 (Int.toNat f1.1) (M.val (c4 i.1) [],i.2),bT.2.1,()))))) else M.bind (M.pure (aa.next (f1.2.1,f1.2.2.1,l.1,l.2.1,l.2.2.1,l.2.2.2.1,c.1,c.2.1,c.2.2.1,bT.1,bT.2.1,()))) λr=>M.pure (aa.done r)) (Int.ofNat (List.length m.2.2.2.1),0,A.1,A.2.1,A.2.2.1,h1.1,h1.2.1,h1.2.2.1,m.1,m.2.1,m.2.2.1,m.2.2.2.1,m.2.2.2.2.1,())) (aa.bl (λ(A:Int×Int×Int×Int×z2'×List (List (Int×z1'×Int×Int))×z2'×z1'×List da×List dq×z3'×Unit)=>letI q:=A.2.2.2.2.2;fin ((A.2.2.2.2.1,q.1,A.1,q.2.1),q.2.2.1,q.2.2.2.1,q.2.2.2.2.1,q.2.2.2.2.2.1,A.2.1))))))))))))))))))))
def iz(s:br):vC:=(s.1.1,s.1.2.1,s.1.2.2.1,s.2.2.2.2.2,s.1.2.2.2,s.2.1,s.2.2.1,s.2.2.2.1,s.2.2.2.2.1,())
def amZ(c0:z2'->M (z2'))(c1:List (List (Int×z1'×Int×Int))->M (List (List (Int×z1'×Int×Int))))(c2:z2'->M (z2'))(c3:List (Int×z1'×Int×Int)×Unit->M (List (Int×z1'×Int×Int)×Unit))(c4:z1'->M (z1'))(c5:List da->M (List da))(lp:List dq->M (List dq))(n1:z3'->M (z3'))(x:br):M br:=HJ c0 c1 c2 c3 c4 c5 lp n1 x M.pure
def am0(c0:z2'->M (z2'))(c1:List (List (Int×z1'×Int×Int))->M (List (List (Int×z1'×Int×Int))))(c2:z2'->M (z2'))(c3:List (Int×z1'×Int×Int)×Unit->M (List (Int×z1'×Int×Int)×Unit))(c4:z1'->M (z1'))(c5:List da->M (List da))(lp:List dq->M (List dq))(n1:z3'->M (z3'))(x:br×Unit):M vC:=HJ c0 c1 c2 c3 c4 c5 lp n1 x.1 λs=>M.pure (iz s)
def Yk(Ou:br->M Int)(am1:z2'×List (List (Int×z1'×Int×Int))×Int×z2'->M Bool)(x:br):M Bool:=
 M.bind (am1 x.1) λy=>if (y||decide (Int.ofNat (List.length x.2.1) > 40)||decide (Int.ofNat (List.length x.2.2.1) > 40)||decide (Int.ofNat (List.length x.2.2.2.1) > 40)||decide (Int.ofNat (List.length x.2.2.2.2.1) > 40))=true then M.pure true else M.bind (M.loop (λ(A:Int×br×Unit)=>letI c:=A.1<Int.ofNat (List.length A.2.1.2.2.1);if decide c=true then M.af (0<=A.1/\c) (if decide (Int.ofNat (List.length (List.getD A.2.1.2.2.1 (Int.toNat A.1) (0,0,0,0,[])).2.2.2.2) > 40)=true then M.bind (M.bind (M.pure true) (λr=>M.pure (aa.done r))) λr=>M.pure (aa.done r) else M.pure (aa.next (IntKind.wrap .i64 (Add.add A.1 1),A.2.1,()))) else M.bind (M.pure (aa.next (A.2.1,()))) λr=>M.pure (aa.done r)) (0,x,())) (aa.bl (λ(A:(bc×z1'×List da×List dq×z3'×Int)×Unit)=>M.bind (M.loop (λ(A:Int×(bc×z1'×List (Int×Int×Int×Int×z1')×List dq×z3'×Int)×Unit)=>letI b:=A.1<Int.ofNat (List.length A.2.1.2.2.2.1);if decide b=true then M.af (0<=A.1/\b) (if decide (Int.ofNat (List.length (List.getD A.2.1.2.2.2.1 (Int.toNat A.1) ([],(0,0),0,0,0)).1) > 40)=true then M.bind (M.bind (M.pure true) (λr=>M.pure (aa.done r))) λr=>M.pure (aa.done r) else M.pure (aa.next (IntKind.wrap .i64 (Add.add A.1 1),A.2.1,()))) else M.bind (M.pure (aa.next (A.2.1,()))) λr=>M.pure (aa.done r)) (0,A.1,())) (aa.bl (λ(A:(bc×z1'×List da×List (z1'×(Int×Int)×Int×Int×Int)×z3'×Int)×Unit)=>M.bind (Ou A.1) λy=>if decide (y≠0)=true then M.pure false else M.bind (M.loop (λ(A:Int×Int×(bc×z1'×List da×List dq×z3'×Int)×Unit)=>letI d:=A.2.2.1;letI a:=A.2.1<Int.ofNat (List.length d.2.2.1);if decide a=true then M.af (0<=A.2.1/\a) (M.pure (aa.next (IntKind.wrap .i64 (Add.add A.1 (Int.ofNat (List.length (List.getD d.2.2.1 (Int.toNat A.2.1) (0,0,0,0,[])).2.2.2.2))),IntKind.wrap .i64 (Add.add A.2.1 1),d,()))) else M.bind (M.pure (aa.next (A.1,d,()))) λr=>M.pure (aa.done r)) (0,0,A.1,())) (aa.bl (λ(A:Int×(bc×z1'×List da×List (z1'×(Int×Int)×Int×Int×Int)×z3'×Int)×Unit)=>M.pure (decide (Int.ofNat (List.length A.2.1.2.2.2.1) > 3)||decide (Int.ofNat (List.length A.2.1.2.2.1) > 4)||decide (Int.ofNat (List.length A.2.1.2.2.2.2.1) > 3)||decide (A.1 > 4))))))))
def Yl(am2:Unit->M bc)(x:Unit):M (br):=
 M.bind (am2 ()) λy=>M.pure (y,[1,0,0,0],[(1,60,0,0,[0]),(1,60,7,0,[]),(2,65,0,1,[0]),(2,60,0,0,[0,1])],[([1],(55,65),7,3,500),([1,2],(60,60),0,5,400),([2],(60,70),9,8,700),([2],(65,65),0,5,300)],[(4,2,1),(6,3,1)],2)
abbrev tI:ae:=.int .i64
abbrev cQ:ae:=.bool
abbrev fF:ae:=.slice tI
abbrev mc:ae:=.st (.ax tI tI)
abbrev ko:ae:=.st (.ax tI (.ax tI mc))
abbrev tSlot:ae:=.st (.ax tI (.ax fF mc))
abbrev kK:ae:=.st (.slice tSlot)
abbrev jJ:ae:=.st (.ax tI (.ax tI (.ax tI tI)))
abbrev kp:ae:=.st (.ax (.slice ko) (.ax (.slice kK) (.ax tI (.slice jJ))))
attribute [simp] qe UH vf M.dm M.EJ M.QB M.gp M.fp M.nJ M.iN M.kB M.bK M.pb b7 jC UG aa.gS
abbrev b4:aJ:=⟨.ax tI (.ax tI tI),cQ,λ_=>True,λx=>decide (x.2.1<=x.1)&&decide (x.1<=x.2.2)⟩
theorem am3(x):M.le (aiC x) (b4.sh x):=M.bh λ_=>rfl
abbrev ox:aJ:=⟨.ax fF tI,cQ,λx=>x.1.length<2 ^ 63,λx=>x.1.contains x.2⟩
abbrev HK:Type:=Int×Int×Int×Int
abbrev vF:Type:=Int×z1'×Int×Int
abbrev mg:Type:=Int×Int×Int×Int
def gv(w:bc):Prop:=w.1.length<2 ^ 63/\w.2.1.length<2 ^ 63/\w.2.2.2.length<2 ^ 63/\∀ m∈w.2.1,m.length<2 ^ 63/\∀ s∈m,s.2.1.length<2 ^ 63
def gG(w:bc)(n:Int):Bool:=decide (0<=n)&&decide (n<(w.1.length:Int))
def nN(w:bc)(n:Int):Bool:=decide (0<=n)&&decide (n<(w.2.1.length:Int))
def ji(w:bc)(m:Int):List vF:=w.2.1.getD m.toNat []
def iB(w:bc)(m k:Int):Bool:=nN w m&&(decide (0<=k)&&decide (k<((ji w m).length:Int)))
theorem ub{w:bc}{n:Int}:gG w n=true<->0<=n/\n<(w.1.length:Int):=by simp[gG]
theorem HL{w:bc}{n:Int}:nN w n=true<->0<=n/\n<(w.2.1.length:Int):=by simp[nN]
theorem AD{w:bc}{m k:Int}:iB w m k=true<->(0<=m/\m<(w.2.1.length:Int))/\0<=k/\k<((ji w m).length:Int):=by simp[iB,nN]
theorem HM{w:bc}(hw:gv w)(m:Int):(ji w m).length<2 ^ 63:=by
 unfold ji;rw[List.getD_eq_getElem?_getD];cases h:w.2.1[m.toNat]? with
 | none=>simp
 | some x=>exact (hw.2.2.2 x (List.mem_of_getElem? h)).1
theorem ri(n m:Int):decide (n<=m - 1)=decide (n<m):=by
 grind
abbrev pv:aJ:=⟨.ax kp tI,cQ,λx=>gv x.1,λx=>gG x.1 x.2⟩
theorem Ym(w:bc)(n:Int)(h:gv w):MS b4.sh (w,n)=M.pure (gG w n):=by
 unfold MS;have ai:=h.1;have hw:=bo (n:=(w.1.length:Int) - 1) (by omega) (by omega);simp[aJ.sh,b4,hw,gG,ri]
theorem am4(x):M.le (MS b4.sh x) (pv.sh x):=M.bh λh=>Ym x.1 x.2 h
abbrev AE:aJ:=⟨.ax kp tI,cQ,λx=>gv x.1,λx=>nN x.1 x.2⟩
theorem am5(w:bc)(n:Int)(h:gv w):MV b4.sh (w,n)=M.pure (nN w n):=by
 unfold MV;have ai:=h.2.1;have hw:=bo (n:=(w.2.1.length:Int) - 1) (by omega) (by omega);simp[aJ.sh,b4,hw,nN,ri]
theorem am6(x):M.le (MV b4.sh x) (AE.sh x):=M.bh λh=>am5 x.1 x.2 h
abbrev rj:aJ:=⟨.ax kp (.ax tI tI),cQ,λx=>gv x.1,λx=>iB x.1 x.2.1 x.2.2⟩
theorem Yn(w:bc)(m k:Int)(h:gv w):G3 b4.sh AE.sh (w,m,k)=M.pure (iB w m k):=by
 unfold G3;have ai:=HM h m;have hw:=bo (n:=((ji w m).length:Int) - 1) (by omega) (by omega);unfold ji at hw;simp only[aJ.sh,b4,AE,M.dm,M.iN,bJ,hw,ri,M.bp h];rw[M.bp,M.bp (by simp)]
 ·simp only[iB,ji];simp
 ·intro an;exact⟨⟨an,an⟩,HL.1 an,trivial⟩
theorem am7(x):M.le (G3 b4.sh AE.sh x) (rj.sh x):=M.bh λh=>Yn x.1 x.2.1 x.2.2 h
def vG(s:Int×Int):Bool:=(decide (0<=s.1)&&decide (s.1<=s.2))&&decide (s.2<=999)
abbrev oC:aJ:=⟨mc,cQ,λ_=>True,vG⟩
theorem Yo(s:Int×Int):MY b4.sh s=M.pure (vG s):=by
 unfold MY;simp[aJ.sh,b4,vG]
theorem am8(x):M.le (MY b4.sh x) (oC.sh x):=M.bh λ_=>Yo x
def re(l:z1'):Bool:=(List.range (l.length - 1)).all λi=>decide (l.getD i 0<l.getD (i+1) 0)
abbrev uc:aJ:=⟨fF,cQ,λx=>x.length<2 ^ 63,re⟩
theorem Yp(l:z1')(h:l.length<2 ^ 63):MU l=M.pure (re l):=by
 unfold MU;rw[M.dk (List.range (l.length - 1)) (λi (_:Unit)=>(l,((i+1:Nat):Int),())) (λi b=>if (decide (l.getD i 0<l.getD (i+1) 0))=true then .next b else .done (.done false)) (λ_=>.next ()) () ?_ ?_ ?_]
 ·rw[GY];unfold re;cases (List.range (l.length - 1)).all λi=>decide (l.getD i 0<l.getD (i+1) 0)<;>simp
 ·simp
 ·intro i G b;have dp:i+1<l.length:=by grind
  have hw:=bo (n:=(i:Int)+1+1) (by omega) (by omega);have gA:=bo (n:=(i:Int)+1 - 1) (by omega) (by omega);have e1:((i:Int)+1).toNat=i+1:=by omega
  have e2:((i:Int)+1 - 1).toNat=i:=by omega
  have bX:(0:Int)<=(i:Int)+1/\(i:Int)+1<(l.length:Int):=by omega
  have cn:(0:Int)<=(i:Int)+1 - 1/\(i:Int)+1 - 1<(l.length:Int):=by omega
  simp only[bJ,Int.natCast_add,Int.cast_ofNat_Int,hw,gA,bX,cn,M.bp,e1,e2,b7,List.getElem_range,decide_eq_true_eq,if_true,M.aE,decide_true,and_self,Int.natCast_one];generalize l.getD i 0=aI;generalize l.getD (i+1) 0=B;by_cases hc:aI<B
  ·simp[hc,Int.not_le.2 hc]
  ·simp[hc,Int.not_lt.1 hc]
 ·intro b;have:¬(((List.range (l.length - 1)).length:Int)+1<(l.length:Int)):=by grind
  simp[this];omega
theorem am9(x):M.le (MU x) (uc.sh x):=M.bh λh=>Yp x h
def qk(n:Int):Bool:=decide (0<=n)&&decide (n<=9)
def pw(s:vF):Bool:=s.2.1.all qk&&(qk s.1&&decide ((s.2.1.length:Int)<=4)&&re s.2.1&&vG s.2.2)
def rk(s:HK):Bool:=qk s.1&&qk s.2.1&&vG s.2.2
def sA(w:bc)(t:mg):Bool:=gG w t.1&&iB w t.2.1 t.2.2.1&&(decide (0<=t.2.2.2)&&decide (t.2.2.2<=1))
def ql(m:List vF):Bool:=!decide ((m.length:Int) > 4)&&m.all pw
def vH(w:bc):Bool:=!(decide ((w.1.length:Int) > 10)||decide ((w.2.1.length:Int) > 6)||!(decide (0<=w.2.2.1)&&decide (w.2.2.1<=99))||decide ((w.2.2.2.length:Int) > 30))
def kL(w:bc):Bool:=vH w&&w.1.all rk&&w.2.1.all ql&&w.2.2.2.all (sA w)
abbrev sB:aJ:=⟨tSlot,cQ,λx=>x.2.1.length<2 ^ 63,pw⟩
theorem am_(s:vF)(h:s.2.1.length<2 ^ 63):MZ uc.sh b4.sh oC.sh s=M.pure (pw s):=by
 unfold MZ;rw[M.dk s.2.1 (λi (_:Unit)=>((i:Int),s,())) (λn b=>if qk n=true then .next b else .done (.done false)) (λ_=>.next (s,())) () ?_ ?_ ?_]
 ·rw[GY];unfold pw;cases s.2.1.all qk with
  | false=>simp
  | true=>
   simp only[aJ.sh,b4,uc,oC,M.bp h,qk,if_true,M.aE,M.bK,M.dm,M.iN,M.bg,bJ,h,implies_true,Bool.true_and];simp
 ·rfl
 ·intro i G b;have hw:=bo (n:=(i:Int)+1) (by omega) (by omega);simp[aJ.sh,b4,G,hw,qk];grind
 simp
theorem am'(x):M.le (MZ uc.sh b4.sh oC.sh x) (sB.sh x):=M.bh λh=>am_ x h
abbrev sC:aJ:=⟨kp,cQ,gv,kL⟩
theorem ana(w:bc)(h:gv w):MW pv.sh rj.sh b4.sh oC.sh sB.sh w=M.pure (kL w):=by
 have hs:=h;obtain⟨h1,h2,h3,aR⟩:=h;unfold MW;simp only[aJ.sh,b4,M.iN,M.dm,implies_true,M.bg,bJ,qe];split
 ·rename_i hc;have:vH w=false:=by unfold vH;grind
  simp[kL,this]
 ·rename_i hc;have cz:vH w=true:=by unfold vH;grind
  have axo:w.2.1.length<=6:=by grind
  rw[M.dk w.1 (λi (_:Unit)=>((i:Int),w,())) (λn b=>if (!qk n.1||!qk n.2.1||!vG n.2.2)=true then .done (.done false) else .next b) (λ_=>.next (w,())) () ?_ ?_ ?_]
  ·rw[kC (q:=rk) _ _ (λt=>by simp only[rk,Bool.not_and])];cases h5:w.1.all rk with
   | false=>simp[kL,h5]
   | true=>
    simp only[M.aE,if_true,M.bK];rw[M.dk w.2.1 (λi (_:Unit)=>((i:Int),w,())) (λm b=>if ql m=true then .next b else .done (.done false)) (λ_=>.next (w,())) () ?_ ?_ ?_]
    ·rw[GY];cases aN:w.2.1.all ql with
     | false=>simp[kL,aN]
     | true=>
      simp only[M.aE,if_true,M.bK];rw[M.dk w.2.2.2 (λi (_:Unit)=>((i:Int),w,())) (λt b=>if (!gG w t.1||!iB w t.2.1 t.2.2.1||!(decide (0<=t.2.2.2)&&decide (t.2.2.2<=1)))=true then .done (.done false) else .next b) (λ_=>.next ()) () ?_ ?_ ?_]
      ·rw[kC (q:=sA w) _ _ (λt=>by simp only[sA,Bool.not_and])];cases iZ:w.2.2.2.all (sA w)<;>simp[kL,h5,aN,iZ,cz]
      ·rfl
      ·intro i G b;have hw:=bo (n:=(i:Int)+1) (by omega) (by omega);simp only[bJ,cE G,if_true,cT G,cq G,M.bg,aJ.sh,pv,rj,M.dm,M.iN,hs,implies_true,qe,M.aE,b7,hw];exact mI (mk:=λ_:Unit=>((i:Int)+1,w,()))
      simp
    ·rfl
    ·intro i G b;have hw:=bo (n:=(i:Int)+1) (by omega) (by omega);obtain⟨j2,o8⟩:=aR w.2.1[i] (List.getElem_mem G);simp only[bJ,Int.ofNat_lt,G,decide_true,if_true,cT G,Int.natCast_nonneg,and_self,M.bg];by_cases hlen:(w.2.1[i].length:Int) > 4
     ·simp[hlen,ql]
     ·simp only[hlen,decide_false,Bool.false_eq_true,if_false];rw[M.dk w.2.1[i] (λk (_:Unit)=>((i:Int),(k:Int),w,())) (λs b=>if (!pw s)=true then .done (.done (.done (.done false))) else .next b) (λ_=>.next ((i:Int),w,())) () ?_ ?_ ?_]
      ·rw[kC (q:=pw) _ _ (λ_=>rfl)];cases hD:w.2.1[i].all pw<;>simp[ql,hD,hlen,hw]
      ·rfl
      ·intro k ao b;have mf:=bo (n:=(k:Int)+1) (by omega) (by omega);have AF:=o8 w.2.1[i][k] (List.getElem_mem ao);simp only[bJ,cE ao,cE G,if_true,cT G,cT ao,cq G,cq ao,M.bg,sB,M.dm,AF,M.bp AF,M.aE,b7,mf];exact mI (mk:=λ_:Unit=>((i:Int),(k:Int)+1,w,()))
      simp_all
    simp
  ·rfl
  ·intro i G b;have hw:=bo (n:=(i:Int)+1) (by omega) (by omega);simp only[bJ,cE G,if_true,cT G,cq G,M.bg,aJ.sh,oC,M.dm,M.iN,implies_true,qe,M.aE,b7,hw,Bool.not_not];exact mI (mk:=λ_:Unit=>((i:Int)+1,w,()))
  simp
theorem anb(x):M.le (MW pv.sh rj.sh b4.sh oC.sh sB.sh x) (sC.sh x):=M.bh λh=>ana x h
abbrev qm:mg:=(0,0,0,0)
def mQ(a b:mg):Bool:=decide (a.1=b.1)&&decide (a.2.1=b.2.1)&&decide (a.2.2.1=b.2.2.1)&&decide (a.2.2.2≠b.2.2.2)
def nI(l:List mg):Bool:=(List.range l.length).all λi=>(List.range i).all λk=>!mQ (l.getD k qm) (l.getD i qm)
def cu(w:bc):Int:=if kL w=true then (if nI w.2.2.2=true then 0 else 71) else 70
theorem Yq{a b:Nat}(h:a<b):((0:Int)<=(a:Int)/\(a:Int)<(b:Int))=True:=cq h
abbrev hI:aJ:=⟨kp,tI,gv,cu⟩
theorem anc(w:bc)(h:gv w):MT sC.sh w=M.pure (cu w):=by
 have hs:=h;obtain⟨h1,h2,h3,aR⟩:=h;unfold MT;simp only[aJ.sh,sC,M.dm,M.bp hs];unfold cu;cases hw:kL w with
 | false=>simp
 | true=>
  simp only[Bool.not_true,Bool.false_eq_true,if_false,if_true];rw[M.dk (List.range w.2.2.2.length) (λi (_:Unit)=>((i:Int),w,())) (λi b=>if (List.range i).any (λk=>mQ (w.2.2.2.getD k qm) (w.2.2.2.getD i qm))=true then .done (.done (71:Int)) else .next b) (λ_=>.next ()) () ?_ ?_ ?_]
  ·rw[kC (q:=λi=>(List.range i).all λk=>!mQ (w.2.2.2.getD k qm) (w.2.2.2.getD i qm)) _ _ (λi=>UJ (λk=>by simp) _)];have e:((List.range w.2.2.2.length).all λi=>(List.range i).all λk=>!mQ (w.2.2.2.getD k qm) (w.2.2.2.getD i qm))=nI w.2.2.2:=rfl;rw[e];cases nI w.2.2.2<;>simp
  ·rfl
  ·intro i G b;have G:i<w.2.2.2.length:=by grind
   have hK:=bo (n:=(i:Int)+1) (by omega) (by omega);simp only[bJ,cE G,if_true,List.getElem_range];rw[M.dk (List.range i) (λk (_:Unit)=>((i:Int),(k:Int),w,())) (λk b=>if mQ (w.2.2.2.getD k qm) (w.2.2.2.getD i qm)=true then .done (.done (.done (.done (71:Int)))) else .next b) (λ_=>.next ((i:Int),w,())) () ?_ ?_ ?_]
   ·rw[q9];cases (List.range i).any (λk=>mQ (w.2.2.2.getD k qm) (w.2.2.2.getD i qm))<;>simp[hK]
   ·rfl
   ·intro k ao b;have ao:k<i:=by grind
    have vq:k<w.2.2.2.length:=by omega
    have mf:=bo (n:=(k:Int)+1) (by omega) (by omega);simp only[cE ao,if_true,List.getElem_range,Yq vq,Yq G,M.bg,Int.toNat_natCast,M.aE,b7,mf];exact mI (mk:=λ_:Unit=>((i:Int),(k:Int)+1,w,()))
   simp
  simp
theorem ane(x):M.le (MT sC.sh x) (hI.sh x):=M.bh λh=>anc x h
def gh(w:bc)(i:Int):HK:=w.1.getD i.toNat (0,0,0,0)
def ud(w:bc)(m k:Int):vF:=(ji w m).getD k.toNat (0,[],0,0)
theorem anf{w:bc}{i:Int}(h:gG w i=true):gh w i∈w.1:=by
 rw[ub]at h;exact xE h.1 h.2
theorem OE{w:bc}{m k:Int}(h:iB w m k=true):ji w m∈w.2.1:=by
 rw[AD]at h;exact xE h.1.1 h.1.2
theorem Yr{w:bc}{m k:Int}(h:iB w m k=true):ud w m k∈ji w m:=by
 rw[AD]at h;exact xE h.2.1 h.2.2
theorem AG{w:bc}(h:kL w=true):vH w=true/\(∀ s∈w.1,rk s=true)/\(∀ m∈w.2.1,ql m=true)/\∀ t∈w.2.2.2,sA w t=true:=by
 simp only[kL,Bool.and_eq_true,List.all_eq_true]at h;grind
theorem DY{w:bc}(h:kL w=true):w.1.length<=10/\w.2.1.length<=6/\(0<=w.2.2.1/\w.2.2.1<=99)/\w.2.2.2.length<=30:=by
 have:=(AG h).1;simp[vH]at this;omega
theorem ang{w:bc}(h:kL w=true){m k:Int}(an:iB w m k=true):(ji w m).length<=4:=by
 have:=(AG h).2.2.1 _ (OE an);simp[ql]at this;omega
theorem anh{w:bc}(h:kL w=true){m k:Int}(an:iB w m k=true):pw (ud w m k)=true:=by
 have:=(AG h).2.2.1 _ (OE an);simp only[ql,Bool.and_eq_true,List.all_eq_true]at this;exact this.2 _ (Yr an)
theorem ani{s:vF}(h:pw s=true):0<=s.2.2.1/\s.2.2.1<=s.2.2.2/\s.2.2.2<=999:=by
 simp only[pw,vG,Bool.and_eq_true,decide_eq_true_eq]at h;omega
theorem Ys{w:bc}(h:kL w=true){i:Int}(G:gG w i=true):0<=(gh w i).2.2.1/\(gh w i).2.2.1<=(gh w i).2.2.2/\(gh w i).2.2.2<=999:=by
 have:=(AG h).2.1 _ (anf G);simp only[rk,vG,Bool.and_eq_true,decide_eq_true_eq]at this;omega
theorem anj{w:bc}(h:kL w=true){t:mg}(aH:t∈w.2.2.2):gG w t.1=true/\iB w t.2.1 t.2.2.1=true:=by
 have:=(AG h).2.2.2 _ aH;simp only[sA,Bool.and_eq_true]at this;grind
def vI(w:bc)(i n m k:Int):Bool:=
 decide ((gh w i).1=(ud w m k).1)&&(ud w m k).2.1.contains (gh w i).2.1&&(decide ((ud w m k).2.2.1<=n)&&decide (n<=(ud w m k).2.2.2+w.2.2.1))
def qn(w:bc):Prop:=gv w/\kL w=true
abbrev fcFitsAt:aJ:=⟨.ax kp (.ax tI (.ax tI (.ax tI tI))),cQ,λx=>qn x.1/\gG x.1 x.2.1=true/\iB x.1 x.2.2.2.1 x.2.2.2.2=true,λx=>vI x.1 x.2.1 x.2.2.1 x.2.2.2.1 x.2.2.2.2⟩
theorem ank(w:bc)(i n m k:Int)(hw:qn w)(G:gG w i=true)(an:iB w m k=true):US ox.sh b4.sh (w,i,n,m,k)=M.pure (vI w i n m k):=by
 unfold US;have bX:=ub.1 G;have cn:=AD.1 an;have hsl:=ani (anh hw.2 an);have Ro:=(DY hw.2).2.2.1;have AF:(ud w m k).2.1.length<2 ^ 63:=(hw.1.2.2.2 _ (OE an)).2 _ (Yr an);have hK:=bo (n:=(ud w m k).2.2.2+w.2.2.1) (by omega) (by omega);unfold vI;simp only[ud,ji,gh]at *
 simp only[aJ.sh,ox,b4,M.iN,M.dm,bJ,bX,cn,and_self,M.bg,implies_true,b7,hK,vf,M.bp (λ_=>AF),AF];rfl
def ue(w:bc)(i n:Int)(t:mg):Bool:=!(decide (t.1=i)&&!decide (vI w i n t.2.1 t.2.2.1=decide (t.2.2.2=1)))
def OF(w:bc)(i n:Int):Bool:=w.2.2.2.all (ue w i n)&&(decide ((gh w i).2.2.1<=n)&&decide (n<=(gh w i).2.2.2))
def gH(w:bc)(i:Int):z1':=(dT (gh w i).2.2.1 (gh w i).2.2.2).filter (OF w i)
theorem Yt{w:bc}{i:Int}(hw:qn w)(G:gG w i=true):(gH w i).length<=1000:=by
 have:=Ys hw.2 G;have h2:=List.length_filter_le (OF w i) (dT (gh w i).2.2.1 (gh w i).2.2.2);rw[xF]at h2;unfold gH;omega
theorem anl{w:bc}{i:Nat}(h:i<w.1.length):gG w (i:Int)=true:=by rw[ub];omega
def vJ(w:bc):Bool:=(List.range w.1.length).all λi=>!decide (((gH w (i:Int)).length:Int)=0)
def eh(w:bc)(bS:Bool):Int:=if cu w≠0 then cu w else if bS=false then 1 else if vJ w=true then 0 else 3
theorem OG{w:bc}(h:cu w=0):kL w=true:=by
 unfold cu at h;grind
theorem DZ{w:bc}{bS:Bool}(h:eh w bS=0):cu w=0/\bS=true/\vJ w=true:=by
 unfold eh at h;grind
theorem Yu{w:bc}{bS:Bool}(hs:gv w)(h:eh w bS=0):qn w:=⟨hs,OG (DZ h).1⟩
theorem anm{w:bc}(h:vJ w=true){i:Int}(G:gG w i=true):0<(gH w i).length:=by
 rw[ub]at G;have:=List.all_eq_true.1 h i.toNat (by grind);grind
def vK(w:bc)(i:Int):(Int×Int)×Int:=if eh w (gG w i)≠0 then ((0,0),eh w (gG w i)) else (((gH w i).getD 0 0,(gH w i).getD ((gH w i).length - 1) 0),0)
abbrev x1:aJ:=⟨.ax kp tI,.ax mc tI,λx=>gv x.1,λx=>vK x.1 x.2⟩
def HN(some many:Int):Int:=if some=many then 1 else if some=0 then 2 else 3
abbrev HO:aJ:=⟨.ax tI tI,tI,λ_=>True,λx=>HN x.1 x.2⟩
theorem Yv{aj:Type}{p:aj->Bool}:∀ (l:List aj) (n:Int),l.foldl (λn x=>if p x=true then n+1 else n) n=n+(l.countP p:Int)
 | [],n=>by simp
 | x::l,n=>by
  simp only[List.foldl_cons,List.countP_cons];rw[Yv l];grind
def uf(w:bc)(i m k:Int):Int:=HN ((gH w i).countP λn=>vI w i n m k:Int) ((gH w i).length:Int)
def qo(w:bc)(i m k:Int):Int×Int:=if eh w (gG w i&&iB w m k)≠0 then (0,eh w (gG w i&&iB w m k)) else (uf w i m k,0)
abbrev AH:aJ:=⟨.ax kp (.ax tI (.ax tI tI)),.ax tI tI,λx=>gv x.1,λx=>qo x.1 x.2.1 x.2.2.1 x.2.2.2⟩
section
variable {aj:Type}
def xM(d:aj)(x:List aj×(aj->M Bool)):M Int:=
 M.bind (M.loop (λ(A:List aj×(aj->M Bool)×Int×Int×Unit)=>if decide (A.2.2.2.1<A.2.2.1)=true then M.af (0<=A.2.2.2.1/\
 A.2.2.2.1<Int.ofNat (List.length A.1)) (M.bind (A.2.1 (List.getD A.1 (Int.toNat A.2.2.2.1) d)) λy=>if y=true then M.bind (M.bind (M.pure
 A.2.2.2.1) λr=>M.pure (aa.done r)) λr=>M.pure (aa.done r) else M.pure (aa.next (A.1,A.2.1,A.2.2.1,IntKind.wrap .i64 (Add.add
 A.2.2.2.1 1),()))) else M.bind (M.pure (aa.next ())) λr=>M.pure (aa.done r)) (x.1,x.2,Int.ofNat (List.length x.1),0,())) (aa.bl λ(A
 : Unit)=>M.pure (-1))
def Dz(c:List aj×(aj->M Bool)->M Int)(x:List aj×(aj->M Bool)):M Bool:=M.bind (c x) λy=>M.pure (decide (y>=0))
def Yw(c:List aj×(aj->M Bool)->M Bool)(c1:aj×Option (aj->M Bool)->M Bool)(x:List aj×(aj->M Bool)):M Bool:=
 M.bind (c (x.1,λha=>c1 (ha,some x.2))) λy=>M.pure !y
def Yx(x:aj×Option (aj->M Bool)):M Bool:=M.bind (Option.getD x.2 (λx=>{ b8:=False,bC:=λx=>False }) x.1) λy=>M.pure !y
def hr(p:aj->Bool):List aj->Int->Int
 | [],_=>-1
 | x::l,i=>if p x=true then i else hr p l (i+1)
theorem z6(p:aj->Bool):∀ (l:List aj) (i:Int),0<=i->(decide (hr p l i>=0))=l.any p
 | [],i,_=>by rfl
 | x::l,i,h=>by
  simp only[hr,List.any_cons];by_cases hx:p x=true
  ·grind
  ·have:=z6 p l (i+1) (by omega);grind
theorem z7(p:aj->Bool):∀ (l:List aj) (i:Int),eD (λx (i:Int)=>if p x=true then (.done (.done i):aa Int (aa Unit Int)) else .next (i+1)) (λ_=>.next ()) l i=if l.any p=true then .done (hr p l i) else .next ()
 | [],i=>by rfl
 | x::l,i=>by
  simp only[eD,List.any_cons,hr];by_cases hx:p x=true
  ·grind
  ·have:=z7 p l (i+1);grind
theorem DA{p:aj->Bool}:∀ (l:List aj) (i:Int),¬l.any p=true->hr p l i=-1
 | [],_,_=>rfl
 | x::l,i,aA=>by
  simp only[List.any_cons,Bool.or_eq_true,not_or]at aA;simp only[hr,aA.1,Bool.false_eq_true,if_false];exact DA l _ aA.2
theorem NI(d:aj)(l:List aj)(f:aj->M Bool)(h:l.length<2 ^ 63)(ar:∀ y∈l,∃ b,f y=M.pure b):xM d (l,f)=M.pure (hr (λy=>(f y).val false) l 0):=by
 unfold xM;rw[M.gg l (λi (b:Int)=>(l,f,(l.length:Int),b,())) (λy (i:Int)=>if (f y).val false=true then (.done (.done i):aa Int (aa Unit Int)) else .next (i+1)) (λ_=>.next ()) (λi b=>b=(i:Int)) 0 ?_ ?_ ?_ ?_]
 ·rw[z7 (λy=>(f y).val false)];by_cases aU:(l.any λy=>(f y).val false)=true
  ·simp[aU]
  ·have:hr (λy=>(f y).val false) l 0=-1:=by
    have:∀ (l:List aj) (i:Int),¬(l.any λy=>(f y).val false)=true->hr (λy=>(f y).val false) l i=-1:=by
     intro l;induction l with
     | nil=>intro i _;rfl
     | cons x l aG=>
      intro i aA;simp only[List.any_cons,Bool.or_eq_true,not_or]at aA;simp only[hr,aA.1,Bool.false_eq_true,if_false];grind
    grind
   simp[aU,this]
 ·rfl
 ·rfl
 ·intro i G b ab;subst ab;have hw:=bo (n:=(i:Int)+1) (by omega) (by omega);refine⟨?_,λaZ cS=>?_⟩
  ·obtain⟨b,ab⟩:=ar _ (List.getElem_mem G);simp only[bJ,cE G,if_true,cT G,cq G,M.bg,ab,M.fp,M.aE,b7,hw];split<;>rfl
  grind
 simp
end
abbrev kH(e:ae):aJ:=⟨.ax (.slice e) (.fn e .bool),tI,λx=>x.1.length<2 ^ 63/\∀ y∈x.1,∃ b,x.2 y=M.pure b,λx=>hr (λy=>(x.2 y).val false) x.1 0⟩
theorem si(e:ae)(x):M.le (xM e.cN x) ((kH e).sh x):=M.bh λh=>NI e.cN x.1 x.2 h.1 h.2
abbrev iO(e:ae):aJ:=⟨.ax (.slice e) (.fn e .bool),cQ,λx=>x.1.length<2 ^ 63/\∀ y∈x.1,∃ b,x.2 y=M.pure b,λx=>x.1.any λy=>(x.2 y).val false⟩
theorem sj(e:ae)(x):M.le (Dz (kH e).sh x) ((iO e).sh x):=M.bh λh=>by
 unfold Dz;simp only[aJ.sh,kH,M.dm];rw[M.bp (by exact h)];exact congrArg M.pure (z6 (λy=>(x.2 y).val false) x.1 0 (by omega))
abbrev vL(e:ae):aJ:=⟨.ax e (.bq (.fn e .bool)),cQ,λx=>∃ f,x.2=some f/\∃ b,f x.1=M.pure b,λx=>!((x.2.getD λ_=>M.fail) x.1).val false⟩
theorem D0(e:ae)(x):M.le (Yx x) ((vL e).sh x):=M.bh λh=>by
 obtain⟨y,o⟩:=x;obtain⟨f,ar,b,ab⟩:=h;change o=some f at ar;subst ar;change f y=M.pure b at ab;unfold Yx;simp_all
abbrev fcAllF(e:ae):aJ:=⟨.ax (.slice e) (.fn e .bool),cQ,λx=>x.1.length<2 ^ 63/\∀ y∈x.1,∃ b,x.2 y=M.pure b,λx=>x.1.all λy=>(x.2 y).val false⟩
theorem D1(e:ae)(x):M.le (Yw (iO e).sh (vL e).sh x) ((fcAllF e).sh x):=M.bh λh=>by
 obtain⟨l,f⟩:=x;obtain⟨h1,h2⟩:=h;unfold Yw;have hc:∀ y∈l,(vL e).sh (y,some f)=M.pure (!(f y).val false):=λy aM=>by
  obtain⟨b,ab⟩:=h2 y aM;exact M.bF ⟨f,rfl,b,ab⟩ _
 simp only[aJ.sh,iO,M.dm];rw[M.bp ⟨h1,λy aM=>⟨_,hc y aM⟩⟩];refine congrArg M.pure ?_;rw[List.not_any_eq_all_not];simp
end Go.Fer
