/- Part 5 of the proof of Slips: shallow programs of Go functions, and what they compute. No condition. -/
import Derived.Test.YtplfnoecifjgeaaGreatDoorSlipsD
noncomputable section
set_option linter.unusedVariables false
set_option linter.unusedSimpArgs false
namespace Go.Fer.H
open M (ab)
abbrev tI:af:=.int .i64
abbrev cU:af:=.bool
abbrev fI:af:=.slice tI
abbrev mn:af:=.st (.ay tI tI)
abbrev NX:af:=.st (.ay tI (.ay tI (.ay tI (.ay tI (.ay tI (.ay tI tI))))))
abbrev jl:af:=.st (.ay (.slice mn) (.ay (.slice gX) (.ay fI (.ay (.slice mn) NX))))
abbrev Ht:af:=.st (.ay gX tI)
abbrev xU:af:=.st (.ay fI (.array 10 (.slice Ht)))
abbrev sr:af:=.st (.ay jl (.ay (.slice gX) (.slice (.br xU))))
attribute [simp] qk U6 vp M.dq M.EZ M.QZ M.gu M.fg M.nR M.iT M.ku M.bL M.pn b4 iE U5 ab.gV
section
variable {aq:Type}
def xV(d:aq)(x:List aq×(aq->M Bool)):M Int:=
 M.bind (M.loop (λ(A:List aq×(aq->M Bool)×Int×Int×Unit)=>if decide (A.2.2.2.1<A.2.2.1)=true then M.ag (0<=A.2.2.2.1/\
 A.2.2.2.1<Int.ofNat (List.length A.1)) (M.bind (A.2.1 (List.getD A.1 (Int.toNat A.2.2.2.1) d)) λy=>if y=true then M.bind (M.bind (M.pure
 A.2.2.2.1) λr=>M.pure (ab.done r)) λr=>M.pure (ab.done r) else M.pure (ab.next (A.1,A.2.1,A.2.2.1,IntKind.wrap .i64 (Add.add
 A.2.2.2.1 1),()))) else M.bind (M.pure (ab.next ())) λr=>M.pure (ab.done r)) (x.1,x.2,Int.ofNat (List.length x.1),0,())) (ab.bm λ(A
 : Unit)=>M.pure (-1))
def DR(c:List aq×(aq->M Bool)->M Int)(x:List aq×(aq->M Bool)):M Bool:=M.bind (c x) λy=>M.pure (decide (y>=0))
def hA(p:aq->Bool):List aq->Int->Int
 | [],_=>-1
 | x::l,i=>if p x=true then i else hA p l (i+1)
theorem An(p:aq->Bool):∀ (l:List aq) (i:Int),0<=i->(decide (hA p l i>=0))=l.any p
 | [],i,_=>by rfl
 | x::l,i,h=>by
  simp only[hA,List.any_cons];by_cases hx:p x=true
  ·grind
  ·have:=An p l (i+1) (by omega);grind
theorem Ao(p:aq->Bool):∀ (l:List aq) (i:Int),eI (λx (i:Int)=>if p x=true then (.done (.done i):ab Int (ab Unit Int)) else .next (i+1)) (λ_=>.next ()) l i=if l.any p=true then .done (hA p l i) else .next ()
 | [],i=>by rfl
 | x::l,i=>by
  simp only[eI,List.any_cons,hA];by_cases hx:p x=true
  ·grind
  ·have:=Ao p l (i+1);grind
theorem DS{p:aq->Bool}:∀ (l:List aq) (i:Int),¬l.any p=true->hA p l i=-1
 | [],_,_=>rfl
 | x::l,i,aB=>by
  simp only[List.any_cons,Bool.or_eq_true,not_or]at aB;simp only[hA,aB.1,Bool.false_eq_true,if_false];exact DS l _ aB.2
theorem NY(d:aq)(l:List aq)(f:aq->M Bool)(h:l.length<2 ^ 63)(au:∀ y∈l,∃ b,f y=M.pure b):xV d (l,f)=M.pure (hA (λy=>(f y).val false) l 0):=by
 unfold xV;rw[M.gj l (λi (b:Int)=>(l,f,(l.length:Int),b,())) (λy (i:Int)=>if (f y).val false=true then (.done (.done i):ab Int (ab Unit Int)) else .next (i+1)) (λ_=>.next ()) (λi b=>b=(i:Int)) 0 ?_ ?_ ?_ ?_]
 ·rw[Ao (λy=>(f y).val false)];by_cases aU:(l.any λy=>(f y).val false)=true
  ·simp[aU]
  ·have:hA (λy=>(f y).val false) l 0=-1:=by
    have:∀ (l:List aq) (i:Int),¬(l.any λy=>(f y).val false)=true->hA (λy=>(f y).val false) l i=-1:=by
     intro l;induction l with
     | nil=>intro i _;rfl
     | cons x l aJ=>
      intro i aB;simp only[List.any_cons,Bool.or_eq_true,not_or]at aB;simp only[hA,aB.1,Bool.false_eq_true,if_false];grind
    grind
   simp[aU,this]
 ·rfl
 ·rfl
 ·intro i G b ad;subst ad;have hw:=bn (n:=(i:Int)+1) (by omega) (by omega);refine⟨?_,λa1 cQ=>?_⟩
  ·obtain⟨b,ad⟩:=au _ (List.getElem_mem G);simp only[bI,cG G,if_true,c6 G,cq G,M.bg,ad,M.fg,M.aE,b4,hw];split<;>rfl
  grind
 simp
end
abbrev kQ(e:af):aL:=⟨.ay (.slice e) (.fn e .bool),tI,λx=>x.1.length<2 ^ 63/\∀ y∈x.1,∃ b,x.2 y=M.pure b,λx=>hA (λy=>(x.2 y).val false) x.1 0⟩
theorem ss(e:af)(x):M.le (xV e.cP x) ((kQ e).sh x):=M.bj λh=>NY e.cP x.1 x.2 h.1 h.2
abbrev iU(e:af):aL:=⟨.ay (.slice e) (.fn e .bool),cU,λx=>x.1.length<2 ^ 63/\∀ y∈x.1,∃ b,x.2 y=M.pure b,λx=>x.1.any λy=>(x.2 y).val false⟩
theorem su(e:af)(x):M.le (DR (kQ e).sh x) ((iU e).sh x):=M.bj λh=>by
 unfold DR;simp only[aL.sh,kQ,M.dq];rw[M.bp (by exact h)];exact congrArg M.pure (An (λy=>(x.2 y).val false) x.1 0 (by omega))
abbrev ld(s:aS):Int:=s.1
abbrev px(s:aS):Int:=s.2.1
abbrev xW(s:aS):Int:=s.2.2.1
abbrev dS(s:aS):Int:=s.2.2.2.1
abbrev tX(s:aS):Int:=s.2.2.2.2.1
abbrev iG(s:aS):Int:=s.2.2.2.2.2
def ij(c:aR):Prop:=c.1.length<2 ^ 63/\c.2.1.length<2 ^ 63/\c.2.2.1.length<2 ^ 63/\c.2.2.2.1.length<2 ^ 63
def bM(n lo G:Int):Bool:=decide (lo<=n)&&decide (n<=G)
theorem nT{n lo G:Int}:bM n lo G=true<->lo<=n/\n<=G:=by simp[bM]
def py(t:pv):Bool:=bM t.1 0 9999&&bM t.2.1 1 9999&&bM t.2.2.2.2.1 1 9999&&bM t.2.2.1 0 100000&&bM t.2.2.2.1 0 100000&&bM t.2.2.2.2.2.1 0 100000&&bM t.2.2.2.2.2.2 0 100000
def lf(n:Nat)(s:aS):Bool:=bM (ld s) 0 99&&bM (px s) 0 ((n:Int) - 1)&&bM (xW s) 0 9999&&bM (tX s) 0 9&&bM (iG s) 0 99&&(decide (dS s=1)||decide (dS s=2)&&decide (iG s=0))
abbrev b8:aL:=⟨.ay tI (.ay tI tI),cU,λ_=>True,λx=>bM x.1 x.2.1 x.2.2⟩
theorem akA(x):M.le (Wi b8.sh x) (b8.sh x):=M.bj λ_=>by
 unfold Wi;simp[aL.sh,b8]
theorem akB(x):M.le (aj5 x) (b8.sh x):=M.bj λ_=>rfl
abbrev xX:aL:=⟨tI,cU,λ_=>True,λx=>bM x 0 9999⟩
theorem akC(x):M.le (V4 b8.sh x) (xX.sh x):=M.bj λ_=>by
 unfold V4;simp[aL.sh,b8]
abbrev vv:aL:=⟨tI,cU,λ_=>True,λx=>bM x 0 99⟩
theorem akD(x):M.le (Wc b8.sh x) (vv.sh x):=M.bj λ_=>by
 unfold Wc;simp[aL.sh,b8]
abbrev vw:aL:=⟨NX,cU,λ_=>True,λx=>py x⟩
theorem akE(x):M.le (Ws b8.sh x) (vw.sh x):=M.bj λ_=>by
 unfold Ws;show _=M.pure (py x);unfold py;simp only[aL.sh,b8,M.nu,M.aE,M.ku];simp
theorem akF(x):M.le (Wo b8.sh x) (vw.sh x):=M.bj λ_=>by
 unfold Wo;rw[M.dj [x.2.2.1,x.2.2.2.1,x.2.2.2.2.2.1,x.2.2.2.2.2.2] (λi (_:Unit)=>(4,(i:Int),x,[x.2.2.1,x.2.2.2.1,x.2.2.2.2.2.1,x.2.2.2.2.2.2],())) (λy b=>if (!bM y 0 100000)=true then .done (.done false) else .next b) (λ_=>.next (x,())) () ?_ ?_ ?_]
 ·rw[kL (q:=λy=>bM y 0 100000) _ _ (λ_=>rfl)];show _=M.pure (py x);unfold py;simp only[List.all_cons,List.all_nil,Bool.and_true,aL.sh,b8,M.nu,M.aE,M.ku];cases h1:bM x.1 0 9999<;>cases h2:bM x.2.1 1 9999<;>cases h3:bM x.2.2.2.2.1 1 9999<;>cases bM x.2.2.1 0 100000<;>cases bM x.2.2.2.1 0 100000<;>cases bM x.2.2.2.2.2.1 0 100000<;>cases bM x.2.2.2.2.2.2 0 100000<;>simp[h1,h2,h3]
 ·rfl
 ·intro i G b;have ds:i<4:=by omega
  have hw:=bn (n:=(i:Int)+1) (by omega) (by omega);have h1:decide ((i:Int)<4)=true:=by grind
  simp only[h1,if_true,bI,c6 G,cq G,M.bg,aL.sh,b8,M.nu,M.aE,b4,hw];exact mQ (mk:=λ(_:Unit)=>((4:Int),((i+1:Nat):Int),x,[x.2.2.1,x.2.2.2.1,x.2.2.2.2.2.1,x.2.2.2.2.2.2],()))
 simp
abbrev fcSlip:aL:=⟨.ay jl gX,cU,λx=>x.1.1.length<2 ^ 63,λx=>lf x.1.1.length x.2⟩
theorem akG(x):M.le (Wt b8.sh x) (fcSlip.sh x):=M.bj λh=>by
 have hw:=bn (n:=(x.1.1.length:Int) - 1) (by omega) (by omega);unfold Wt;show _=M.pure (lf x.1.1.length x.2);unfold lf;simp only[aL.sh,b8,M.nu,M.aE,M.ku,bI,hw];grind
theorem akH(x):M.le (Wq b8.sh vv.sh x) (fcSlip.sh x):=M.bj λh=>by
 have hw:=bn (n:=(x.1.1.length:Int) - 1) (by omega) (by omega);unfold Wq;show _=M.pure (lf x.1.1.length x.2);unfold lf;simp only[aL.sh,b8,vv,M.nu,M.aE,M.ku,bI,hw];grind
abbrev DT:aL:=⟨.ay gX (.br jl),cU,λx=>∃ c:aR,x.2=some c/\c.1.length<2 ^ 63,λx=>!lf (x.2.getD ([],[],[],[],0,0,0,0,0,0,0)).1.length x.1⟩
theorem akI(x):M.le (Wp fcSlip.sh x) (DT.sh x):=M.bj λh=>by
 obtain⟨s,o⟩:=x;obtain⟨c,hc,h⟩:=h;change o=some c at hc;subst hc;unfold Wp;simp only[Option.getD_some,aL.sh,fcSlip,M.dq];simp_all
abbrev Ap:aL:=⟨tI,cU,λ_=>True,λx=>!bM x 0 99⟩
theorem akJ(x):M.le (Wr vv.sh x) (Ap.sh x):=M.bj λ_=>by
 unfold Wr;simp[aL.sh,vv]
theorem WN(a b:aS):(decide (a.1=b.1)&&(decide (a.2.1=b.2.1)&&(decide (a.2.2.1=b.2.2.1)&&(decide (a.2.2.2.1=b.2.2.2.1)&&(decide (a.2.2.2.2.1=b.2.2.2.2.1)&&decide (a.2.2.2.2.2=b.2.2.2.2.2))))))=decide (a=b):=by
 grind
def tY(a b:aS):Bool:=decide (ld a=ld b)&&!decide (a=b)
abbrev Hu:aL:=⟨.ay gX gX,cU,λ_=>True,λx=>tY x.1 x.2⟩
theorem akK(x):M.le (Wh x) (Hu.sh x):=M.bj λ_=>by
 have h:=WN x.1 x.2;unfold Wh;show _=M.pure (tY x.1 x.2);unfold tY;grind
abbrev oF:aL:=⟨.ay fI tI,cU,λx=>x.1.length<2 ^ 63,λx=>x.1.contains x.2⟩
theorem akL(x):M.le (akp x) ((kQ gX).sh x):=ss gX x
theorem akM(x):M.le (akj (kQ gX).sh x) ((iU gX).sh x):=su gX x
abbrev fcClone:aL:=⟨fI,fI,λx=>x.length<=3000000,λx=>x⟩
theorem gF{n:Nat}(h:n<65536):b2 n:=by unfold b2;omega
theorem akN(x):M.le (Wv x) (fcClone.sh x):=M.sk λh=>by
 unfold Wv;rw[M.fJ];refine⟨⟨false,by simp⟩,λb ad=>?_⟩;change b=true->x=[]at ad;cases b with
 | true=>rw[ad rfl];exact M.dI.2 rfl
 | false=>
  simp only[Bool.false_eq_true,if_false];exact M.kD.2 ⟨by change List.length x<=3000000 at h;simp only[iE,b2];omega,M.dI.2 (by simp)⟩
abbrev akO(c:aR):Prop:=c.1.length<=20/\c.2.1.length<=40/\c.2.2.1.length<=60/\c.2.2.2.1.length<=40
abbrev Hv:aL:=⟨tI,cU,λ_=>True,λ_=>false⟩
theorem akP(x):M.le (Wz x) (Hv.sh x):=M.bj λ_=>by simp[Wz]
abbrev fcCmp:aL:=⟨.ay tI tI,tI,λ_=>True,λx=>if x.1<x.2 then -1 else if x.1 > x.2 then 1 else 0⟩
theorem akQ(x):M.le (Wx Hv.sh x) (fcCmp.sh x):=M.bj λ_=>by
 unfold Wx;simp only[aL.sh,Hv,M.nu,M.aE,Bool.false_eq_true,if_false,decide_eq_true_eq];grind
abbrev lT:aL:=⟨.ay Ht Ht,tI,λ_=>True,λx=>if x.1.2<x.2.2 then -1 else if x.1.2 > x.2.2 then 1 else 0⟩
theorem akR(x):M.le (Ww fcCmp.sh x) (lT.sh x):=M.bj λ_=>by
 unfold Ww;simp only[aL.sh,fcCmp,M.nu,M.aE]
abbrev NZ:aL:=⟨.int .u64,tI,λx=>0<=x/\x<=12,λx=>(DP x).val 0⟩
theorem akS(x):M.le (DP x) (NZ.sh x):=M.bj λh=>by
 have key:∃ v,DP x=M.pure v:=by
  change Int at x;change (0:Int)<=x/\x<=12 at h;unfold DP;have e1:¬(x>=4294967296):=by omega
  have e2:¬(x>=65536):=by omega
  have e3:¬(x>=256):=by omega
  have e4:IntKind.wrap .u8 x=x:=by
   show (if (false&&decide (x % 2 ^ 8>=(2 ^ (8 - 1):Int)))=true then x % 2 ^ 8 - 2 ^ 8 else x % 2 ^ 8)=x;grind
  have jV:0<=x/\x<Int.ofNat 256:=⟨h.1,by grind⟩
  simp only[decide_eq_true_eq,e1,e2,e3,if_false,M.aE,M.bL,e4,M.bp jV];grind
 obtain⟨v,hv⟩:=key;simp_all
abbrev N0:aL:=⟨.int .u64,tI,λx=>0<=x/\x<=12,λx=>(DP x).val 0⟩
theorem akT(f)(x):M.le (Wu f NZ.sh x) (N0.sh x):=M.bj λh=>by
 unfold Wu;simp only[aL.sh,M.dq];simp_all
end Go.Fer.H
namespace Go.Fer.H
open M (ab)
section
variable {aq:Type} (d:aq) (lt:aq->aq->Bool)
def vx(l:List aq):Nat->List aq
 | 0=>l
 | k+1=>if lt (l.getD (k+1) d) (l.getD k d)=true then vx ((l.set (k+1) (l.getD k d)).set k (l.getD (k+1) d)) k else l
def pz(e:aq):List aq->List aq
 | []=>[e]
 | a::r=>if lt e a=true then a::pz e r else e::a::r
def tZ(l:List aq):List aq:=l.foldl (λr e=>pz lt e r) []
def fi(l:List aq):List aq:=(tZ lt l).reverse
theorem WO:∀ (r:List aq) (e:aq) (R:List aq),vx d lt (r.reverse++e::R) r.length=(pz lt e r).reverse++R
 | [],e,R=>rfl
 | a::r,e,R=>by
  have e1:((a::r).reverse++e::R).getD (r.length+1) d=e:=by
   simp
  have e2:((a::r).reverse++e::R).getD r.length d=a:=by
   simp
  show vx d lt ((a::r).reverse++e::R) (r.length+1)=_;unfold vx;rw[e1,e2];unfold pz;split
  ·have e3:(((a::r).reverse++e::R).set (r.length+1) a).set r.length e=r.reverse++e::(a::R):=by
    simp
   rw[e3,WO r e (a::R)];simp
  ·simp
theorem N1(e:aq):∀ r:List aq,(pz lt e r).Perm (e::r)
 | []=>.refl _
 | a::r=>by
  unfold pz;split
  ·exact ((N1 e r).cons a).trans (List.Perm.swap e a r)
  rfl
theorem WQ:∀ (l r:List aq),(l.foldl (λr e=>pz lt e r) r).Perm (l++r)
 | [],r=>.refl _
 | x::l,r=>by
  simp only[List.foldl_cons];refine (WQ l _).trans ?_;refine ((N1 lt x r).append_left l).trans ?_;simp
theorem WR(l:List aq):(tZ lt l).Perm l:=by
 have:=WQ lt l [];rwa [List.append_nil]at this
theorem DU(l:List aq):(fi lt l).Perm l:=(List.reverse_perm _).trans (WR lt l)
theorem WS(l:List aq):(tZ lt l).length=l.length:=(WR lt l).length_eq
theorem Hw(l:List aq):(fi lt l).length=l.length:=(DU lt l).length_eq
theorem WT{l:List aq}{x:aq}:x∈fi lt l<->x∈l:=(DU lt l).mem_iff
theorem akU(l:List aq)(e:aq):tZ lt (l++[e])=pz lt e (tZ lt l):=by simp[tZ]
def qn(l:List aq)(n:Nat):List aq:=(tZ lt (l.take n)).reverse++l.drop n
theorem akV(l:List aq):qn lt l 1=l:=by
 cases l with
 | nil=>rfl
 | cons x l=>rfl
theorem akW(l:List aq):qn lt l l.length=fi lt l:=by simp[qn,fi]
theorem akX(l:List aq)(n:Nat)(h:n<=l.length):(qn lt l n).length=l.length:=by
 simp[qn,WS,Nat.min_eq_left h];omega
theorem akY{l:List aq}{n:Nat}(h:n<l.length):vx d lt (qn lt l n) n=qn lt l (n+1):=by
 have e1:(tZ lt (l.take n)).length=n:=by rw[WS];grind
 have:=WO d lt (tZ lt (l.take n)) l[n] (l.drop (n+1));rw[e1]at this;unfold qn;rw[List.drop_eq_getElem_cons h,this,List.take_add_one,List.getElem?_eq_getElem h,Option.toList_some,akU]
theorem N2(bX:∀ a b,lt a b=false->lt b a=true\/lt b a=false)(tr:∀ a b c:aq,lt a b=false->lt b c=false->lt a c=false)(WU:∀ a b,lt a b=true->lt b a=false)(e:aq):∀ r:List aq,r.Pairwise (λa b=>lt a b=false)->(pz lt e r).Pairwise (λa b=>lt a b=false)
 | [],_=>by simp[pz]
 | a::r,h=>by
  rw[List.pairwise_cons]at h;unfold pz;split
  ·rename_i he;refine List.pairwise_cons.2 ⟨λx hx=>?_,N2 bX tr WU e r h.2⟩;rcases List.mem_cons.1 ((N1 lt e r).mem_iff.1 hx) with rfl | hx
   ·exact WU _ _ he
   ·exact h.1 x hx
  ·rename_i he;have he:lt e a=false:=by grind
   refine List.pairwise_cons.2 ⟨λx hx=>?_,List.pairwise_cons.2 h⟩;grind
end
def gZ(a b:Int):Bool:=decide (a<b)
def hN(a b:bk):Bool:=decide (a.2<b.2)
theorem WV:∀ (l r:z1'),r.Pairwise (λa b=>gZ a b=false)->(l.foldl (λr e=>pz gZ e r) r).Pairwise (λa b=>gZ a b=false)
 | [],r,h=>h
 | x::l,r,h=>WV l _ (N2 gZ (λa b _=>by simp) (λa b c h1 h2=>by simp[gZ]at *;omega) (λa b h=>by simp[gZ]at *;omega) x r h)
theorem N3(l:z1'):(fi gZ l).Pairwise (·<=·):=by
 have:=WV l [] .nil;unfold fi;rw[List.pairwise_reverse];exact this.imp λh=>by simp[gZ]at h;exact h
theorem WW:∀ (l r:List bk),r.Pairwise (λa b=>hN a b=false)->(l.foldl (λr e=>pz hN e r) r).Pairwise (λa b=>hN a b=false)
 | [],r,h=>h
 | x::l,r,h=>WW l _ (N2 hN (λa b _=>by simp) (λa b c h1 h2=>by simp[hN]at *;omega) (λa b h=>by simp[hN]at *;omega) x r h)
theorem akZ(l:List bk):(fi hN l).Pairwise λa b=>a.2<=b.2:=by
 have:=WW l [] .nil;unfold fi;rw[List.pairwise_reverse];exact this.imp λh=>by simp[hN]at h;exact h
theorem Aq{l m:z1'}(h:m.Pairwise (·<=·))(hp:l.Perm m):fi gZ l=m:=
 List.Perm.eq_of_pairwise (λa b _ _ h1 h2=>by omega) (N3 l) h ((DU gZ l).trans hp)
theorem WX{l m:z1'}(hp:l.Perm m):fi gZ l=fi gZ m:=Aq (N3 m) (hp.trans (DU gZ m).symm)
theorem ak0{aq:Type}{d:aq}{lt:aq->aq->Bool}{A aG:Type}{body:A->M (ab A aG)}{s0:A}(mk:Nat->List aq->A)(fin:List aq->aG)(gU:Nat)(e5:List aq)(mO:s0=mk gU e5)(lI:gU<e5.length)
  (hs:∀ k l,l.length=e5.length->k<e5.length->body (mk k l)=M.pure (if 0<k/\lt (l.getD k d) (l.getD (k - 1) d)=true then .next (mk (k - 1) ((l.set k (l.getD (k - 1) d)).set (k - 1) (l.getD k d))) else .done (fin l))) :
  M.loop body s0=M.pure (fin (vx d lt e5 gU)):=by
 subst mO;have key:∀ k l,l.length=e5.length->k<e5.length->M.loop body (mk k l)=M.pure (fin (vx d lt l k)):=by
  intro k;induction k with
  | zero=>
   intro l an aj;exact M.s4 (by rw[hs 0 l an aj,if_neg (by simp)];rfl)
  | succ k aJ=>
   intro l an aj;unfold vx;by_cases h:lt (l.getD (k+1) d) (l.getD k d)=true
   ·rw[if_pos h,M.BB (s':=mk k ((l.set (k+1) (l.getD k d)).set k (l.getD (k+1) d)))]
    ·exact aJ _ (by simpa using an) (by omega)
    ·rw[hs (k+1) l an aj,if_pos ⟨by omega,h⟩];rfl
   ·rw[if_neg h];exact M.s4 (by grind)
 grind
theorem N4{aq:Type}{l:List aq}{d:aq}{k:Nat}:l.getD ((k:Int) - 1).toNat d=l.getD (k - 1) d:=by
 simp
theorem WY{aq:Type}{l:List aq}{d:aq}{k:Nat}:l.getD ((k:Int)).toNat d=l.getD k d:=by rfl
theorem ak1{A aG:Type}{c:Bool}{p:Prop}[Decidable p](h:c=decide p){x y:M (ab A aG)}{a b:ab A aG}(h1:p->x=M.pure a)(h2:¬p->y=M.pure b):(if c=true then x else y)=M.pure (if p then a else b):=by
 grind
def Hx(x:Int×Int×(bk×aS×Int->M Int)×List bk×Unit):M (List bk×Unit):=M.dx (x.1=0/\x.2.1=(x.2.2.2.1.length:Int)/\x.2.2.2.1.length<=12/\x.2.2.1=lT.sh) (fi hN x.2.2.2.1,())
theorem ak2(x):M.le (WD x) (Hx x):=M.bj λh=>by
 obtain⟨a,b,f,l,u⟩:=x;obtain⟨h1,h2,h3,aT⟩:=h;change a=0 at h1;change b=(l.length:Int) at h2;change l.length<=12 at h3;change f=lT.sh at aT;subst h1;subst h2;subst aT;unfold WD;rw[M.dj (List.range (l.length - 1)) (λi (_:Unit)=>(0,(l.length:Int),lT.sh,((i+1:Nat):Int),qn hN l (i+1),())) (λ_ _=>.next ()) (λ_=>(fi hN l,())) () ?_ ?_ ?_]
 ·rw[dZ]
 ·show (0,(l.length:Int),lT.sh,IntKind.wrap .i64 (Add.add 0 1),l,())=(0,(l.length:Int),lT.sh,((0+1:Nat):Int),qn hN l (0+1),())
  rw[akV];rfl
 ·intro i G _;have G:i+1<l.length:=by grind
  have an:=akX hN l (i+1) (by omega);have hw:=bn (n:=((i+1:Nat):Int)+1) (by omega) (by omega);have aw:decide (((i+1:Nat):Int)<(l.length:Int))=true:=by grind
  simp only[aw,if_true];rw[ak0 (d:=((0,0,0,0,0,0),0)) (lt:=hN) (λk m=>(0,(l.length:Int),lT.sh,((i+1:Nat):Int),(k:Int),m,())) (λm=>.next (0,(l.length:Int),lT.sh,((i+1:Nat):Int),m,())) (i+1) (qn hN l (i+1)) rfl (by omega) ?_]
  ·simp only[M.aE,M.bL,b4,hw,akY ((0,0,0,0,0,0),0) hN G];rfl
  ·intro k m ao aj;have gD:0<k->IntKind.wrap .i64 ((k:Int) - 1)=(k:Int) - 1:=λ_=>bn (by omega) (by omega);by_cases lI:0<k
   ·have hp:decide ((k:Int) > 0)=true:=by grind
    have b3:(0:Int)<=(k:Int)/\(k:Int)<Int.ofNat m.length:=⟨by omega,by grind⟩
    have cr:(0:Int)<=(k:Int) - 1/\(k:Int) - 1<Int.ofNat m.length:=⟨by omega,by omega⟩
    have dX:(0:Int)<=(k:Int) - 1/\(k:Int) - 1<Int.ofNat (m.set k (m.getD (k - 1) ((0,0,0,0,0,0),0))).length:=⟨by omega,by grind⟩
    have Hy:((k:Int) - 1)=((k - 1:Nat):Int):=by omega
    simp only[hp,gD lI,b3,cr,forall_const,and_self,true_and,M.bg,aL.sh,lT,M.nu,M.ku,M.aE,if_true,Bool.true_and,N4,WY,Int.toNat_natCast,dX];rw[show ((k:Int) - 1).toNat=k - 1 from by omega];refine ak1 (p:=0<k/\hN (m.getD k ((0,0,0,0,0,0),0)) (m.getD (k - 1) ((0,0,0,0,0,0),0))=true) ?_ (λ_=>?_) (λ_=>rfl)
    ·rw[Bool.eq_iff_iff];simp only[hN,lI,true_and,decide_eq_true_eq];grind
    rw[Hy]
   ·have WZ:k=0:=by omega
    subst WZ;simp[b7]
 ·intro _;have e:qn hN l (l.length - 1+1)=fi hN l:=by
   cases l with
   | nil=>rfl
   | cons x r=>exact akW hN (x::r)
  have aw:decide (((l.length - 1+1:Nat):Int)<(l.length:Int))=false:=by grind
  simp only[List.length_range,aw,Bool.false_eq_true,if_false,e,M.aE]
def Hz(x:Int×Int×Int×(bk×aS×Int->M Int)×List bk×Unit):M (List bk×Unit):=M.dx (x.1=0/\x.2.1=(x.2.2.2.2.1.length:Int)/\x.2.2.2.2.1.length<=12/\x.2.2.2.1=lT.sh) (fi hN x.2.2.2.2.1,())
theorem ak3(x):M.le (WK Hx x) (Hz x):=M.bj λh=>by
 obtain⟨a,b,c,f,l,u⟩:=x;obtain⟨h1,h2,h3,aT⟩:=h;change a=0 at h1;change b=(l.length:Int) at h2;change l.length<=12 at h3;change f=lT.sh at aT;subst h1;subst h2;subst aT;unfold WK;refine M.s4 ?_;have hw:=bn (n:=(l.length:Int) - 0) (by omega) (by omega);have aw:decide ((l.length:Int) - 0<=12)=true:=by grind
 simp only[hw,aw,if_true];unfold Hx;simp_all
theorem ak4{n:Int}(h:0<=n)(h2:n<=12):IntKind.wrap .u64 n=n:=by
 show (if (false&&decide (n % 2 ^ 64>=(2 ^ (64 - 1):Int)))=true then n % 2 ^ 64 - 2 ^ 64 else n % 2 ^ 64)=n;grind
def xY(x:z1'×Unit):M (z1'×Unit):=M.dx (x.1.length<4611686018427387904) (fi gZ x.1,())
def Ar(x:(bk×aS×Int->M Int)×List bk×Unit):M (List bk×Unit):=M.dx (x.2.1.length<=12/\x.1=lT.sh) (fi hN x.2.1,())
theorem ak5(x):M.le (WM N0.sh Hz x) (Ar x):=M.bj λh=>by
 obtain⟨f,l,u⟩:=x;obtain⟨h,aT⟩:=h;change l.length<=12 at h;change f=lT.sh at aT;subst aT;unfold WM;have hw:=ak4 (n:=(l.length:Int)) (by omega) (by omega);show M.bind (M.dx (0<=IntKind.wrap .u64 (l.length:Int)/\IntKind.wrap .u64 (l.length:Int)<=12) _) _=_;rw[M.dq,M.bp (by omega)];unfold Hz;simp_all
def As(x:(z1'->Prop)×Unit):M (z1'×Unit):=⟨(∃ L,x.1 L)/\∀ L,x.1 L->L.length<60000,λy=>x.1 y.1⟩
theorem W0:∀ (L acc:z1'),L.length+acc.length<60000->jE (λ(A:z1'×Unit) (y:Int)=>M.bind (M.ag (b2 (Add.add (List.length A.1) (Add.add 0 1))) (M.pure (cT.normal,A.1++[y],()))) λp=>M.pure (p.1,p.2.1,())) L (acc,())=M.pure (.normal,acc++L,())
 | [],acc,_=>by simp[jE]
 | x::L,acc,h=>by
  simp only[List.length_cons]at h;unfold jE;rw[M.bp (gF (by grind))];simp only[M.aE];rw[W0 L (acc++[x]) (by grind)];simp
theorem ak6(x):M.le (WA x) (As x):=λh=>by
 obtain⟨S,u⟩:=x;obtain⟨h1,h2⟩:=h;show M.ca _ _;unfold WA;rw[M.fJ];refine⟨h1,λL gh=>?_⟩;have gh:S L:=gh;show M.ca (M.bind (jE _ L ([],())) _) _;rw[W0 L [] (by grind)];simp only[M.aE,r6,List.nil_append];exact M.dI.2 gh
theorem ak7(x):M.le (WB As x) (As x):=λh=>by
 obtain⟨S,u⟩:=x;show M.ca _ _;unfold WB;rw[M.fJ];exact⟨h,λy aO=>M.dI.2 aO⟩
open Classical in
def Au(S:z1'->Prop):z1':=if h:∃ L,S L then fi gZ h.choose else []
abbrev sv:aL:=⟨.b9 tI,fI,λS=>(∃ L,S L)/\(∀ L L',S L->S L'->L.Perm L')/\∀ L,S L->L.length<60000,λS=>Au S⟩
theorem ak8(x):M.le (V6 xY As x) (sv.sh x):=M.sk λh=>by
 obtain⟨h1,h2,h3⟩:=h;unfold V6;rw[M.fJ];refine⟨⟨h1,λL gh=>by grind⟩,λy aO=>?_⟩;have aO:x y.1:=aO;unfold xY;show M.ca (M.bind (M.dx _ _) _) _;rw[M.dq,M.kD];refine⟨Nat.lt_trans (h3 _ aO) (by decide),M.dI.2 ?_⟩;show fi gZ y.1=Au x;unfold Au;rw[dif_pos h1];exact WX (h2 _ _ aO h1.choose_spec)
theorem ak9{S:z1'->Prop}{L:z1'}(h:S L)(h2:∀ L L',S L->S L'->L.Perm L'):Au S=fi gZ L:=by
 have h1:∃ L,S L:=⟨L,h⟩
 unfold Au;rw[dif_pos h1];exact WX (h2 _ _ h1.choose_spec h)
def jK{aq:Type}(x:Option (List (Int×aq)))(L:z1'):Prop:=∃ m,x=some m/\(m.map (·.1)).Perm L
abbrev HA:aL:=⟨.map tI tI,.b9 tI,λ_=>True,λx=>jK (some x)⟩
theorem ak_(x):M.le (aj7 jK x) (HA.sh x):=M.bj λ_=>rfl
abbrev xZ:aL:=⟨.map tI gX,.b9 tI,λ_=>True,λx=>jK (some x)⟩
theorem ak'(x):M.le (akm jK x) (xZ.sh x):=M.bj λ_=>rfl
theorem t_{aq:Type}{m:List (Int×aq)}{L:z1'}:jK (some m) L<->(m.map (·.1)).Perm L:=⟨λ⟨df,h,k⟩=>by grind,λh=>⟨m,rfl,h⟩⟩
theorem W1{aq:Type}{m:List (Int×aq)}(h:m.length<60000):sv.pre (jK (some m)):=
 ⟨⟨_,t_.2 (.refl _)⟩,λL L' h1 h2=>(t_.1 h1).symm.trans (t_.1 h2),λL gh=>by rw[<-(t_.1 gh).length_eq];grind⟩
theorem W2{aq:Type}{m:List (Int×aq)}:Au (jK (some m))=fi gZ (m.map (·.1)):=
 ak9 (t_.2 (.refl _)) λL L' h1 h2=>(t_.1 h1).symm.trans (t_.1 h2)
end Go.Fer.H
namespace Go.Fer.H
open M (ab)
def sw(s:Int×Int):Bool:=bM s.1 (-30) s.2&&!decide (s.2 > 30)
def iH(l:z4')(i:Nat):Bool:=bM (l.getD i (0,0)).1 0 (l.getD i (0,0)).2&&!decide ((l.getD i (0,0)).2 > 9999)&&!(decide (0<i)&&decide ((l.getD i (0,0)).1<=(l.getD (i - 1) (0,0)).2))
def Av(l:z4'):Bool:=(List.range l.length).all (iH l)
def sx(c:aR):Bool:=!(decide ((c.1.length:Int) > 3)||decide ((c.2.1.length:Int) > 12)||decide ((c.2.2.1.length:Int) > 12)||decide ((c.2.2.2.1.length:Int) > 4))&&py c.2.2.2.2
def jL(c:aR):Bool:=sx c&&c.1.all sw&&c.2.1.all (lf c.1.length)&&c.2.2.1.all (λn=>bM n 0 99)&&Av c.2.2.2.1
abbrev vy:aL:=⟨jl,cU,ij,λc=>jL c⟩
theorem HB{A aG β:Type}{mk:β->A}{b:β}{q:Bool}{r:aG}{m:M (ab A aG)}(h1:q=true->m=M.pure (.next (mk b)))(h2:q=false->m=M.pure (.done r)):m=M.pure (ab.gV mk (if (!q)=true then .done r else .next b)):=by
 cases q
 ·exact h2 rfl
 ·exact h1 rfl
theorem W3{aq:Type}{a t:Bool}{m n:aq}:(if (a||!(if (!a)=true then t else false))=true then m else n)=if (!a&&t)=true then n else m:=by grind
theorem ala(x):M.le (Wf b8.sh vw.sh fcSlip.sh x) (vy.sh x):=M.bj λh=>by
 obtain⟨aP,aQ,bB,gf⟩:=h;unfold Wf;show _=M.pure (jL x);simp only[aL.sh,vw,M.nu,M.ku,M.aE,bI,W3];unfold jL;rw[show (!(decide ((x.1.length:Int) > 3)||decide ((x.2.1.length:Int) > 12)||decide ((x.2.2.1.length:Int) > 12)||decide ((x.2.2.2.1.length:Int) > 4))&&py x.2.2.2.2)=sx x from rfl];cases ad:sx x with
 | false=>rfl
 | true=>
  rw[if_pos rfl];rw[M.dj x.1 (λi (_:Unit)=>((i:Int),x,())) (λy b=>if (!sw y)=true then .done (.done false) else .next b) (λ_=>.next (x,())) () ?_ ?_ ?_]
  ·rw[kL (q:=sw) _ _ (λ_=>rfl)];cases hc:x.1.all sw with
   | false=>simp
   | true=>
    simp only[if_true,M.aE,M.bL];rw[M.dj x.2.1 (λi (_:Unit)=>((i:Int),x,())) (λy b=>if (!lf x.1.length y)=true then .done (.done false) else .next b) (λ_=>.next (x,())) () ?_ ?_ ?_]
    ·rw[kL (q:=lf x.1.length) _ _ (λ_=>rfl)];cases aw:x.2.1.all (lf x.1.length) with
     | false=>simp
     | true=>
      simp only[if_true,M.aE,M.bL];rw[M.dj x.2.2.1 (λi (_:Unit)=>((i:Int),x,())) (λy b=>if (!bM y 0 99)=true then .done (.done false) else .next b) (λ_=>.next (x,())) () ?_ ?_ ?_]
      ·rw[kL (q:=λn=>bM n 0 99) _ _ (λ_=>rfl)];cases he:x.2.2.1.all (λn=>bM n 0 99) with
       | false=>simp
       | true=>
        simp only[if_true,M.aE,M.bL];rw[M.dj (List.range x.2.2.2.1.length) (λi (_:Unit)=>((i:Int),x,())) (λy b=>if (!iH x.2.2.2.1 y)=true then .done (.done false) else .next b) (λ_=>.next ()) () ?_ ?_ ?_]
        ·rw[kL (q:=iH x.2.2.2.1) _ _ (λ_=>rfl)];unfold Av;cases (List.range x.2.2.2.1.length).all (iH x.2.2.2.1)<;>simp
        ·rfl
        ·intro i G b;have G:i<x.2.2.2.1.length:=by grind
         have hw:=bn (n:=(i:Int)+1) (by omega) (by omega);have gD:=bn (n:=(i:Int) - 1) (by omega) (by omega);have jm:x.2.2.2.1.getD i (0,0)=x.2.2.2.1[i]:=by grind
         have ep:(decide ((i:Int) > 0))=decide (0<i):=by simp
         have aa:decide (0<i)=true->((0:Int)<=(i:Int) - 1/\(i:Int) - 1<(x.2.2.2.1.length:Int)):=λh=>by grind
         refine HB (mk:=λ(_:Unit)=>(((i+1:Nat):Int),x,())) (b:=b) ?_ ?_<;>intro bf<;>
         ·simp only[List.getElem_range,iH,jm]at bf;simp only[bI,cG G,if_true,c6 G,cq G,M.bg,aL.sh,b8,M.nu,M.ik,M.fg,b4,hw,gD,ep,N4,List.getElem_range];revert bf;generalize bM x.2.2.2.1[i].1 0 x.2.2.2.1[i].2=dd;generalize decide (x.2.2.2.1[i].2 > 9999)=dN;generalize decide (x.2.2.2.1[i].1<=(x.2.2.2.1.getD (i - 1) (0,0)).2)=kf;revert aa;generalize decide (0<i)=np;intro aa;cases np
          ·cases dd<;>cases dN<;>cases kf<;>simp
          ·have aa:=aa rfl;cases dd<;>cases dN<;>cases kf<;>simp[aa,(by omega:(1:Int)<=(i:Int))]
        simp
      ·rfl
      ·intro i G b;have hw:=bn (n:=(i:Int)+1) (by omega) (by omega);simp only[bI,cG G,if_true,c6 G,cq G,M.bg,aL.sh,b8,M.nu,M.aE,b4,hw];exact mQ (mk:=λ(_:Unit)=>(((i+1:Nat):Int),x,()))
      simp
    ·rfl
    ·intro i G b;have hw:=bn (n:=(i:Int)+1) (by omega) (by omega);simp only[bI,cG G,if_true,c6 G,cq G,M.bg,aL.sh,fcSlip,M.nR,M.gu,M.aE,b4,hw];rw[M.bp aP];exact mQ (mk:=λ(_:Unit)=>(((i+1:Nat):Int),x,()))
    simp
  ·rfl
  ·intro i G b;have hw:=bn (n:=(i:Int)+1) (by omega) (by omega);refine HB (mk:=λ(_:Unit)=>(((i+1:Nat):Int),x,())) (b:=b) ?_ ?_<;>intro bf<;>
   ·simp only[sw]at bf;simp only[bI,cG G,if_true,c6 G,cq G,M.bg,aL.sh,b8,M.nu,M.ik,M.fg,b4,hw];revert bf;generalize bM x.1[i].1 (-30) x.1[i].2=dd;generalize decide (x.1[i].2 > 30)=dN;simp_all
  simp
theorem W4{aq:Type}{p:aq->Bool}(l:List aq):(l.any λy=>!p y)=!l.all p:=by grind
theorem alb(x):M.le (We b8.sh (iU gX).sh vw.sh (iU tI).sh DT.sh Ap.sh x) (vy.sh x):=M.bj λh=>by
 obtain⟨aP,aQ,bB,gf⟩:=h;unfold We;show _=M.pure (jL x);simp only[show vw.sh x.2.2.2.2=M.pure (py x.2.2.2.2) from rfl,M.ku,M.aE,bI,W3];unfold jL;rw[show (!(decide ((x.1.length:Int) > 3)||decide ((x.2.1.length:Int) > 12)||decide ((x.2.2.1.length:Int) > 12)||decide ((x.2.2.2.1.length:Int) > 4))&&py x.2.2.2.2)=sx x from rfl];cases ad:sx x with
 | false=>rfl
 | true=>
  rw[if_pos rfl];rw[M.dj x.1 (λi (_:Unit)=>(x.1,(x.1.length:Int),(i:Int),x,())) (λy b=>if (!sw y)=true then .done (.done false) else .next b) (λ_=>.next (x,())) () ?_ ?_ ?_]
  ·rw[kL (q:=sw) _ _ (λ_=>rfl)];cases hc:x.1.all sw with
   | false=>simp
   | true=>
    simp only[if_true,M.aE,M.bL];rw[M.dj (List.range x.2.2.2.1.length) (λi (_:Unit)=>(x.2.2.2.1,(x.2.2.2.1.length:Int),(i:Int),x,())) (λy b=>if (!iH x.2.2.2.1 y)=true then .done (.done false) else .next b) (λ_=>.next (x,())) () ?_ ?_ ?_]
    ·rw[kL (q:=iH x.2.2.2.1) _ _ (λ_=>rfl)];unfold Av;cases aw:(List.range x.2.2.2.1.length).all (iH x.2.2.2.1) with
     | false=>simp
     | true=>
      simp only[if_true,M.aE,M.bL];have e1:(iU gX).sh (x.2.1,λy=>DT.sh (y,some x))=M.pure (!x.2.1.all (lf x.1.length)):=by
       have au:∀ y,DT.sh (y,some x)=M.pure (!lf x.1.length y):=λy=>M.bF ⟨x,rfl,aP⟩ _;refine (M.bF ⟨aQ,λy _=>⟨_,au y⟩⟩ _).trans ?_;refine congrArg M.pure ?_;rw[<-W4];simp_all
      have e2:(iU tI).sh (x.2.2.1,Ap.sh)=M.pure (!x.2.2.1.all (λn=>bM n 0 99)):=by
       refine (M.bF ⟨bB,λy _=>⟨_,rfl⟩⟩ _).trans ?_;refine congrArg M.pure ?_;rw[<-W4];show (x.2.2.1.any λy=>(Ap.sh y).val false)=_;simp only[show ∀ y,Ap.sh y=M.pure (!bM y 0 99) from λ_=>rfl,M.fg]
      rw[e1,e2];simp only[M.aE,M.ku];grind
    ·rfl
    ·intro i G b;have G:i<x.2.2.2.1.length:=by grind
     have hw:=bn (n:=(i:Int)+1) (by omega) (by omega);have gD:=bn (n:=(i:Int) - 1) (by omega) (by omega);have jm:x.2.2.2.1.getD i (0,0)=x.2.2.2.1[i]:=by grind
     have ep:(decide ((i:Int) > 0))=decide (0<i):=by simp
     have aa:decide (0<i)=true->((0:Int)<=(i:Int) - 1/\(i:Int) - 1<(x.2.2.2.1.length:Int)):=λh=>by grind
     refine HB (mk:=λ(_:Unit)=>(x.2.2.2.1,(x.2.2.2.1.length:Int),((i+1:Nat):Int),x,())) (b:=b) ?_ ?_<;>intro bf<;>
     ·simp only[List.getElem_range,iH,jm]at bf;simp only[bI,cG G,if_true,c6 G,cq G,M.bg,aL.sh,b8,M.nu,M.ik,M.fg,b4,hw,gD,ep,N4,List.getElem_range];revert bf;generalize bM x.2.2.2.1[i].1 0 x.2.2.2.1[i].2=dd;generalize decide (x.2.2.2.1[i].2 > 9999)=dN;generalize decide (x.2.2.2.1[i].1<=(x.2.2.2.1.getD (i - 1) (0,0)).2)=kf;revert aa;generalize decide (0<i)=np;intro aa;cases np
      ·cases dd<;>cases dN<;>cases kf<;>simp
      ·have aa:=aa rfl;cases dd<;>cases dN<;>cases kf<;>simp[aa,(by omega:(1:Int)<=(i:Int))]
    simp
  ·rfl
  ·intro i G b;have hw:=bn (n:=(i:Int)+1) (by omega) (by omega);refine HB (mk:=λ(_:Unit)=>(x.1,(x.1.length:Int),((i+1:Nat):Int),x,())) (b:=b) ?_ ?_<;>intro bf<;>
   ·simp only[sw]at bf;simp only[bI,cG G,if_true,c6 G,cq G,M.bg,aL.sh,b8,M.nu,M.aE,b4,hw];grind
  simp
abbrev jn:aS:=(0,0,0,0,0,0)
def ka(l:List aS):Bool:=(List.range l.length).any λi=>(List.range i).any λk=>tY (l.getD k jn) (l.getD i jn)
def b_(c:aR):Int:=if jL c=true then (if ka c.2.1=true then 91 else 0) else 90
abbrev hO:aL:=⟨jl,tI,ij,λc=>b_ c⟩
theorem sz{aq:Type}{l:List aq}{i:Nat}{d:aq}(h:i<l.length):l.getD i d=l[i]:=by grind
theorem alc(x):M.le (VZ vy.sh Hu.sh x) (hO.sh x):=M.bj λh=>by
 obtain⟨aP,aQ,bB,gf⟩:=id h;unfold VZ;show _=M.pure (b_ x);rw[show vy.sh x=M.pure (jL x) from M.bF h _];unfold b_;cases jL x with
 | false=>simp
 | true=>
  simp only[M.aE,Bool.not_true,Bool.false_eq_true,if_false,if_true];rw[M.dj (List.range x.2.1.length) (λi (_:Unit)=>((i:Int),x,())) (λi b=>if ((List.range i).any λk=>tY (x.2.1.getD k jn) (x.2.1.getD i jn))=true then .done (.done 91) else .next b) (λ_=>.next ()) () ?_ ?_ ?_]
  ·rw[po];unfold ka;cases (List.range x.2.1.length).any λi=>(List.range i).any λk=>tY (x.2.1.getD k jn) (x.2.1.getD i jn)<;>simp
  ·rfl
  ·intro i G b;have G:i<x.2.1.length:=by grind
   have hw:=bn (n:=(i:Int)+1) (by omega) (by omega);have aw:decide ((i:Int)<Int.ofNat x.2.1.length)=true:=cG G;simp only[aw,if_true,List.getElem_range];rw[M.dj (List.range i) (λk (_:Unit)=>((i:Int),(k:Int),x,())) (λk b=>if tY (x.2.1.getD k jn) (x.2.1.getD i jn)=true then .done (.done (.done (.done 91))) else .next b) (λ_=>(.next ((i:Int),x,()):ab (Int×aR×Unit) (ab (Int×aR×Unit) (ab Unit Int)))) () ?_ ?_ ?_]
   ·rw[po];cases (List.range i).any λk=>tY (x.2.1.getD k jn) (x.2.1.getD i jn)<;>simp[hw]
   ·rfl
   ·intro k aj b;have aj:k<i:=by grind
    have vz:k<x.2.1.length:=by omega
    have hw:=bn (n:=(k:Int)+1) (by omega) (by omega);have aw:decide ((k:Int)<(i:Int))=true:=by grind
    simp only[aw,if_true,bI,cq vz,cq G,M.bg,aL.sh,Hu,M.nu,M.ik,M.fg,M.aE,b4,hw,List.getElem_range,WY];exact mQ (mk:=λ(_:Unit)=>((i:Int),((k+1:Nat):Int),x,()))
   simp
  simp
def db(l:List aS):List aS:=(dM 0 99).filterMap λid=>l.find? λs=>s.1 == id
def eW(c:aR):List aS:=(db c.2.1).filter λs=>!c.2.2.1.contains s.1
theorem ald(l:List aS):(db l).length<=100:=by
 refine Nat.le_trans (List.length_filterMap_le _ _) ?_;rw[show (dM 0 99).length=100 from by decide];omega
def jo(m:List (Int×aS))(k:Int):Option aS:=(m.find? λp=>decide (k=p.1)).map (·.2)
def iV(m:List (Int×aS)):z1':=m.map (·.1)
theorem N5(p:Int×aS)(m:List (Int×aS))(k:Int)(v:aS):kN (p::m) k v=if decide (k=p.1)=true then (p.1,v)::m else p::kN m k v:=rfl
theorem N6(k:Int)(v:aS):kN [] k v=[(k,v)]:=rfl
theorem W5(k:Int)(v:aS):∀ m:List (Int×aS),(kN m k v).length<=m.length+1
 | []=>by rw[N6];simp
 | p::m=>by
  rw[N5];split
  ·simp
  ·simp;exact W5 k v m
theorem N7(k:Int)(v:aS)(x:Int):∀ m:List (Int×aS),jo (kN m k v) x=if x=k then some v else jo m x
 | []=>by
  rw[N6];by_cases h:x=k<;>simp[jo,h]
 | p::m=>by
  rw[N5];have aJ:=N7 k v x m;unfold jo at aJ ⊢;grind
theorem DV(k:Int)(v:aS):∀ m:List (Int×aS),((iV m).Nodup->(iV (kN m k v)).Nodup)/\∀ x,x∈iV (kN m k v)<->x∈iV m\/x=k
 | []=>by rw[N6];simp[iV]
 | p::m=>by
  obtain⟨h1,h2⟩:=DV k v m;rw[N5];by_cases h:k=p.1
  ·subst h;simp only[decide_true,if_true];refine⟨λh=>h,λx=>?_⟩;show x∈p.1::iV m<->x∈p.1::iV m\/x=p.1;grind
  ·simp only[h,decide_false,Bool.false_eq_true,if_false];refine⟨λaB=>?_,λx=>?_⟩
   ·show (p.1::iV (kN m k v)).Nodup;have Cn:(p.1::iV m).Nodup:=aB;grind
   ·show x∈p.1::iV (kN m k v)<->x∈p.1::iV m\/x=k;grind
theorem W6{m:List (Int×aS)}{k:Int}:k∈iV m<->(jo m k).isSome=true:=by
 unfold jo iV;simp
def qo(l:List aS):Prop:=∀ a∈l,∀ b∈l,a.1=b.1->a=b
def qp(l:List aS)(k:Int):Option aS:=l.find? λs=>s.1 == k
def rm:List aS->List (Int×aS)->Option (List (Int×aS))
 | [],m=>some m
 | s::l,m=>if ((jo m s.1).isSome&&!decide ((jo m s.1).getD jn=s))=true then none else rm l (kN m s.1 s)
structure t'(P:List aS)(m:List (Int×aS)):Prop where
 oB:∀ k,jo m k=qp P k
 mg:(iV m).Nodup
 qq:qo P
 DW:m.length<=P.length
theorem W7{l:List aS}{k:Int}{s:aS}(h:qp l k=some s):s∈l/\s.1=k:=by
 unfold qp at h;grind
theorem ale{l:List aS}{k:Int}(h:qp l k=none):∀ s∈l,s.1≠k:=by
 unfold qp at h;grind
theorem t'.nil:t' [] []:=⟨λ_=>rfl,.nil,λa h=>by simp,Nat.le_refl _⟩
theorem Aw:∀ (l P:List aS) (m:List (Int×aS)),t' P m->(qo (P++l)->∃ df,rm l m=some df/\t' (P++l) df)/\(¬qo (P++l)->rm l m=none)
 | [],P,m,h=>by simp only[List.append_nil];exact⟨λ_=>⟨m,rfl,h⟩,λaB=>absurd h.qq aB⟩
 | s::l,P,m,h=>by
  unfold rm;rw[h.oB];cases au:qp P s.1 with
  | some o=>
   obtain⟨ah,G⟩:=W7 au;by_cases he:o=s
   ·subst he;simp only[Option.isSome_some,Option.getD_some,decide_true,Bool.not_true,Bool.and_false,Bool.false_eq_true,if_false];have:=Aw l (P++[o]) (kN m o.1 o) ⟨λk=>?_,(DV _ _ _).1 h.mg,?_,?_⟩
    ·grind
    ·rw[N7,h.oB];unfold qp at au ⊢;grind
    ·intro a aU b ad vA;simp only[List.mem_append,List.mem_singleton]at aU ad;exact h.qq a (aU.elim id λe=>e ▸ ah) b (ad.elim id λe=>e ▸ ah) vA
    ·have ao:o.1∈iV m:=W6.2 (by rw[h.oB,au];rfl);have an:(iV (kN m o.1 o)).length<=(iV m).length:=by
      have h1:=(DV o.1 o m).1 h.mg;have h2:iV (kN m o.1 o) ⊆ iV m:=λx hx=>by
       rcases ((DV o.1 o m).2 x).1 hx with hx | hx
       ·exact hx
       ·exact hx ▸ ao
      exact h1.length_le_of_subset h2
     have:=h.DW;simp only[iV,List.length_map]at an;grind
   ·simp only[Option.isSome_some,Option.getD_some,he,decide_false,Bool.not_false,Bool.and_self,if_true];refine⟨λaB=>absurd (aB o (by grind) s (by simp) G) he,λ_=>trivial⟩
  | none=>
   simp only[Option.isSome_none,Bool.false_and,Bool.false_eq_true,if_false];have:=Aw l (P++[s]) (kN m s.1 s) ⟨λk=>?_,(DV _ _ _).1 h.mg,?_,?_⟩
   ·grind
   ·rw[N7,h.oB];have q9:=au;unfold qp at au ⊢;grind
   ·have au:=ale au;intro a aU b ad vA;simp only[List.mem_append,List.mem_singleton]at aU ad;rcases aU with aU | rfl<;>rcases ad with ad | rfl
    ·exact h.qq a aU b ad vA
    ·exact absurd vA (au a aU)
    ·exact absurd vA.symm (au b ad)
    ·rfl
   ·have:=W5 s.1 s m;have:=h.DW;grind
theorem ua(l:List aS):ka l=false<->qo l:=by
 unfold ka tY;rw[<-Bool.not_eq_true,List.any_eq_true];constructor
 ·intro h a aU b ad vA;obtain⟨i,G,rfl⟩:=List.mem_iff_getElem.1 aU;obtain⟨k,aj,rfl⟩:=List.mem_iff_getElem.1 ad;by_cases he:l[i]=l[k]
  ·exact he
  ·exfalso;have dY:i≠k:=λe=>he (by grind);rcases Nat.lt_or_gt_of_ne dY with bX | bX
   ·refine h ⟨k,by grind,List.any_eq_true.2 ⟨i,by grind,?_⟩⟩;grind
   ·refine h ⟨i,by grind,List.any_eq_true.2 ⟨k,by grind,?_⟩⟩;grind
 ·rintro h ⟨i,G,aj⟩;obtain⟨k,aj,hc⟩:=List.any_eq_true.1 aj;simp only[List.mem_range]at G aj;rw[sz G,sz (by omega:k<l.length)]at hc;simp only[Bool.and_eq_true,decide_eq_true_eq,Bool.not_eq_true',decide_eq_false_iff_not]at hc;exact hc.2 (h _ (List.getElem_mem _) _ (List.getElem_mem _) hc.1)
theorem alf{l:List aS}:ka l=true<->¬qo l:=by rw[<-ua];simp
theorem W8{l:List aS}{m:List (Int×aS)}(h:t' l m)(hid:∀ s∈l,bM s.1 0 99=true):(fi gZ (iV m)).map (λk=>(jo m k).getD jn)=db l:=by
 have e1:fi gZ (iV m)=(dM 0 99).filter λk=>(qp l k).isSome:=by
  refine Aq ?_ ?_
  ·refine List.Pairwise.filter _ ?_;unfold dM;rw[List.pairwise_map];exact (List.pairwise_lt_range).imp λh=>by omega
  ·refine (List.perm_ext_iff_of_nodup h.mg ?_).2 λk=>?_
   ·refine List.Pairwise.filter _ ?_;unfold dM;rw[List.pairwise_map];exact (List.pairwise_lt_range).imp λh=>by omega
   ·rw[W6,h.oB,List.mem_filter,oz];refine⟨λhs=>⟨?_,hs⟩,λhs=>hs.2⟩;obtain⟨s,hs⟩:=Option.isSome_iff_exists.1 hs;obtain⟨h1,h2⟩:=W7 hs;exact h2 ▸ nT.1 (hid s h1)
 rw[e1];unfold db;have:∀ L:z1',(L.filter λk=>(qp l k).isSome).map (λk=>(jo m k).getD jn)=L.filterMap λid=>l.find? λs=>s.1 == id:=by
  intro L;induction L with
  | nil=>rfl
  | cons k L aJ=>
   rw[List.filter_cons,List.filterMap_cons];have e:(l.find? λs=>s.1 == k)=qp l k:=rfl;rw[e];cases au:qp l k with
   | none=>grind
   | some s=>
    have h5:(jo m k).getD jn=s:=by rw[h.oB,au];rfl
    grind
 grind
theorem alg{l:List aS}{m:List (Int×aS)}(h:t' l m)(hid:∀ s∈l,bM s.1 0 99=true):(db l).length<=l.length:=by
 rw[<-W8 h hid,List.length_map,Hw,iV,List.length_map];exact h.DW
theorem W9{aG:Type}{r:aG}{fin:List (Int×aS)->aG}:∀ (l:List aS) (m:List (Int×aS)),eI (λs m=>if ((jo m s.1).isSome&&!decide ((jo m s.1).getD jn=s))=true then .done r else .next (kN m s.1 s)) fin l m=match rm l m with | none=>r | some df=>fin df
 | [],m=>rfl
 | s::l,m=>by
  simp only[eI,rm];by_cases h:((jo m s.1).isSome&&!decide ((jo m s.1).getD jn=s))=true
  ·grind
  ·simp only[h,Bool.false_eq_true,if_false];exact W9 l _
def vC(l:List aS):Prop:=l.length<=24/\∀ s∈l,bM s.1 0 99=true
abbrev Ax:aL:=⟨.slice gX,.ay (.slice gX) .bool,vC,λl=>if ka l=true then ([],false) else (db l,true)⟩
theorem alh{m:List (Int×aS)}{x0:z1'}{aG:Type}(h:x0.length<=24) :
 M.loop (λ(A:z1'×Int×Int×List aS×List (Int×aS)×Unit)=>if decide (A.2.2.1<A.2.1)=true then M.ag (0<=A.2.2.1/\A.2.2.1<Int.ofNat (List.length A.1)) (M.ag (b2
 (Add.add (List.length A.2.2.2.1) (Add.add 0 1))) (M.pure (ab.next (A.1,A.2.1,IntKind.wrap .i64 (Add.add A.2.2.1 1),A.2.2.2.1++[Option.getD
 (Option.map (λx=>x.2) (List.find? (λp=>decide (List.getD A.1 (Int.toNat A.2.2.1) 0=p.1)) A.2.2.2.2.1)) (0,0,0,0,0,0)],A.2.2.2.2.1,())))) else M.bind (M.pure (ab.next (A.2.2.2.1,()))) λr=>M.pure (ab.done r)) (x0,Int.ofNat (List.length x0),0,[],m,())=M.pure (ab.next (x0.map (λk=>(jo m k).getD jn),()):ab (List aS×Unit) aG):=by
 rw[M.gj x0 (λi (b:List aS)=>(x0,(x0.length:Int),(i:Int),b,m,())) (λk b=>.next (b++[(jo m k).getD jn])) (λb=>.next (b,())) (λi b=>b.length=i) [] ?_ ?_ ?_ ?_]
 ·rw[dZ,xN];rfl
 ·rfl
 ·rfl
 ·intro i G b ad;have hw:=bn (n:=(i:Int)+1) (by omega) (by omega);refine⟨?_,λa1 cQ=>?_⟩
  ·simp only[bI,cG G,if_true,c6 G,cq G,M.bg,b4,hw];rw[M.bp (gF (by grind))];rfl
  grind
 simp
def sA{f_:Type}(R:M f_):List aS×Int×Int×List (Int×aS)×Unit->M (ab (List aS×Int×Int×List (Int×aS)×Unit) (ab (List (Int×aS)×Unit) f_)):=λ(A:List aS×Int×Int×List (Int×aS)×Unit)=>if decide (A.2.2.1<A.2.1)=true then M.ag (0<=A.2.2.1/\A.2.2.1 <
 Int.ofNat (List.length A.1)) (if (Option.isSome (Option.map (λx=>x.2) (List.find? (λp=>decide ((List.getD A.1 (Int.toNat A.2.2.1) (0,0,0,0,0,0)).1=p.1)) A.2.2.2.1))&&!(decide ((Option.getD (Option.map (λx=>x.2) (List.find? (λp=>decide ((List.getD A.1 (Int.toNat A.2.2.1)
 (0,0,0,0,0,0)).1=p.1)) A.2.2.2.1)) (0,0,0,0,0,0)).1=(List.getD A.1 (Int.toNat A.2.2.1) (0,0,0,0,0,0)).1)&&(decide ((Option.getD
 (Option.map (λx=>x.2) (List.find? (λp=>decide ((List.getD A.1 (Int.toNat A.2.2.1) (0,0,0,0,0,0)).1=p.1)) A.2.2.2.1)) (0,0,0,0,0,0)).2.1=(List.getD A.1 (Int.toNat A.2.2.1) (0,0,0,0,0,0)).2.1)&&(decide ((Option.getD (Option.map (λx=>x.2) (List.find? (λp=>
 decide ((List.getD A.1 (Int.toNat A.2.2.1) (0,0,0,0,0,0)).1=p.1)) A.2.2.2.1)) (0,0,0,0,0,0)).2.2.1=(List.getD A.1 (Int.toNat A.2.2.1)
 (0,0,0,0,0,0)).2.2.1)&&(decide ((Option.getD (Option.map (λx=>x.2) (List.find? (λp=>decide ((List.getD A.1 (Int.toNat A.2.2.1) (0,0,0,0,0,0)).1=p.1)) A.2.2.2.1)) (0,0,0,0,0,0)).2.2.2.1=(List.getD A.1 (Int.toNat A.2.2.1) (0,0,0,0,0,0)).2.2.2.1)&&(decide
 ((Option.getD (Option.map (λx=>x.2) (List.find? (λp=>decide ((List.getD A.1 (Int.toNat A.2.2.1) (0,0,0,0,0,0)).1=p.1)) A.2.2.2.1))
 (0,0,0,0,0,0)).2.2.2.2.1=(List.getD A.1 (Int.toNat A.2.2.1) (0,0,0,0,0,0)).2.2.2.2.1)&&decide ((Option.getD (Option.map (λx=>x.2)
 (List.find? (λp=>decide ((List.getD A.1 (Int.toNat A.2.2.1) (0,0,0,0,0,0)).1=p.1)) A.2.2.2.1)) (0,0,0,0,0,0)).2.2.2.2.2=(List.getD
 A.1 (Int.toNat A.2.2.1) (0,0,0,0,0,0)).2.2.2.2.2)))))))=true then M.bind (M.bind R λr=>M.pure (ab.done r)) λr=>
 M.pure (ab.done r) else M.pure (ab.next (A.1,A.2.1,IntKind.wrap .i64 (Add.add A.2.2.1 1),kN A.2.2.2.1 (List.getD A.1 (Int.toNat A.2.2.1)
 (0,0,0,0,0,0)).1 (List.getD A.1 (Int.toNat A.2.2.1) (0,0,0,0,0,0)),()))) else M.bind (M.pure (ab.next (A.2.2.2.1,()))) λr=>M.pure
 (ab.done r)
theorem W_{f_:Type}{R:M f_}{l:List aS}(an:l.length<=24){i:Nat}(G:i<l.length)(m:List (Int×aS)):sA R (l,(l.length:Int),(i:Int),m,())=if ((jo m l[i].1).isSome&&!decide ((jo m l[i].1).getD jn=l[i]))=true then M.bind (M.bind R λr=>M.pure (ab.done r)) λr=>M.pure (ab.done r) else M.pure (.next (l,(l.length:Int),((i+1:Nat):Int),kN m l[i].1 l[i],())):=by
 have hw:=bn (n:=(i:Int)+1) (by omega) (by omega);have es:=WN ((jo m l[i].1).getD jn) l[i];unfold sA;simp only[bI,cG G,if_true,c6 G,cq G,M.bg,b4,hw];rw[show (Option.map (λx=>x.2) (List.find? (λp=>decide (l[i].1=p.1)) m))=jo m l[i].1 from rfl];grind
theorem W'{f_:Type}{R:M f_}{l:List aS}(m:List (Int×aS)):sA R (l,(l.length:Int),(l.length:Int),m,())=M.pure (.done (.next (m,()))):=by
 unfold sA;simp
def Ay{f_:Type}(k:List aS->M f_):List (Int×aS)×Unit->M f_:=λ(A:List (Int×aS)×Unit)=>M.bind (M.bind
 (xZ.sh A.1) λy=>M.bind (sv.sh y) λy=>M.loop (λ(A:z1'×Int×Int×List aS×
 List (Int×aS)×Unit)=>if decide (A.2.2.1<A.2.1)=true then M.ag (0<=A.2.2.1/\A.2.2.1<Int.ofNat (List.length A.1)) (M.ag (b2
 (Add.add (List.length A.2.2.2.1) (Add.add 0 1))) (M.pure (ab.next (A.1,A.2.1,IntKind.wrap .i64 (Add.add A.2.2.1 1),A.2.2.2.1++[Option.getD
 (Option.map (λx=>x.2) (List.find? (λp=>decide (List.getD A.1 (Int.toNat A.2.2.1) 0=p.1)) A.2.2.2.2.1)) (0,0,0,0,0,0)],A.2.2.2.2.1,())))) else M.bind (M.pure (ab.next (A.2.2.2.1,()))) λr=>M.pure (ab.done r)) (y,Int.ofNat (List.length y),0,[],A.1,())) (ab.bm λ(A
 : List aS×Unit)=>k A.1)
theorem ali{l:List aS}{m:List (Int×aS)}(ei:t' l m)(hid:vC l){f_:Type}(k:List aS->M f_):Ay k (m,())=k (db l):=by
 obtain⟨an,hid⟩:=hid;have hp:sv.pre (jK (some m)):=W1 (by have:=ei.DW;omega);have e:sv.sh (jK (some m))=M.pure (fi gZ (iV m)):=by
  refine (M.bF hp _).trans (congrArg M.pure ?_);exact W2
 unfold Ay;show M.bind (M.bind (xZ.sh m) _) _=_;rw[show xZ.sh m=M.pure (jK (some m)) from rfl,M.aE,e,M.aE,alh (by rw[Hw,iV,List.length_map];have:=ei.DW;omega),M.aE,M.bL,W8 ei hid]
theorem Xa(l:List aS)(h:vC l)(hc:ka l=false){f_:Type}(k:List aS->M f_)(R:M f_) :
  M.bind (M.loop (sA R) (l,Int.ofNat (List.length l),0,[],())) (ab.bm (Ay k))=k (db l):=by
 have aB:=(ua l).1 hc;obtain⟨h1,_⟩:=Aw l [] [] .nil;rw[List.nil_append]at h1;obtain⟨m,ao,ei⟩:=h1 aB;have key:M.loop (sA R) (l,Int.ofNat (List.length l),0,[],())=M.pure (.next (m,())):=by
  have gen:∀ (k:Nat) (i:Nat) (df:List (Int×aS)),l.length - i=k->i<=l.length->rm (l.drop i) df=some m->t' (l.take i) df->M.loop (sA R) (l,(l.length:Int),(i:Int),df,())=M.pure (.next (m,())):=by
   intro k;induction k with
   | zero=>
    intro i df aj G ah _;have:i=l.length:=by omega
    subst this;rw[List.drop_length]at ah;simp only[rm,Option.some.injEq]at ah;subst ah;exact M.s4 (W' _)
   | succ k aJ=>
    intro i df aj G ah MO;have G:i<l.length:=by omega
    rw[List.drop_eq_getElem_cons G]at ah;unfold rm at ah;split at ah
    ·cases ah
    ·rename_i FB;refine (M.BB ((W_ h.1 G df).trans (if_neg FB))).trans ?_;refine aJ (i+1) _ (by omega) G ah ?_;obtain⟨g1,_⟩:=Aw [l[i]] (l.take i) df MO;have pA:l.take i++[l[i]]=l.take (i+1):=by simp
     rw[pA]at g1;obtain⟨axI,e1,e2⟩:=g1 λa aU b ad=>aB a (List.mem_of_mem_take aU) b (List.mem_of_mem_take ad);unfold rm at e1;rw[if_neg FB]at e1;simp only[rm,Option.some.injEq]at e1;grind
  exact gen l.length 0 [] rfl (Nat.zero_le _) ao .nil
 rw[key,M.aE,M.bL,ali ei h]
theorem alj(l:List aS)(h:vC l)(hc:ka l=true){f_:Type}(k:List aS->M f_)(r:f_) :
  M.bind (M.loop (sA (M.pure r)) (l,Int.ofNat (List.length l),0,[],())) (ab.bm (Ay k))=M.pure r:=by
 rw[M.dj l (λi (m:List (Int×aS))=>(l,(l.length:Int),(i:Int),m,())) (λs m=>if ((jo m s.1).isSome&&!decide ((jo m s.1).getD jn=s))=true then (.done (.done r):ab (List (Int×aS)) (ab (List (Int×aS)×Unit) _)) else .next (kN m s.1 s)) (λm=>.next (m,())) [] ?_ ?_ ?_]
 ·rw[W9];obtain⟨_,h2⟩:=Aw l [] [] .nil;rw[h2 (alf.1 hc)];simp
 ·rfl
 ·intro i G m;rw[W_ h.1 G m,M.aE,M.aE];exact U9 (mk:=λ(m:List (Int×aS))=>(l,(l.length:Int),((i+1:Nat):Int),m,()))
 ·intro m;exact W' m
theorem alk(x):M.le (akf sv.sh xZ.sh x) (Ax.sh x):=M.bj λh=>by
 show M.bind (M.loop (sA (M.pure ([],false))) (x,Int.ofNat (List.length x),0,[],())) (ab.bm (Ay λa=>M.pure (a,true)))=M.pure (if ka x=true then ([],false) else (db x,true));cases hc:ka x with
 | true=>exact alj x h hc _ _
 | false=>exact Xa x h hc _ _
def HC(x:List aS×Unit):M (Bool×List aS×Unit):=M.dx (vC x.1/\ka x.1=false) (true,db x.1,())
theorem alm(x):M.le (aks sv.sh xZ.sh x) (HC x):=M.bj λh=>by
 show M.bind (M.loop (sA (M.pure (false,[],()))) (x.1,Int.ofNat (List.length x.1),0,[],())) (ab.bm (Ay λa=>M.pure (true,a,())))=_;exact Xa x.1 h.1 h.2 _ _
theorem HD{c:aR}(h:jL c=true):vC c.2.1:=by
 unfold jL sx at h;simp only[Bool.and_eq_true,List.all_eq_true,Bool.not_eq_true',Bool.or_eq_false_iff,decide_eq_false_iff_not]at h;obtain⟨⟨⟨⟨⟨ba,_⟩,_⟩,h2⟩,_⟩,_⟩:=h;refine⟨by omega,λs hs=>?_⟩;have:=h2 s hs;unfold lf at this;grind
theorem aln(x):M.le (VY vy.sh Ax.sh x) (hO.sh x):=M.bj λh=>by
 unfold VY;show _=M.pure (b_ x);rw[show vy.sh x=M.pure (jL x) from M.bF h _];unfold b_;cases hc:jL x with
 | false=>simp
 | true=>
  simp only[M.aE,Bool.not_true,Bool.false_eq_true,if_false,if_true];rw[show Ax.sh x.2.1=M.pure (if ka x.2.1=true then ([],false) else (db x.2.1,true)) from M.bF (HD hc) _];cases ka x.2.1<;>simp
def HE(x:(aS->M Bool)×List aS×Unit):M ((Nat×Nat)×List aS×Unit):=M.dx (x.2.1.length<2 ^ 63/\∀ y∈x.2.1,∃ b,x.1 y=M.pure b)
 ((0,(x.2.1.filter λs=>!(x.1 s).val false).length),(x.2.1.filter λs=>!(x.1 s).val false)++List.replicate (x.2.1.length - (x.2.1.filter λs=>!(x.1 s).val false).length) jn,())
theorem Xb{aq:Type}(p:aq->Bool):∀ (l:List aq) (i:Int),(l.any p=true->∃ k:Nat,∃ h:k<l.length,hA p l i=i+k/\p l[k]=true/\(∀ y∈l.take k,p y=false))
 | [],i,h=>by grind
 | x::l,i,h=>by
  unfold hA;by_cases hx:p x=true
  ·grind
  ·have nA:p x=false:=by grind
   simp only[List.any_cons,nA,Bool.false_or]at h;obtain⟨k,aj,h1,h2,h3⟩:=Xb p l (i+1) h;refine⟨k+1,by grind,by grind,by grind,?_⟩;grind
theorem alo(x):M.le (WC (kQ gX).sh x) (HE x):=M.bj λh=>by
 obtain⟨f,l,u⟩:=x;obtain⟨h1,h2⟩:=h;change l.length<2 ^ 63 at h1;change ∀ y∈l,∃ b,f y=M.pure b at h2;unfold WC;rw[show (kQ gX).sh (l,f)=M.pure (hA (λy=>(f y).val false) l 0) from M.bF ⟨h1,h2⟩ _];rw[M.aE];by_cases aU:(l.any λy=>(f y).val false)=true
 ·obtain⟨k,aj,e1,e2,e3⟩:=Xb (λy=>(f y).val false) l 0 aU;have hw:=bn (n:=(k:Int)+1) (by omega) (by omega);have dY:¬(decide ((0:Int)+k=-1)=true):=by simp
  rw[e1,if_neg dY];generalize bf:(λs=>!(f s).val false)=q at *
  have alp:∀ s,(!(f s).val false)=q s:=λs=>by grind
  have pA:l.take k=(l.take k).filter q:=by
   rw[List.filter_eq_self.2];grind
  have Hy:(l.take (k+1)).filter q=l.take k:=by
   rw[List.take_add_one,List.getElem?_eq_getElem aj,Option.toList_some,List.filter_append,<-pA];grind
  rw[M.dj (l.drop (k+1)) (λi (_:Unit)=>(f,(((l.take (k+1+i)).filter q).length:Int),((k+1+i:Nat):Int),(l.take (k+1+i)).filter q++l.drop ((l.take (k+1+i)).filter q).length,())) (λ_ u=>.next u) (λ_=>.next (((l.filter q).length:Int),l.filter q++l.drop (l.filter q).length,())) () ?_ ?_ ?_]
  ·rw[dZ];have hlen:(l.filter q).length<=l.length:=List.length_filter_le _ _;have fV:(l.filter q++l.drop (l.filter q).length).length=l.length:=by grind
   simp only[M.aE,M.bL,bI,fV];rw[M.bp (by omega)];simp only[M.bg,Int.toNat_natCast];have er:List.take (l.filter q).length (l.filter q++l.drop (l.filter q).length)=l.filter q:=List.take_left;rw[er];refine (M.bp ⟨by omega,by omega,by grind⟩ _).trans ?_;refine congrArg M.pure (Prod.ext rfl (Prod.ext ?_ rfl));show (_++_++_:List aS)=_;exact (congrArg (λz=>_++z) (List.drop_eq_nil_iff.2 (by simp))).trans (List.append_nil _)
  ·show (f,(0:Int)+k,IntKind.wrap .i64 (Add.add ((0:Int)+k) 1),l,())=_;rw[Int.zero_add,b4,hw];refine Prod.ext rfl (Prod.ext ?_ (Prod.ext ?_ (Prod.ext ?_ rfl)))
   ·grind
   ·rfl
   ·show l=(l.take (k+1+0)).filter q++l.drop ((l.take (k+1+0)).filter q).length;rw[Nat.add_zero,Hy,List.length_take,Nat.min_eq_left (by omega),List.take_append_drop]
  ·intro i G _;have G:k+1+i<l.length:=by grind
   have hle:((l.take (k+1+i)).filter q).length<=k+i:=by
    have h1:=List.length_filter_le q (l.drop (k+1) |>.take i);rw[List.take_add,List.filter_append,List.length_append,Hy];grind
   have bX:((l.take (k+1+i)).filter q).length<l.length:=by omega
   have lF:((l.take (k+1+i)).filter q++l.drop ((l.take (k+1+i)).filter q).length).length=l.length:=by grind
   have hw:=bn (n:=((k+1+i:Nat):Int)+1) (by omega) (by omega);have gD:=bn (n:=(((l.take (k+1+i)).filter q).length:Int)+1) (by omega) (by omega);have cZ:k+1+i<((l.take (k+1+i)).filter q++l.drop ((l.take (k+1+i)).filter q).length).length:=by omega
   have B8:((l.take (k+1+i)).filter q).length<((l.take (k+1+i)).filter q++l.drop ((l.take (k+1+i)).filter q).length).length:=by omega
   have jm:((l.take (k+1+i)).filter q++l.drop ((l.take (k+1+i)).filter q).length)[k+1+i]=l[k+1+i]:=by
    rw[List.getElem_append_right (by omega),List.getElem_drop];congr 1;omega
   obtain⟨b,ad⟩:=h2 _ (List.getElem_mem G);have hv:q l[k+1+i]=!b:=by rw[<-alp,ad,M.fg]
   have pA:(l.take (k+1+(i+1))).filter q=(l.take (k+1+i)).filter q++(if (!b)=true then [l[k+1+i]] else []):=by
    rw[show k+1+(i+1)=k+1+i+1 from rfl,List.take_add_one,List.getElem?_eq_getElem G,Option.toList_some,List.filter_append,List.filter_cons,hv,List.filter_nil]
   simp only[bI,cG cZ,if_true,c6 cZ,cq cZ,cq B8,M.bg,jm,ad,M.aE,b4,gD];simp only[Int.toNat_natCast];cases b with
   | true=>
    simp only[Bool.not_true,Bool.false_eq_true,if_false,M.aE,M.bL,hw,ab.gV,List.append_nil]at pA ⊢;grind
   | false=>
    simp only[Bool.not_false,if_true,M.aE,M.bL,hw,ab.gV]at pA ⊢;have es:(List.filter q (List.take (k+1+i) l)++List.drop (List.filter q (List.take (k+1+i) l)).length l).set (List.filter q (List.take (k+1+i) l)).length l[k+1+i]=(l.take (k+1+(i+1))).filter q++l.drop ((l.take (k+1+(i+1))).filter q).length:=by
     rw[pA,List.set_append_right _ _ (Nat.le_refl _),Nat.sub_self,List.drop_eq_getElem_cons bX,List.set_cons_zero];simp
    rw[es];have en:(((l.take (k+1+i)).filter q).length:Int)+1=(((l.take (k+1+(i+1))).filter q).length:Int):=by grind
    grind
  ·intro _;have an:(l.drop (k+1)).length=l.length - (k+1):=by simp
   have e0:k+1+(l.drop (k+1)).length=l.length:=by omega
   have hle:(l.filter q).length<=l.length:=List.length_filter_le _ _;simp only[e0,List.take_length];rw[if_neg (by grind),M.aE]
 ·rw[DS _ _ aU];have:(l.filter λs=>!(f s).val false)=l:=by
   simp_all
  simp only[decide_true,if_true,this,Nat.sub_self,List.replicate_zero,List.append_nil]
abbrev e0:bk:=((0,0,0,0,0,0),0)
def oG(c:aR)(w:z1')(u:Int):List bk:=((eW c).filter λs=>decide (tX s=u)).map λs=>(s,xW s+w.getD (px s).toNat 0)
def bP(c:aR)(w:z1')(u:Int):List bk:=fi hN (oG c w u)
def qt(l:List bk)(i:Nat):Bool:=!(decide (0<i)&&decide ((l.getD i e0).2=(l.getD (i - 1) e0).2))&&decide (dS (l.getD i e0).1=1+((i % 2:Nat):Int))
def ee(l:List bk):Bool:=(List.range l.length).all (qt l)
structure gG(c:aR):Prop where
 ck:b_ c=0
 dA:c.1.length<=3
 dB:c.2.1.length<=12
 iu:c.2.2.1.length<=12
 n4:c.2.2.2.1.length<=4
 iP:jL c=true
 qq:qo c.2.1
 N8:py c.2.2.2.2=true
 clk:∀ s∈c.1,-30<=s.1/\s.1<=s.2/\s.2<=30
 iW:∀ s∈c.2.1,lf c.1.length s=true
 il:Av c.2.2.2.1=true
theorem oH{c:aR}(h:b_ c=0):gG c:=by
 have h0:=h;unfold b_ at h;split at h
 ·rename_i hc;split at h
  ·omega
  ·rename_i aB;have lJ:=hc;unfold jL sx at hc;simp only[Bool.and_eq_true,List.all_eq_true,Bool.not_eq_true',Bool.or_eq_false_iff,decide_eq_false_iff_not]at hc;obtain⟨⟨⟨⟨⟨⟨⟨⟨bR,a2⟩,a3⟩,a4⟩,a5⟩,fY⟩,fZ⟩,hP⟩,a9⟩:=hc;refine⟨h0,by omega,by omega,by omega,by omega,lJ,(ua _).1 (by grind),a5,λs hs=>?_,fZ,a9⟩;have:=fY s hs;unfold sw at this;simp only[Bool.and_eq_true,Bool.not_eq_true',decide_eq_false_iff_not,nT]at this;omega
 omega
theorem Az{n:Nat}{s:aS}:lf n s=true<->(0<=ld s/\ld s<=99)/\(0<=px s/\px s<=(n:Int) - 1)/\(0<=xW s/\xW s<=9999)/\(0<=tX s/\tX s<=9)/\(0<=iG s/\iG s<=99)/\(dS s=1\/dS s=2/\iG s=0):=by
 unfold lf;simp only[Bool.and_eq_true,nT,Bool.or_eq_true,decide_eq_true_eq,and_assoc]
theorem gG.alq{c:aR}(h:gG c):∃ m,t' c.2.1 m:=by
 obtain⟨h1,_⟩:=Aw c.2.1 [] [] .nil;rw[List.nil_append]at h1;obtain⟨m,_,ei⟩:=h1 h.qq;grind
theorem gG.N9{c:aR}(h:gG c):(eW c).length<=12:=by
 obtain⟨m,ei⟩:=h.alq;have h1:=alg ei (HD h.iP).2;have h2:=List.length_filter_le (λs:aS=>!c.2.2.1.contains s.1) (db c.2.1);have:=h.dB;unfold eW;omega
theorem vD{l:List aS}{s:aS}(h:s∈db l):s∈l:=by
 unfold db at h;grind
theorem alr{c:aR}{s:aS}(h:s∈eW c):s∈c.2.1:=vD (List.mem_filter.1 h).1
theorem gG.AA{c:aR}(h:gG c){s:aS}(hs:s∈eW c):lf c.1.length s=true:=h.iW s (alr hs)
def pB(c:aR)(w:z1'):Prop:=w.length=c.1.length/\∀ n∈w,-30<=n/\n<=30
theorem pB.at{c:aR}{w:z1'}(h:pB c w)(aA:gG c){s:aS}(hs:s∈eW c):0<=px s/\px s<(w.length:Int)/\-30<=w.getD (px s).toNat 0/\w.getD (px s).toNat 0<=30:=by
 have h1:=(Az.1 (aA.AA hs)).2.1;have an:px s<(w.length:Int):=by rw[h.1];omega
 exact⟨h1.1,an,h.2 _ (xO h1.1 an)⟩
theorem DX{c:aR}(h:gG c)(w:z1')(u:Int):(bP c w u).length<=12:=by
 unfold bP oG;rw[Hw,List.length_map];exact Nat.le_trans (List.length_filter_le _ _) h.N9
theorem DY{c:aR}{w:z1'}{u:Int}{e:bk}(h:e∈bP c w u):e.1∈eW c/\tX e.1=u/\e.2=xW e.1+w.getD (px e.1).toNat 0:=by
 unfold bP at h;rw[WT]at h;unfold oG at h;grind
theorem Xc(i:Nat):Int.tmod (i:Int) 2=((i % 2:Nat):Int):=by
 rfl
theorem als(l:List bk)(i:Nat):(decide ((i:Int) > 0)&&decide ((l.getD i e0).2=(l.getD (i - 1) e0).2)||decide (dS (l.getD i e0).1≠1+((i % 2:Nat):Int)))=!qt l i:=by
 unfold qt;simp
def kc(a b:Int)(s:Int×Int):Int:=max 0 (min (b - 1) s.2 - max a s.1+1)
def lU(cl:z4')(a b:Int):Int:=cl.foldl (λn s=>n - kc a b s) (b - a)
def Xd(cl:z4'):Prop:=cl.length<=4/\∀ s∈cl,0<=s.1/\s.1<=s.2/\s.2<=9999
theorem gG.N_{c:aR}(h:gG c):Xd c.2.2.2.1:=by
 refine⟨h.n4,λs hs=>?_⟩;have:=h.il;unfold Av at this;rw[List.all_eq_true]at this;obtain⟨i,G,rfl⟩:=List.mem_iff_getElem.1 hs;have:=this i (by grind);unfold iH at this;rw[sz G]at this;simp only[Bool.and_eq_true,nT,Bool.not_eq_true',decide_eq_false_iff_not]at this;omega
abbrev AB(x:aR×Int×Int):Prop:=Xd x.1.2.2.2.1/\-100<=x.2.1/\x.2.1<=x.2.2/\x.2.2<=11000
theorem alu{a b:Int}{s:Int×Int}(aU:-100<=a)(ad:b<=11000)(hs:0<=s.1/\s.1<=s.2/\s.2<=9999):0<=kc a b s/\kc a b s<=20000:=by
 unfold kc;omega
theorem Xe{n:Int}:(if n > 0 then n else 0)=max 0 n:=by omega
theorem Xf{a b:Int}:(if a<b then a else b)=min b a:=by omega
theorem alv{a b:Int}:(if a<b then a else b)=min a b:=by omega
theorem alw{a b:Int}:(if a > b then a else b)=max b a:=by omega
theorem alx{a b:Int}:(if a > b then a else b)=max a b:=by omega
abbrev vF:aL:=⟨.ay jl (.ay tI tI),tI,AB,λx=>lU x.1.2.2.2.1 x.2.1 x.2.2⟩
theorem aly(x):M.le (Wj x) (vF.sh x):=M.bj λh=>by
 obtain⟨c,a,b⟩:=x;obtain⟨⟨h1,h2⟩,h3,aT,bx⟩:=h;change -100<=a at h3;change a<=b at aT;change b<=11000 at bx;change c.2.2.2.1.length<=4 at h1;change ∀ s∈c.2.2.2.1,_ at h2;unfold Wj;have z_:=bn (n:=b - a) (by omega) (by omega);rw[M.gj c.2.2.2.1 (λi (n:Int)=>(a,b,n,c.2.2.2.1,(c.2.2.2.1.length:Int),(i:Int),())) (λs n=>.next (n - kc a b s)) (λn=>.next (n,())) (λi n=>-(20000*(i:Int))<=n/\n<=20000) (b - a) ?_ ?_ ?_ ?_]
 ·rw[dZ,M.aE];rfl
 ·grind
 ·omega
 ·intro i G n aB;have hs:=h2 _ (List.getElem_mem G);have hc:=alu (a:=a) (b:=b) h3 bx hs;have hw:=bn (n:=(i:Int)+1) (by omega) (by omega);refine⟨?_,λa1 cQ=>?_⟩
  ·simp only[Prod.cI,bI,cG G,if_true,c6 G,cq G,M.bg,b4,hw];have bY:=bn (n:=b - 1) (by omega) (by omega);have cy:=bn (n:=min (b - 1) c.2.2.2.1[i].2 - max a c.2.2.2.1[i].1) (by omega) (by omega);have eo:=bn (n:=min (b - 1) c.2.2.2.1[i].2 - max a c.2.2.2.1[i].1+1) (by omega) (by omega);have ub:=bn (n:=n - kc a b c.2.2.2.1[i]) (by omega) (by omega);simp only[bY,alv,alx,cy,eo,Xe];rw[show max (min (b - 1) c.2.2.2.1[i].2 - max a c.2.2.2.1[i].1+1) 0=kc a b c.2.2.2.1[i] from Int.max_comm _ _,ub];rfl
  grind
 simp
def lg(t:pv)(m:Int):Int:=if m>=t.2.2.2.2.1 then t.2.2.2.2.2.1 else min t.2.2.2.1 ((max 0 (m - t.1)+t.2.1 - 1) / t.2.1*t.2.2.1)
abbrev x1(x:pv×Int):Prop:=py x.1=true/\-100000<=x.2/\x.2<=20000
abbrev vG:aL:=⟨.ay NX tI,tI,x1,λx=>lg x.1 x.2⟩
theorem HF{t:pv}:py t=true<->(0<=t.1/\t.1<=9999)/\(1<=t.2.1/\t.2.1<=9999)/\(1<=t.2.2.2.2.1/\t.2.2.2.2.1<=9999)/\(0<=t.2.2.1/\t.2.2.1<=100000)/\(0<=t.2.2.2.1/\t.2.2.2.1<=100000)/\(0<=t.2.2.2.2.2.1/\t.2.2.2.2.2.1<=100000)/\(0<=t.2.2.2.2.2.2/\t.2.2.2.2.2.2<=100000):=by
 unfold py;simp only[Bool.and_eq_true,nT,and_assoc]
theorem Xg{t:pv}{m:Int}(h:x1 (t,m)):0<=(max 0 (m - t.1)+t.2.1 - 1) / t.2.1/\(max 0 (m - t.1)+t.2.1 - 1) / t.2.1<=30000/\0<=(max 0 (m - t.1)+t.2.1 - 1) / t.2.1*t.2.2.1/\(max 0 (m - t.1)+t.2.1 - 1) / t.2.1*t.2.2.1<=3000000000:=by
 obtain⟨h1,h2,h3⟩:=h;change -100000<=m at h2;change m<=20000 at h3;obtain⟨bR,a2,a3,a4,a5,fY,fZ⟩:=(HF (t:=t)).1 h1;have dd:0<=(max 0 (m - t.1)+t.2.1 - 1) / t.2.1:=Int.ediv_nonneg (by omega) (by omega);have dN:(max 0 (m - t.1)+t.2.1 - 1) / t.2.1<=max 0 (m - t.1)+t.2.1 - 1:=Int.ediv_le_self _ (by omega);have kf:(max 0 (m - t.1)+t.2.1 - 1) / t.2.1<=30000:=by omega
 refine⟨dd,kf,Int.mul_nonneg dd a4.1,?_⟩;calc (max 0 (m - t.1)+t.2.1 - 1) / t.2.1*t.2.2.1<=30000*100000:=Int.mul_le_mul kf a4.2 a4.1 (by omega)
  _=3000000000:=by decide
theorem alz{t:pv}{m:Int}(h:x1 (t,m)):0<=lg t m/\lg t m<=100000:=by
 have:=Xg h;obtain⟨h1,h2,h3⟩:=h;obtain⟨bR,a2,a3,a4,a5,fY,fZ⟩:=(HF (t:=t)).1 h1;unfold lg;omega
theorem alA(x):M.le (V9 x) (vG.sh x):=M.bj λh=>by
 obtain⟨t,m⟩:=x;have hu:=Xg h;obtain⟨h1,h2,h3⟩:=h;change -100000<=m at h2;change m<=20000 at h3;obtain⟨bR,a2,a3,a4,a5,fY,fZ⟩:=(HF (t:=t)).1 h1;have bY:=bn (n:=m - t.1) (by omega) (by omega);have cy:=bn (n:=max 0 (m - t.1)+t.2.1) (by omega) (by omega);have eo:=bn (n:=max 0 (m - t.1)+t.2.1 - 1) (by omega) (by omega);have ub:=bn (n:=(max 0 (m - t.1)+t.2.1 - 1) / t.2.1) (by omega) (by omega);have alB:=bn (n:=(max 0 (m - t.1)+t.2.1 - 1) / t.2.1*t.2.2.1) (by omega) (by omega);have Xh:Int.tdiv (max 0 (m - t.1)+t.2.1 - 1) t.2.1=(max 0 (m - t.1)+t.2.1 - 1) / t.2.1:=Int.tdiv_eq_ediv_of_nonneg (by omega);unfold V9;show _=M.pure (lg t m);unfold lg;simp only[Prod.cI,bY,Xe,b4,cy,eo,Xh,ub,Int.mul_comm t.2.2.1,alB,Xf,decide_eq_true_eq];rw[M.bp (show t.2.1≠0 from by omega)];grind
def gH(c:aR)(w:z1')(u:Int):List bk:=if ee (bP c w u)=true then bP c w u else []
def mT(l:List bk)(minute:Int):Int×Int:=l.foldl (λb e=>if e.2<=minute then (if dS e.1=2 then (-1,e.2) else (iG e.1,e.2)) else b) (-1,0)
def HG(c:aR)(w:z1')(minute:Int):Int:=((dM 0 9).foldl (λn u=>if (mT (gH c w u) minute).1>=0 then n+1 else n) (0:Int))
def uc(l:List bk):List (bk×bk):=l.zip (l.drop 1)
def DZ(cl:z4')(iW:Int)(l:List bk):Option Int:=((uc l).find? λp=>ld p.1.1 == iW&&dS p.1.1 == 1).map λp=>lU cl p.1.2 p.2.2
def jM(c:aR)(w:z1')(iW:Int):Option Int:=(dM 0 9).findSome? λu=>DZ c.2.2.2.1 iW (gH c w u)
theorem alC{l:List bk}{i:Nat}(h:i+1<(fi hN l).length):(fi hN l)[i].2<=(fi hN l)[i+1].2:=by
 have:=List.pairwise_iff_getElem.1 (akZ l) i (i+1) (by omega) h (by omega);omega
theorem D0{c:aR}(aA:gG c){w:z1'}(h2:pB c w){u:Int}{e:bk}(he:e∈bP c w u):-30<=e.2/\e.2<=10029:=by
 obtain⟨h1,_,h3⟩:=DY he;have aP:=(h2.at aA h1).2.2;have aQ:=(Az.1 (aA.AA h1)).2.2.1;omega
theorem AD{c:aR}{w:z1'}{u:Int}{e:bk}(he:e∈gH c w u):e∈bP c w u:=by
 unfold gH at he;grind
theorem alD{c:aR}{w:z1'}{u:Int}{i:Nat}(h:i+1<(gH c w u).length):(gH c w u)[i].2<=(gH c w u)[i+1].2:=by
 have key:∀ l,gH c w u=l->∀ (h:i+1<l.length),l[i].2<=l[i+1].2:=by
  intro l an h;unfold gH at an;split at an
  ·subst an;exact alC h
  grind
 grind
theorem Xi{c:aR}(aA:gG c){w:z1'}(h2:pB c w){u:Int}{i:Nat}(h:i+1<(gH c w u).length):AB (c,(gH c w u)[i].2,(gH c w u)[i+1].2):=by
 have h3:=D0 aA h2 (AD (List.getElem_mem (by omega:i<(gH c w u).length)));have aT:=D0 aA h2 (AD (List.getElem_mem h));exact⟨aA.N_,show -100<=(gH c w u)[i].2 by omega,alD h,show (gH c w u)[i+1].2<=11000 by omega⟩
theorem alE{l:List bk}{i:Nat}(h:i<(uc l).length):∃ h2:i+1<l.length,(uc l)[i]=(l[i],l[i+1]):=by
 unfold uc at h ⊢;grind
theorem alF{a b:Int}{s:Int×Int}(h:b<=s.1):kc a b s=0:=by unfold kc;omega
def rn:z4'->Prop
 | []=>True
 | s::r=>s.1<=s.2/\(∀ t∈r,s.2<t.1)/\rn r
theorem N':∀ (cl:z4') (a b n:Int),cl.foldl (λn s=>n - kc a b s) n=n - (cl.map (kc a b)).sum
 | [],a,b,n=>by simp
 | s::r,a,b,n=>by simp only[List.foldl_cons,List.map_cons,List.sum_cons];rw[N' r];omega
theorem Xj:∀ (cl:z4') (a b:Int),rn cl->a<=b->(cl.map (kc a b)).sum<=b - a
 | [],a,b,_,h=>by grind
 | s::r,a,b,⟨h1,h2,h3⟩,h=>by
  simp only[List.map_cons,List.sum_cons];by_cases ad:s.2+1<=b
  ·have aJ:=Xj r (max a (s.2+1)) b h3 (by omega);have e:r.map (kc a b)=r.map (kc (max a (s.2+1)) b):=by
    refine List.map_congr_left λt aI=>?_;have:=h2 t aI;unfold kc;omega
   rw[e];have:kc a b s<=max a (s.2+1) - a:=by unfold kc;omega
   omega
  ·have e:∀ l:z4',(∀ t∈l,b<=t.1)->(l.map (kc a b)).sum=0:=by
    intro l;induction l with
    | nil=>simp
    | cons t l aJ=>
     intro an;simp only[List.map_cons,List.sum_cons];rw[alF (an t (by simp)),aJ λx hx=>an x (by grind)];rfl
   rw[e r λt aI=>by grind];unfold kc;omega
theorem Xk:∀ (cl:z4'),(∀ i,(h:i+1<cl.length)->cl[i].2<cl[i+1].1)->(∀ s∈cl,s.1<=s.2)->rn cl
 | [],_,_=>trivial
 | s::r,h,h2=>by
  have aa:rn r:=Xk r (λi G=>by have:=h (i+1) (by grind);grind) λt aI=>h2 t (by grind);refine⟨h2 s (by simp),?_,aa⟩;cases r with
  | nil=>simp
  | cons t r=>
   have h0:=h 0 (by simp);simp at h0;intro u hu;rcases List.mem_cons.1 hu with rfl | hu
   ·exact h0
   ·have:=aa.2.1 u hu;grind
theorem gG.alG{c:aR}(h:gG c):rn c.2.2.2.1:=by
 have hc:=h.il;unfold Av at hc;rw[List.all_eq_true]at hc;refine Xk _ (λi G=>?_) λs hs=>(h.N_.2 s hs).2.1;have:=hc (i+1) (by grind);unfold iH at this;grind
theorem alH{cl:z4'}{a b:Int}(h:rn cl)(vA:a<=b):0<=lU cl a b:=by
 unfold lU;rw[N'];have:=Xj cl a b h vA;omega
theorem Xl:∀ (cl:z4') (a b:Int),0<=(cl.map (kc a b)).sum
 | [],_,_=>by simp
 | s::r,a,b=>by
  simp only[List.map_cons,List.sum_cons];have:=Xl r a b;have:0<=kc a b s:=by unfold kc;omega
  omega
theorem alI{cl:z4'}{a b:Int}:lU cl a b<=b - a:=by
 unfold lU;rw[N'];have:=Xl cl a b;omega
theorem alJ{cl:z4'}{iW:Int}{l:List bk}{m:Int}(h:DZ cl iW l=some m):∃ i,∃ G:i+1<l.length,l[i].1.1=iW/\dS l[i].1=1/\m=lU cl l[i].2 l[i+1].2:=by
 unfold DZ at h;rw[Option.map_eq_some_iff]at h;obtain⟨p,hp,rfl⟩:=h;have h2:=List.find?_some hp;obtain⟨i,G,rfl⟩:=List.mem_iff_getElem.1 (List.mem_of_find?_eq_some hp);obtain⟨cZ,e⟩:=alE G;grind
theorem Xm{c:aR}(aA:gG c){w:z1'}(h2:pB c w){iW m:Int}(h:jM c w iW=some m):0<=m/\m<=11000:=by
 unfold jM at h;obtain⟨u,_,hu⟩:=List.exists_of_findSome?_eq_some h;obtain⟨i,G,_,_,rfl⟩:=alJ hu;have hp:=Xi aA h2 G;have ao:=alH aA.alG hp.2.2.1;have h3:=D0 aA h2 (AD (List.getElem_mem (by omega:i<(gH c w u).length)));have aT:=D0 aA h2 (AD (List.getElem_mem G));have bx:=@alI c.2.2.2.1 (gH c w u)[i].2 (gH c w u)[i+1].2;grind
def HH(c:aR)(w:z1')(alK:Int):Int:=(eW c).foldl (λn s=>if (dS s=1/\iG s=alK)/\(jM c w (ld s)).isSome=true then n+lg c.2.2.2.2 ((jM c w (ld s)).getD 0) else n) 0
def AE(c:aR)(iW:Int):Bool:=(eW c).any λs=>ld s == iW&&dS s == 1
def sB(c:aR)(w:z1'):Bool:=(List.range w.length).all λi=>bM (w.getD i 0) (c.1.getD i (0,0)).1 (c.1.getD i (0,0)).2
def iI(c:aR)(w:z1'):Bool:=decide (w.length=c.1.length)&&sB c w&&(dM 0 9).all λu=>ee (bP c w u)
theorem Xn{c:aR}(aA:gG c){w:z1'}(an:w.length=c.1.length)(h:sB c w=true):pB c w:=by
 refine⟨an,λn aB=>?_⟩;obtain⟨i,G,rfl⟩:=List.mem_iff_getElem.1 aB;unfold sB at h;rw[List.all_eq_true]at h;have h1:=h i (by grind);rw[sz G,sz (by omega:i<c.1.length),nT]at h1;have:=aA.clk _ (List.getElem_mem (by omega:i<c.1.length));omega
def kd:z4'->Nat
 | []=>1
 | s::r=>(s.2 - s.1+1).toNat*kd r
def mU(c:aR):z4'->z1'->List (z1')
 | [],w=>if iI c w=true then [w] else []
 | s::r,w=>(dM s.1 s.2).flatMap λn=>mU c r (w++[n])
theorem Oa{aq β:Type}(f:aq->List β)(k:Nat):∀ (l:List aq),(∀ x∈l,(f x).length<=k)->(l.flatMap f).length<=l.length*k
 | [],_=>by simp
 | x::l,h=>by
  simp only[List.flatMap_cons,List.length_append,List.length_cons];have:=Oa f k l λy aO=>h y (by grind);grind
theorem Ob(c:aR):∀ (r:z4') (w:z1'),(mU c r w).length<=kd r
 | [],w=>by unfold mU kd;grind
 | s::r,w=>by
  unfold mU kd;have:=Oa (λn=>mU c r (w++[n])) (kd r) (dM s.1 s.2) λn _=>Ob c r _;rw[xP]at this;omega
theorem Xo{aq β:Type}(f:aq->List β):∀ (l:List aq) (b:List β),l.foldl (λb x=>b++f x) b=b++l.flatMap f
 | [],b=>by simp
 | x::l,b=>by simp only[List.foldl_cons,List.flatMap_cons];rw[Xo f l,List.append_assoc]
abbrev cw(c:aR):List (z1'):=mU c c.1 []
def alL(c:aR):Prop:=b_ c=0->kd c.1<=60
def gx(c:aR):Prop:=akO c/\alL c
theorem gx.gQ{c:aR}(h:gx c):ij c:=by
 obtain⟨⟨h1,h2,h3,aT⟩,_⟩:=h;exact⟨by omega,by omega,by omega,by omega⟩
def et(c:aR)(b:Bool):List (z1')×Int:=if b_ c≠0 then ([],b_ c) else if b=false then ([],1) else if cw c=[] then ([],3) else (cw c,0)
theorem Oc(c:aR):∀ (r:z4') (w x:z1'),x∈mU c r w->iI c x=true
 | [],w,x,h=>by
  unfold mU at h;grind
 | s::r,w,x,h=>by
  unfold mU at h;rw[List.mem_flatMap]at h;obtain⟨n,_,aB⟩:=h;exact Oc c r _ x aB
theorem D1{c:aR}(h:b_ c=0){w:z1'}(hw:iI c w=true):pB c w:=by
 unfold iI at hw;simp only[Bool.and_eq_true,decide_eq_true_eq]at hw;exact Xn (oH h) hw.1.1 hw.1.2
theorem HI{c:aR}{w:z1'}(hw:iI c w=true){u:Int}(hu:0<=u/\u<=9):ee (bP c w u)=true:=by
 unfold iI at hw;simp only[Bool.and_eq_true,List.all_eq_true]at hw;exact hw.2 u (oz.2 hu)
theorem alM{c:aR}{b:Bool}{w:z1'}(h:w∈(et c b).1):b_ c=0/\w∈cw c/\iI c w=true/\pB c w:=by
 unfold et at h;split at h
 ·grind
 ·rename_i hc;have hc:b_ c=0:=by omega
  split at h
  ·grind
  ·split at h
   ·grind
   ·have:=Oc c _ _ _ h;exact⟨hc,h,this,D1 hc this⟩
def HJ:Option (Int×Int)->Int->Int×Int
 | none,n=>(n,n)
 | some s,n=>(min s.1 n,max s.2 n)
def x2(l:z1'):Option (Int×Int):=l.foldl (λo n=>some (HJ o n)) none
def ud(l:z1'):Int×Int:=(x2 l).getD (0,0)
theorem alN(a b c:Int):b8.sh (a,b,c)=M.pure (bM a b c):=rfl
def lh(c:aR)(iW:Int):z1'×Int:=if (et c (AE c iW)).2≠0 then ([],(et c (AE c iW)).2) else if (et c (AE c iW)).1.filterMap (λw=>jM c w iW)=[] then ([],3) else ((et c (AE c iW)).1.filterMap (λw=>jM c w iW),0)
def HK(c:aR)(n:Int):(Int×Int)×Int:=(ud (lh c n).1,(lh c n).2)
abbrev HL:aL:=⟨.ay jl tI,.ay mn tI,λx=>gx x.1,λx=>HK x.1 x.2⟩
def HM(c:aR)(n:Int):(Int×Int)×Int:=(ud ((lh c n).1.map λm=>lg c.2.2.2.2 m),(lh c n).2)
abbrev HN:aL:=⟨.ay jl tI,.ay mn tI,λx=>gx x.1,λx=>HM x.1 x.2⟩
def HO(c:aR)(g:Int):(Int×Int)×Int:=(ud ((et c (bM g 0 99)).1.map λw=>HH c w g),(et c (bM g 0 99)).2)
abbrev HP:aL:=⟨.ay jl tI,.ay mn tI,λx=>gx x.1,λx=>HO x.1 x.2⟩
def HQ(c:aR)(t:Int):(Int×Int)×Int:=(ud ((et c (bM t 0 9999)).1.map λw=>HG c w t*c.2.2.2.2.2.2.2.2.2.2),(et c (bM t 0 9999)).2)
abbrev HR:aL:=⟨.ay jl tI,.ay mn tI,λx=>gx x.1,λx=>HQ x.1 x.2⟩
def vH(u t:Int):Bool:=bM u 0 9&&bM t 0 9999
def Od(c:aR)(u t:Int):z1':=(et c (vH u t)).1.map λw=>(mT (gH c w u) t).1
def rp(c:aR)(u t:Int):z1'×Int:=((dM (-1) 99).filter λg=>(Od c u t).contains g,(et c (vH u t)).2)
abbrev HS:aL:=⟨.ay jl (.ay tI tI),.ay fI tI,λx=>gx x.1,λx=>rp x.1 x.2.1 x.2.2⟩
def D2(c:aR)(w:z1')(u t:Int):Bool:=decide ((mT (gH c w u) t).1>=0)&&decide (lU c.2.2.2.1 (mT (gH c w u) t).2 t>=c.2.2.2.2.2.2.2.2.1)
def oI(c:aR)(l:List (z1'))(u t:Int):Nat:=(l.filter λw=>D2 c w u t).length
def sC(c:aR)(t:Int):z1'×z1'×Int:=
 if (et c (bM t 0 9999)).2≠0 then ([],[],(et c (bM t 0 9999)).2)
 else ((dM 0 9).filter (λu=>decide (oI c (et c (bM t 0 9999)).1 u t=(et c (bM t 0 9999)).1.length)),(dM 0 9).filter (λu=>decide (oI c (et c (bM t 0 9999)).1 u t > 0)),0)
abbrev HT:aL:=⟨.ay jl tI,.ay fI (.ay fI tI),λx=>gx x.1,λx=>sC x.1 x.2⟩
theorem Oe:∀ (l:List bk) (t:Int) (b:Int×Int),(∀ e∈l,(0<=iG e.1))->(l.foldl (λb e=>if e.2<=t then (if dS e.1=2 then (-1,e.2) else (iG e.1,e.2)) else b) b=b\/∃ e∈l,e.2<=t/\l.foldl (λb e=>if e.2<=t then (if dS e.1=2 then (-1,e.2) else (iG e.1,e.2)) else b) b=(if dS e.1=2 then (-1,e.2) else (iG e.1,e.2)))
 | [],t,b,_=>.inl rfl
 | x::l,t,b,h=>by
  simp only[List.foldl_cons];by_cases hx:x.2<=t
  ·rw[if_pos hx];rcases Oe l t (if dS x.1=2 then (-1,x.2) else (iG x.1,x.2)) λe he=>h e (by grind) with h1 | ⟨e,he,h1,h2⟩
   ·exact .inr ⟨x,by simp,hx,h1⟩
   ·exact .inr ⟨e,by simp[he],h1,h2⟩
  ·rw[if_neg hx];rcases Oe l t b λe he=>h e (by grind) with h1 | ⟨e,he,h1,h2⟩
   ·exact .inl h1
   ·exact .inr ⟨e,by simp[he],h1,h2⟩
theorem alO{c:aR}(aA:gG c){w:z1'}(h2:pB c w){u t:Int}(aI:t<=9999)(h:(mT (gH c w u) t).1>=0):AB (c,(mT (gH c w u) t).2,t):=by
 rcases Oe (gH c w u) t (-1,0) (λe he=>((Az.1 (aA.AA (DY (AD he)).1)).2.2.2.2.1).1) with h1 | ⟨e,he,h1,h3⟩
 ·unfold mT at h;grind
 ·have:=D0 aA h2 (AD he);have e2:(mT (gH c w u) t).2=e.2:=by
   unfold mT;grind
  exact⟨aA.N_,by grind,by grind,show t<=11000 by omega⟩
abbrev kx(z:gW):aR:=(z.1,z.2.1,z.2.2.1,z.2.2.2.1,z.2.2.2.2.1,z.cI,z.fh,z.gv,z.ig,z.jJ,z.kO)
abbrev Of(z:gW):List aS:=z.hz
abbrev Xp(z:gW):List (Option dw):=z.mR
abbrev D3(c:aR)(l:List aS)(t:List (Option dw)):gW:=(c.1,c.2.1,c.2.2.1,c.2.2.2.1,c.2.2.2.2.1,c.2.2.2.2.2.1,c.2.2.2.2.2.2.1,c.2.2.2.2.2.2.2.1,c.2.2.2.2.2.2.2.2.1,c.2.2.2.2.2.2.2.2.2.1,c.2.2.2.2.2.2.2.2.2.2,l,t,())
def ue(l:List aS)(w:z1')(u:Int):List bk:=(l.filter λs=>decide (tX s=u)).map λs=>(s,xW s+w.getD (px s).toNat 0)
theorem alP{l:List aS}{w:z1'}{i:Nat}(h:i<l.length)(u:Int):ue (l.take (i+1)) w u=if l[i].2.2.2.2.1=u then ue (l.take i) w u++[(l[i],xW l[i]+w.getD (px l[i]).toNat 0)] else ue (l.take i) w u:=by
 unfold ue;rw[List.take_add_one,List.getElem?_eq_getElem h,Option.toList_some,List.filter_append,List.map_append];grind
theorem Xq(l:List aS)(w:z1')(u:Int):(ue l w u).length<=l.length:=by
 unfold ue;grind
abbrev mV(c:aR)(w:z1'):List (List bk):=[bP c w 0,bP c w 1,bP c w 2,bP c w 3,bP c w 4,bP c w 5,bP c w 6,bP c w 7,bP c w 8,bP c w 9]
def sD(c:aR)(w:z1'):Bool:=(dM 0 9).all λu=>ee (bP c w u)
theorem alQ(c:aR)(w:z1'):sD c w=(ee (bP c w 0)&&(ee (bP c w 1)&&(ee (bP c w 2)&&(ee (bP c w 3)&&(ee (bP c w 4)&&(ee (bP c w 5)&&(ee (bP c w 6)&&(ee (bP c w 7)&&(ee (bP c w 8)&&ee (bP c w 9)))))))))):=by
 unfold sD;rw[show dM 0 9=[0,1,2,3,4,5,6,7,8,9] from by decide];simp
abbrev alR(x:z1'×gW):Prop:=b_ (kx x.2)=0/\pB (kx x.2) x.1/\Of x.2=eW (kx x.2)
def uf(x:z1'×gW):M (Option dw×Bool×gW):=M.dx (alR x) (if sD (kx x.2) x.1=true then (some (x.1,mV (kx x.2) x.1),true,x.2) else (none,false,x.2))
theorem alS{τ aG:Type}{body:Int×Int×Int×τ->M (ab (Int×Int×Int×τ) aG)}(l:List bk){a n:Int}{z:τ}(bad sE:aG)
  (ad:∀ i,i<l.length->body (a,n,(i:Int),z)=M.pure (if (!qt l i)=true then .done bad else .next (a,n,((i+1:Nat):Int),z)))
  (he:body (a,n,(l.length:Int),z)=M.pure (.done sE)):M.loop body (a,n,0,z)=M.pure (if ee l=true then sE else bad):=by
 rw[M.dj (List.range l.length) (λi (_:Unit)=>(a,n,(i:Int),z)) (λi b=>if (!qt l i)=true then .done bad else .next b) (λ_=>sE) () ?_ ?_ ?_]
 ·rw[kL (q:=qt l) _ _ (λ_=>rfl)];rfl
 ·rfl
 ·intro i G b;have G:i<l.length:=by grind
  rw[ad i G,List.getElem_range];cases qt l i<;>rfl
 grind
theorem Xr{X:Type}{l:List bk}(an:l.length<=12){i:Nat}(G:i<l.length){k:Int}(aj:k=1+((i % 2:Nat):Int))(aK B:M X):NW l l[i] i k aK B=if (!qt l i)=true then aK else B:=by
 unfold NW;have zq:=als l i;rw[Bool.or_comm,sz G]at zq;have e1:(decide (l[i].1.2.2.2.1≠k)||decide ((i:Int) > 0)&&decide (l[i].2=(List.getD l (Int.toNat (IntKind.wrap .i64 ((i:Int) - 1))) ((0,0,0,0,0,0),0)).2))=!qt l i:=by
  rw[<-zq,aj];rcases Nat.eq_zero_or_pos i with h0 | h0
  ·simp_all
  ·rw[bn (n:=(i:Int) - 1) (by omega) (by omega),show ((i:Int) - 1).toNat=i - 1 from by omega]
 rw[e1];have bx:decide ((i:Int) > 0)=true->(0<=IntKind.wrap .i64 ((i:Int) - 1)/\IntKind.wrap .i64 ((i:Int) - 1)<Int.ofNat (List.length l)):=λh=>by
  have h:=of_decide_eq_true h;rw[bn (n:=(i:Int) - 1) (by omega) (by omega),bI];omega
 simp_all
theorem alT{l:List bk}(h:l.length<=12):Ar (lT.sh,l,())=M.pure (fi hN l,()):=M.bF ⟨h,rfl⟩ _
theorem alU{l:List aS}{w:z1'}{c:aR}(an:l.length<=12)(hs:∀ s∈l,lf c.1.length s=true)(hw:pB c w){i:Nat}(G:i<l.length):0<=l[i].2.2.2.2.1/\l[i].2.2.2.2.1<=9/\(0<=l[i].2.1/\l[i].2.1<(w.length:Int))/\IntKind.wrap .i64 (l[i].2.2.1+w.getD l[i].2.1.toNat 0)=l[i].2.2.1+w.getD l[i].2.1.toNat 0:=by
 have h:=Az.1 (hs _ (List.getElem_mem G));have h1:px l[i]<(w.length:Int):=by rw[hw.1];omega
 have h2:=hw.2 _ (xO (d:=0) h.2.1.1 h1);have h3:=h.2.2.1;have aT:=h.2.2.2.1;exact⟨aT.1,aT.2,⟨h.2.1.1,h1⟩,bn (by grind) (by grind)⟩
abbrev nU(f:Nat->List bk)(c:gW):lb:=(f 0,f 1,f 2,f 3,f 4,f 5,f 6,f 7,f 8,f 9,c)
theorem Og{f g:Nat->List bk}(h:∀ u,u<10->f u=g u)(c:gW):nU f c=nU g c:=by
 simp only[nU,h 0 (by decide),h 1 (by decide),h 2 (by decide),h 3 (by decide),h 4 (by decide),h 5 (by decide),h 6 (by decide),h 7 (by decide),h 8 (by decide),h 9 (by decide)]
theorem Oh(f:Nat->List bk)(c:gW):∀ k,k<10->mm k (nU f c)=f k
 | 0,_ | 1,_ | 2,_ | 3,_ | 4,_ | 5,_ | 6,_ | 7,_ | 8,_ | 9,_=>rfl
 | k+10,h=>by omega
theorem Xs(f:Nat->List bk)(c:gW)(v:List bk):∀ k,k<10->Hq k v (nU f c)=nU (λj=>if j=k then v else f j) c
 | 0,_ | 1,_ | 2,_ | 3,_ | 4,_ | 5,_ | 6,_ | 7,_ | 8,_ | 9,_=>rfl
 | k+10,h=>by omega
theorem Xt{X:Type}(f:Nat->M X){v:Int}{u:Nat}(h:v=(u:Int)):∀ {n:Nat},u<=n->Hs f v n=f u
 | 0,hu=>by
  obtain rfl:u=0:=by omega
  rfl
 | n+1,hu=>by
  unfold Hs;simp only[iE,bI,h];by_cases e:u=n+1
  ·rw[if_pos (by omega),e]
  ·rw[if_neg (by omega)];exact Xt f rfl (by omega)
theorem alV{c:aR}{w:z1'}(j7:∀ u,(bP c w u).length<=12){z:gW}{g:Nat->List bk}{k:Nat}(aj:k<10)(aA:g k=bP c w k) :
  M.loop (Hr k) (Int.ofNat k,Int.ofNat (List.length (bP c w k)),0,w,nU g z)=M.pure (if ee (bP c w k)=true then .next (Int.ofNat k,w,nU g z) else .done (.done (none,false,z))):=by
 have e1:mm k (nU g z)=bP c w k:=(Oh g z k aj).trans aA;refine alS (bP c w k) _ _ (λi G=>?_) ?_
 ·have hw:=bn (n:=(i:Int)+1) (by omega) (by have:=j7 k;omega);unfold Hr;simp only[bI,cG G,if_true,e1,cq G,c6 G,M.bg];rcases Nat.mod_two_eq_zero_or_one i with ao | ao
  ·have aw:decide (Int.tmod (i:Int) 2=1)=false:=by rw[Xc,ao];rfl
   simp only[aw,Bool.false_eq_true,if_false,M.EZ,M.aE,M.bL];rw[M.bp (by decide),e1];refine (Xr (j7 k) G (by rw[ao];rfl) _ _).trans ?_;simp only[b4,hw];cases qt (bP c w k) i<;>rfl
  ·have aw:decide (Int.tmod (i:Int) 2=1)=true:=by rw[Xc,ao];rfl
   simp only[aw,if_true,M.EZ,M.aE,M.bL];rw[M.bp (by decide),e1];refine (Xr (j7 k) G (by rw[ao];rfl) _ _).trans ?_;simp only[b4,hw];cases qt (bP c w k) i<;>rfl
 ·unfold Hr;simp
theorem Xu{c:aR}{w:z1'}(hlen:∀ u,(oG c w u).length<=12)(j7:∀ u,(bP c w u).length<=12){z:gW}:∀ n k,k+n=10->
  DQ Ar lT.sh n k (w,nU (λu=>if u<k then bP c w u else oG c w u) z)=M.pure (if ((List.range' k n).all λu=>ee (bP c w u))=true then .next (w,nU (λu=>bP c w u) z) else .done (none,false,z))
 | 0,k,h=>by
  unfold DQ;rw[Og (g:=λu=>bP c w u) λu hu=>if_pos (by omega)];rfl
 | n+1,k,h=>by
  have aj:k<10:=by omega
  have hs:Ar (lT.sh,oG c w k,())=M.pure (bP c w k,()):=alT (hlen k);have hw:=bn (n:=(k:Int)+1) (by omega) (by omega);have e2:Hq k (bP c w k) (nU (λu=>if u<k then bP c w u else oG c w u) z)=nU (λu=>if u<k+1 then bP c w u else oG c w u) z:=by
   rw[Xs _ _ _ _ aj];exact Og (λu hu=>by
    by_cases e:u=k
    ·subst e;simp
    ·by_cases e2:u<k
     ·simp[e,e2,show u<k+1 by omega]
     ·simp[e,e2,show ¬u<k+1 by omega]) _
  unfold DQ;dsimp only;rw[M.bp (by simp only[bI];omega),Oh _ _ _ aj,if_neg (Nat.lt_irrefl k),hs,M.aE];simp only[e2];rw[alV j7 aj (if_pos (Nat.lt_succ_self k)),M.aE,List.range'_succ,List.all_cons];cases ee (bP c w k) with
  | false=>rfl
  | true=>
   simp only[if_true,Bool.true_and,M.bL];rw[M.bp (by simp only[bI,b4,hw];omega)];exact Xu hlen j7 n (k+1) (by omega)
theorem Oi(x):M.le (WJ fcClone.sh Ar lT.sh x) (uf x):=M.bj λh=>by
 obtain⟨w,z⟩:=x;obtain⟨h1,h2,h3⟩:=h;change b_ (kx z)=0 at h1;change pB (kx z) w at h2;change z.hz=eW (kx z) at h3;show _=M.pure (if sD (kx z) w=true then (some (w,mV (kx z) w),true,z) else (none,false,z));generalize tH:kx z=c at *
 have aA:=oH h1;have an:=aA.N9;have oY:∀ s∈eW c,lf c.1.length s=true:=λs hs=>aA.AA hs;have aB:=aA.dA;have hlen:∀ u,(oG c w u).length<=12:=λu=>Nat.le_trans (Xq (eW c) w u) an;have j7:∀ u,(bP c w u).length<=12:=λu=>DX aA w u;have pC:∀ u,ue z.hz w u=oG c w u:=λu=>by rw[h3];rfl
 rw[<-h3]at an oY;clear h3;unfold WJ;rw[show fcClone.sh w=M.pure w from M.bF (show w.length<=3000000 by have:=h2.1;omega) _];simp only[M.aE,M.bL,M.bg];refine (congrArg (λm=>M.bind m _) (M.dj z.hz (λi (_:Unit)=>(w,z.hz,(z.hz.length:Int),(i:Int),w,nU (λu=>ue (z.hz.take i) w u) z)) (λ_ b=>.next b) (λ_=>.next (w,nU (λu=>oG c w u) z)) () ?_ ?_ ?_)).trans ?_
 ·simp only[bI,List.take_zero];rfl
 ·intro i G b;obtain⟨aP,aQ,bB,gf⟩:=alU (c:=c) an oY h2 G;have hw:=bn (n:=(i:Int)+1) (by omega) (by omega);have iw:∀ u,b2 (Add.add (ue (z.hz.take i) w u).length (Add.add 0 1)):=λu=>gF (by have:=Xq (z.hz.take i) w u;rw[List.length_take]at this;simp only[iE];omega);obtain⟨u,hu⟩:∃ u:Nat,z.hz[i].2.2.2.2.1=(u:Int):=⟨z.hz[i].2.2.2.2.1.toNat,by omega⟩
  have alW:u<=9:=by omega
  simp only[bI,cG G,if_true,c6 G,cq G,M.bg];rw[M.bp (show (0<=z.hz[i].2.2.2.2.1/\z.hz[i].2.2.2.2.1<((10:Nat):Int)) from⟨aP,by omega⟩),Xt _ hu alW];unfold WI;simp only[c6 G,bI,Oh _ _ u (show u<10 by omega),Xs _ _ _ u (show u<10 by omega)];rw[M.bp trivial,M.bp (by omega),M.bp bB,M.bp (iw _),M.bp trivial,M.bp (by omega),M.aE,M.bL];simp only[b4,hw,gf];refine congrArg (λq=>M.pure (ab.next (w,z.hz,(z.hz.length:Int),((i:Int)+1),w,q))) ?_;refine Og (λj aD=>?_) _;rw[alP G,hu];by_cases e:j=u
  ·subst e;rw[if_pos rfl,if_pos rfl,<-hu]
  ·rw[if_neg e,if_neg (by omega)]
 ·intro b;simp only[List.take_length,pC];simp
 ·rw[dZ,M.aE,M.bL];have e0:=Xu (c:=c) (w:=w) hlen j7 (z:=z) 10 0 rfl;rw[M.bp (by decide)];rw[show (λu:Nat=>if u<0 then bP c w u else oG c w u)=λu:Nat=>oG c w u from funext λu=>if_neg (Nat.not_lt_zero u)]at e0;rw[e0,M.aE];have e1:((List.range' 0 10).all λu=>ee (bP c w u))=sD c w:=by
   rw[alQ];simp[List.range']
  rw[e1];cases sD c w<;>rfl
abbrev ih(c:aR)(w:z1'):Option dw:=some (w,mV c w)
abbrev alX(f:Nat)(x:z1'×gW):Prop:=b_ (kx x.2)=0/\Of x.2=eW (kx x.2)/\x.1.length<=(kx x.2).1.length/\(kx x.2).1.length<x.1.length+f/\sB (kx x.2) x.1=true/\(Xp x.2).length+kd ((kx x.2).1.drop x.1.length)<=60
def x3(f:Nat)(x:z1'×gW):M gW:=M.dx (alX f x) (D3 (kx x.2) (Of x.2) (Xp x.2++(mU (kx x.2) ((kx x.2).1.drop x.1.length) x.1).map (ih (kx x.2))))
theorem alY(x):¬(x3 0 x).b1:=λh=>by have h1:=h.2.2.1;have h2:=h.2.2.2.1;omega
theorem alZ{c:aR}{w:z1'}{n:Int}:sB c (w++[n])=(sB c w&&bM n (c.1.getD w.length (0,0)).1 (c.1.getD w.length (0,0)).2):=by
 unfold sB;grind
theorem al0{c:aR}{w:z1'}(an:w.length=c.1.length)(h:sB c w=true):iI c w=sD c w:=by
 unfold iI sD;grind
set_option maxHeartbeats 1000000 in
theorem al1(f:Nat)(x):M.le (WL (x3 f) uf x) (x3 (f+1) x):=M.bj λh=>by
 obtain⟨w,a0,bR,a2,a3,a4,a5,fY,fZ,hP,a9,hh,l,t,u⟩:=x;obtain⟨h1,h2,h3,aT,bx,c_⟩:=h;change b_ (a0,bR,a2,a3,a4,a5,fY,fZ,hP,a9,hh)=0 at h1;change l=eW (a0,bR,a2,a3,a4,a5,fY,fZ,hP,a9,hh) at h2;change w.length<=a0.length at h3;change a0.length<w.length+(f+1) at aT;change sB (a0,bR,a2,a3,a4,a5,fY,fZ,hP,a9,hh) w=true at bx;change t.length+kd (a0.drop w.length)<=60 at c_;show _=M.pure (D3 (a0,bR,a2,a3,a4,a5,fY,fZ,hP,a9,hh) l (t++(mU (a0,bR,a2,a3,a4,a5,fY,fZ,hP,a9,hh) (a0.drop w.length) w).map (ih (a0,bR,a2,a3,a4,a5,fY,fZ,hP,a9,hh))));have aA:=oH h1;have aB:a0.length<=3:=aA.dA;unfold WL;simp only[Prod.cI,Prod.fh,Prod.gv,Prod.ig,Prod.jJ,Prod.kO,Prod.hz,Prod.mR,Prod.pw,Prod.so,Prod.xT,Prod.NG,Prod.NH,Prod.NI,Prod.NJ,bI,M.bg];by_cases an:w.length=a0.length
 ·rw[if_pos (by simp only[decide_eq_true_eq];omega)];have al2:pB (a0,bR,a2,a3,a4,a5,fY,fZ,hP,a9,hh) w:=Xn aA an bx;have ah:uf (w,a0,bR,a2,a3,a4,a5,fY,fZ,hP,a9,hh,l,t,())=M.pure (if sD (a0,bR,a2,a3,a4,a5,fY,fZ,hP,a9,hh) w=true then (ih (a0,bR,a2,a3,a4,a5,fY,fZ,hP,a9,hh) w,true,a0,bR,a2,a3,a4,a5,fY,fZ,hP,a9,hh,l,t,()) else (none,false,a0,bR,a2,a3,a4,a5,fY,fZ,hP,a9,hh,l,t,())):=M.bF ⟨h1,al2,h2⟩ _;rw[ah,M.aE,an,List.drop_length];unfold mU;rw[al0 an bx];cases aj:sD (a0,bR,a2,a3,a4,a5,fY,fZ,hP,a9,hh) w with
  | true=>
   rw[if_pos rfl,if_pos rfl,M.bp (gF (by simp only[iE];omega)),M.aE,M.bL];rfl
  | false=>
   simp only[Bool.false_eq_true,if_false,M.aE,M.bL,List.map_nil,List.append_nil]
 ·have bX:w.length<a0.length:=by omega
  rw[if_neg (by simp only[decide_eq_true_eq];omega),M.bp (show (0:Int)<=(w.length:Int)/\(w.length:Int)<(a0.length:Int) by omega)];rw[List.drop_eq_getElem_cons bX]at c_ ⊢;simp only[Int.toNat_natCast,sz bX];have hs:=aA.clk _ (List.getElem_mem bX);change -30<=a0[w.length].1/\a0[w.length].1<=a0[w.length].2/\a0[w.length].2<=30 at hs;have mW:a0.getD w.length (0,0)=a0[w.length]:=sz bX;generalize a0[w.length]=s at *
  unfold kd at c_;have D4:∀ n (ts:List (Option dw)),s.1<=n->n<=s.2->ts.length+kd (a0.drop (w.length+1))<=60->x3 f (w++[n],a0,bR,a2,a3,a4,a5,fY,fZ,hP,a9,hh,l,ts,())=M.pure (D3 (a0,bR,a2,a3,a4,a5,fY,fZ,hP,a9,hh) l (ts++(mU (a0,bR,a2,a3,a4,a5,fY,fZ,hP,a9,hh) (a0.drop (w.length+1)) (w++[n])).map (ih (a0,bR,a2,a3,a4,a5,fY,fZ,hP,a9,hh)))):=by
   intro n ts aP aQ bB;refine (M.bF ⟨h1,h2,?_,?_,?_,?_⟩ _).trans (congrArg M.pure ?_)
   ·show D3 (a0,bR,a2,a3,a4,a5,fY,fZ,hP,a9,hh) l (ts++(mU (a0,bR,a2,a3,a4,a5,fY,fZ,hP,a9,hh) (a0.drop (w++[n]).length) (w++[n])).map (ih (a0,bR,a2,a3,a4,a5,fY,fZ,hP,a9,hh)))=_;rw[List.length_append,List.length_singleton]
   ·show (w++[n]).length<=a0.length;simp;omega
   ·show a0.length<(w++[n]).length+f;simp;omega
   ·show sB (a0,bR,a2,a3,a4,a5,fY,fZ,hP,a9,hh) (w++[n])=true;rw[alZ,bx];show (true&&bM n (a0.getD w.length (0,0)).1 (a0.getD w.length (0,0)).2)=true;rw[mW,Bool.true_and];exact nT.2 ⟨aP,aQ⟩
   ·show ts.length+kd (a0.drop (w++[n]).length)<=60;rw[List.length_append,List.length_singleton];exact bB
  rw[M.gj (dM s.1 s.2) (λi (ts:List (Option dw))=>(w,(w.length:Int),s.1+(i:Int),a0,bR,a2,a3,a4,a5,fY,fZ,hP,a9,hh,l,ts,())) (λn ts=>.next (ts++(mU (a0,bR,a2,a3,a4,a5,fY,fZ,hP,a9,hh) (a0.drop (w.length+1)) (w++[n])).map (ih (a0,bR,a2,a3,a4,a5,fY,fZ,hP,a9,hh)))) (λts=>(a0,bR,a2,a3,a4,a5,fY,fZ,hP,a9,hh,l,ts,())) (λi ts=>ts.length<=t.length+i*kd (a0.drop (w.length+1))) t ?_ ?_ ?_ ?_]
  ·rw[dZ,Xo (f:=λn=>(mU (a0,bR,a2,a3,a4,a5,fY,fZ,hP,a9,hh) (a0.drop (w.length+1)) (w++[n])).map (ih (a0,bR,a2,a3,a4,a5,fY,fZ,hP,a9,hh)))];rw[<-List.map_flatMap];rfl
  ·rw[Int.natCast_zero,Int.add_zero]
  ·simp
  ·intro i G ts ah;rw[xP]at G;have hw:=bn (n:=s.1+(i:Int)+1) (by omega) (by omega);have aw:decide (s.1+(i:Int)<=s.2)=true:=by simpa using (by omega:s.1+(i:Int)<=s.2)
   have hle:=Ob (a0,bR,a2,a3,a4,a5,fY,fZ,hP,a9,hh) (a0.drop (w.length+1)) (w++[s.1+(i:Int)]);have al3:ts.length+kd (a0.drop (w.length+1))<=60:=by
    have:(i+1)*kd (a0.drop (w.length+1))<=(s.2 - s.1+1).toNat*kd (a0.drop (w.length+1)):=Nat.mul_le_mul_right _ (by omega);rw[Nat.succ_mul]at this;omega
   refine⟨?_,λa1 cQ=>?_⟩
   ·simp only[Int.toNat_natCast,mW,aw,if_true,b4,hw,Dy,List.take_length];rw[M.bp (by omega),M.bp ⟨by omega,by omega,trivial,by omega⟩,M.bp ⟨by simp only[iE];omega,gF (by simp only[iE];omega)⟩,D4 _ ts (by omega) (by omega) al3,M.aE];simp only[ab.gV];rw[show s.1+((i+1:Nat):Int)=s.1+(i:Int)+1 from by omega]
   ·simp only[ab.next.injEq,Dy]at cQ;subst cQ;rw[List.length_append,List.length_map,Nat.succ_mul];omega
  ·intro ts ah;rw[xP];have aw:decide (s.1+(((s.2 - s.1+1).toNat:Nat):Int)<=s.2)=false:=by simpa using (by omega:s.2<s.1+(((s.2 - s.1+1).toNat:Nat):Int))
   simp only[Int.toNat_natCast,mW,aw,Bool.false_eq_true,if_false,M.aE];rw[M.bp (by omega)]
abbrev ug:aR:=([],[],[],[],0,0,0,0,0,0,0)
abbrev AF:aL:=⟨.ay gX (.br jl),cU,λx=>∃ c:aR,x.2=some c/\c.2.2.1.length<2 ^ 63,λx=>(x.2.getD ug).2.2.1.contains (ld x.1)⟩
theorem Oj(x):M.le (Wl oF.sh x) (AF.sh x):=M.bj λh=>by
 obtain⟨s,o⟩:=x;obtain⟨c,hc,h⟩:=h;change o=some c at hc;subst hc;unfold Wl;simp only[Option.getD_some];rw[show oF.sh (c.2.2.1,s.1)=M.pure (c.2.2.1.contains s.1) from M.bF h _,M.aE]
abbrev uh(c:aR):dH:=(c,eW c,(cw c).map (ih c))
def D5(c:aR)(f:Option dH->M Bool):Bool:=(f (some (c,eW c,[]))).val false
def sF(c:aR)(b:Bool):Option dH×Int:=if b_ c≠0 then (none,b_ c) else if b=false then (none,1) else if cw c=[] then (none,3) else (some (uh c),0)
abbrev vI:aL:=⟨.ay jl (.fn (.br sr) .bool),.ay (.br sr) tI,λx=>gx x.1/\(b_ x.1=0->∃ b,x.2 (some (x.1,eW x.1,[]))=M.pure b),λx=>sF x.1 (D5 x.1 x.2)⟩
theorem al4{c:aR}(aA:gG c):HE ((λs=>AF.sh (s,some c)),db c.2.1,())=M.pure ((0,(eW c).length),eW c++List.replicate ((db c.2.1).length - (eW c).length) jn,()):=by
 have hv:∀ s,AF.sh (s,some c)=M.pure (c.2.2.1.contains s.1):=λs=>M.bF ⟨c,rfl,by have:=aA.iu;omega⟩ _;have e:((db c.2.1).filter λs=>!(AF.sh (s,some c)).val false)=eW c:=by
  unfold eW;simp_all
 have:=ald c.2.1;refine (M.bF ⟨show (db c.2.1).length<2 ^ 63 by omega,λs _=>⟨_,hv s⟩⟩ _).trans (congrArg M.pure ?_);grind
set_option maxHeartbeats 1000000 in
theorem al5(x):M.le (V2 hO.sh HC HE (x3 5) AF.sh x) (vI.sh x):=M.bj λh=>by
 obtain⟨c,f⟩:=x;obtain⟨h,au⟩:=h;change gx c at h;change b_ c=0->∃ b,f (some (c,eW c,[]))=M.pure b at au;unfold V2;show _=M.pure (sF c (D5 c f));unfold sF;rw[show hO.sh c=M.pure (b_ c) from M.bF h.gQ _];simp only[M.aE,decide_eq_true_eq];by_cases hc:b_ c=0
 ·simp only[hc,ne_eq,not_true_eq_false,if_false];have aA:=oH hc;obtain⟨b,ad⟩:=au hc;have h1:=aA.dA;have hid:=HD aA.iP;rw[show HC (c.2.1,())=M.pure (true,db c.2.1,()) from M.bF ⟨hid,(ua _).2 aA.qq⟩ _,M.aE];simp only[M.bg];rw[al4 aA,M.aE];have pA:List.drop 0 (List.take (eW c).length (eW c++List.replicate ((db c.2.1).length - (eW c).length) jn))=eW c:=by
   rw[List.drop_zero,List.take_left]
  simp only[pA];unfold D5;simp only[ad,M.fg,M.aE];cases b with
  | false=>simp
  | true=>
   simp only[Bool.not_true,Bool.false_eq_true,if_false,M.aE,M.bL,reduceCtorEq];simp only[Prod.cI,Prod.fh,Prod.gv,Prod.ig,Prod.jJ,Prod.kO,Prod.hz,Prod.mR,Prod.pw,Prod.so,Prod.xT,Prod.NG,Prod.NH,Prod.NI,Prod.NJ,pA];have mW:x3 5 ([],c.1,c.2.1,c.2.2.1,c.2.2.2.1,c.2.2.2.2.1,c.2.2.2.2.2.1,c.2.2.2.2.2.2.1,c.2.2.2.2.2.2.2.1,c.2.2.2.2.2.2.2.2.1,c.2.2.2.2.2.2.2.2.2.1,c.2.2.2.2.2.2.2.2.2.2,eW c,[],())=M.pure (D3 c (eW c) ((cw c).map (ih c))):=M.bF ⟨hc,rfl,Nat.zero_le _,show c.1.length<0+5 by omega,rfl,show 0+kd c.1<=60 by have:=h.2 hc;omega⟩ _;rw[mW,M.aE];simp only[bI,List.length_map];by_cases aI:cw c=[]
   ·simp[aI]
   ·have:¬((cw c).length:Int)=0:=λe=>aI (List.eq_nil_of_length_eq_zero (by omega));simp only[this,aI,if_false]
 ·simp only[hc,ne_eq,not_false_eq_true,if_true]
def vJ(l:List (Option dw))(f:Option dw->M (Int×Bool)):Option (Int×Int):=x2 (l.filterMap λt=>if ((f t).val (0,false)).2=true then some ((f t).val (0,false)).1 else none)
abbrev AG:aL:=⟨.ay (.br sr) (.fn (.br xU) (.ay tI .bool)),.ay mn .bool,λx=>∃ b:dH,x.1=some b/\b.2.2.length<=60/\∀ t∈b.2.2,∃ r,x.2 t=M.pure r,λx=>((vJ (x.1.getD (ug,[],[])).2.2 x.2).getD (0,0),(vJ (x.1.getD (ug,[],[])).2.2 x.2).isSome)⟩
theorem Xv{aq β f_:Type}(g:aq->Option β)(h:f_->β->f_):∀ (l:List aq) (b:f_),l.foldl (λb x=>(g x).elim b λy=>h b y) b=(l.filterMap g).foldl h b
 | [],b=>rfl
 | x::l,b=>by
  simp only[List.foldl_cons,List.filterMap_cons];rw[Xv g h l];grind
theorem al6(x):M.le (V' x) (AG.sh x):=M.bj λh=>by
 obtain⟨o,f⟩:=x;obtain⟨b,ad,an,au⟩:=h;change o=some b at ad;subst ad;unfold V';show _=M.pure ((vJ b.2.2 f).getD (0,0),(vJ b.2.2 f).isSome);simp only[Option.isSome_some,M.bg,Option.getD_some];change b.2.2.length<=60 at an;change ∀ t∈b.2.2,∃ r,f t=M.pure r at au;generalize b.2.2=l at *
 rw[M.dj l (λi (o:Option (Int×Int))=>(f,o.isSome,l,(l.length:Int),(i:Int),o.getD (0,0),())) (λt o=>.next ((if ((f t).val (0,false)).2=true then some ((f t).val (0,false)).1 else none).elim o λn=>some (HJ o n))) (λo=>.next (o.isSome,o.getD (0,0),())) none ?_ ?_ ?_]
 ·rw[dZ,Xv (λt=>if ((f t).val (0,false)).2=true then some ((f t).val (0,false)).1 else none) (λo n=>some (HJ o n)),M.aE];rfl
 ·rfl
 ·intro i G o;have hw:=bn (n:=(i:Int)+1) (by omega) (by omega);obtain⟨r,aa⟩:=au _ (List.getElem_mem G);simp only[Prod.cI,bI,cG G,if_true,c6 G,cq G,M.bg,b4,hw,aa,M.aE,M.fg,ab.gV];obtain⟨n,bU⟩:=r;cases bU with
  | false=>simp_all
  | true=>
   cases o with
   | none=>simp only[Bool.not_true,Bool.false_eq_true,if_false,if_true,Option.isSome_none,Bool.not_false,M.aE,M.bL,hw,Option.elim];rfl
   | some s=>
    simp only[Bool.not_true,Bool.false_eq_true,if_false,if_true,Option.isSome_some,M.aE,M.bL,hw,Option.elim,Option.getD_some];rw[Xf,alw];rfl
 simp
section
variable {aq:Type}
def Xw(x:Nat×List (Int×aq)×(Nat×(z1'->Prop)×z1'×Bool)×Unit):M ((Nat×(z1'->Prop)×z1'×Bool)×Unit):=
 M.bind (M.pure ()) λy=>M.loop (λ(A:Nat×(Nat×(z1'->Prop)×z1'×Bool)×(Option (Int×aq)×List (Int×aq))×Unit)=>
 M.bind (FZ A.2.2.1.2) λy=>if Option.isSome y=true then M.bind (M.ag (Option.isSome (nH A.2.2.1.1 A.2.2.1.2 y)=true) (M.pure ())) λbH
 =>M.bind (M.ag (A.1=A.2.1.1/\A.2.1.2.2.2=false/\∃ (T:z1'),A.2.1.2.1 (A.2.1.2.2.1++Option.getD (Option.map (λx=>x.1) (nH
 A.2.2.1.1 A.2.2.1.2 y)) 0::T)) (M.any λx=>True)) λdv=>if (!dv)=true then M.bind (M.pure ((A.2.1.1,A.2.1.2.1,A.2.1.2.2.1++
 [Option.getD (Option.map (λx=>x.1) (nH A.2.2.1.1 A.2.2.1.2 y)) 0],!dv),())) λr=>M.pure (ab.done r) else M.pure (ab.next (A.1,(A.2.1.1,A.2.1.2.1,A.2.1.2.2.1++[Option.getD (Option.map (λx=>x.1) (nH A.2.2.1.1 A.2.2.1.2 y)) 0],!dv),(nH A.2.2.1.1 A.2.2.1.2 y,CC A.2.2.1.2 y),())) else M.bind (M.pure (A.2.1,())) λr=>M.pure (ab.done r)) (x.1,x.2.2.1,(none,x.2.1),())
theorem Xx{β:Type}:∀ (l:List β) (i:Nat) (h:i<l.length),(l[i]::l.eraseIdx i).Perm l
 | x::l,0,_=>.refl _
 | x::l,i+1,h=>by
  simp only[List.getElem_cons_succ,List.eraseIdx_cons_succ];exact (List.Perm.swap x _ _).trans ((Xx l i (by grind)).cons x)
theorem Xy(l:Nat)(m:List (Int×aq)):M.ca (Xw (l,m,(l,jK (some m),[],false),())) λy=>y.1.2.2.2=false->jK (some m) y.1.2.2.1:=by
 unfold Xw;rw[M.aE];refine M.BC (λA=>∃ p c b5,A=(l,(l,jK (some m),p,false),(c,b5),())/\(m.map (·.1)).Perm (p++b5.map (·.1))) (λA=>A.2.2.1.2.length) ?_ _ ⟨[],none,m,rfl,.refl _⟩;rintro A ⟨p,c,b5,rfl,hp⟩;simp only;rw[M.fJ];refine⟨trivial,λy aO=>?_⟩;cases y with
 | none=>
  have aa:b5=[]:=aO;subst aa;simp only[Option.isSome_none,Bool.false_eq_true,if_false,M.aE];refine M.dI.2 λ_=>t_.2 (by grind)
 | some i=>
  have G:i<b5.length:=aO;have aB:nH c b5 (some i)=some b5[i]:=List.getElem?_eq_getElem G;have aa:CC b5 (some i)=b5.eraseIdx i:=rfl;have D6:(m.map (·.1)).Perm (p++b5[i].1::(b5.eraseIdx i).map (·.1)):=hp.trans (List.Perm.append_left p ((Xx b5 i G).symm.map (·.1)));simp only[Option.isSome_some,if_true,aB,aa,M.bg,M.aE,Option.map_some,Option.getD_some];rw[M.fJ,M.kD];refine⟨⟨trivial,trivial,(b5.eraseIdx i).map (·.1),t_.2 D6⟩,⟨true,trivial⟩,λb _=>?_⟩;cases b with
  | false=>
   simp only[Bool.not_false,if_true,M.aE];exact M.dI.2 λh=>by cases h
  | true=>
   simp only[Bool.not_true,Bool.false_eq_true,if_false];refine M.dI.2 ⟨⟨p++[b5[i].1],some b5[i],b5.eraseIdx i,rfl,by grind⟩,?_⟩;grind
end
theorem al7(l:Nat)(m:z4'):M.ca (NU (l,m,(l,jK (some m),[],false),())) λy=>y.1.2.2.2=false->jK (some m) y.1.2.2.1:=Xy l m
theorem al8(l:Nat)(m:List (Int×aS)):M.ca (NV (l,m,(l,jK (some m),[],false),())) λy=>y.1.2.2.2=false->jK (some m) y.1.2.2.1:=Xy l m
def cZ(cl:z4'):List bk->List bk
 | a::b::r=>(a.1,lU cl a.2 b.2)::cZ cl r
 | _=>[]
def D7(c:aR)(fE:List (List bk)):Prop:=fE.length=10/\∀ l∈fE,l.length<=12/\∀ i,(h:i+1<l.length)->AB (c,l[i].2,l[i+1].2)
def pD(c:aR)(fE:List (List bk)):List bk:=fE.flatMap (cZ c.2.2.2.1)
def sG(x:Option (Option dw)×Option (Option dH))(L:List bk):Prop:=∃ t b,x.1=some (some t)/\x.2=some (some b)/\D7 b.1 t.2/\L=pD b.1 t.2
theorem al9{cl:z4'}{l:List bk}{i:Nat}(h:i+1<l.length):cZ cl (l.drop i)=(l[i].1,lU cl l[i].2 l[i+1].2)::cZ cl (l.drop (i+2)):=by
 rw[List.drop_eq_getElem_cons (by omega:i<l.length),List.drop_eq_getElem_cons h];rfl
theorem al_{cl:z4'}{l:List bk}{i:Nat}(h:¬i+1<l.length):cZ cl (l.drop i)=[]:=by
 have:(l.drop i).length<=1:=by grind
 match h:l.drop i with
 | []=>rfl
 | [_]=>rfl
 | _::_::_=>grind
set_option maxHeartbeats 1000000 in
theorem al'(e5:Nat)(t:dw)(b:dH)(h:D7 b.1 t.2):M.ca (Hp vF.sh (e5,some t,some b,(e5,sG (some (some t),some (some b)),[],false),())) λy=>y.1.2.2.2=false->sG (some (some t),some (some b)) y.1.2.2.1:=by
 obtain⟨h1,h2⟩:=h;have GI:∀ L,sG (some (some t),some (some b)) L<->L=pD b.1 t.2:=λL=>⟨λ⟨cE,a1,e1,e2,_,e⟩=>by cases e1;cases e2;exact e,λe=>⟨t,b,rfl,rfl,⟨h1,h2⟩,e⟩⟩
 generalize sG (some (some t),some (some b))=S at *
 unfold Hp;simp only[Option.isSome_some,M.bg,Option.getD_some];refine M.BC (λA=>∃ (u:Nat),u<=10/\A=(e5,some b,t.2,(u:Int),(e5,S,(t.2.take u).flatMap (cZ b.1.2.2.2.1),false),())) (λA=>(10 - A.2.2.2.1).toNat) ?_ _ ⟨0,by omega,rfl⟩;rintro A ⟨u,hu,rfl⟩;by_cases LI:u<10
 ·have aw:decide ((u:Int)<10)=true:=by simpa using (by omega:(u:Int)<10)
  have sf:u<t.2.length:=by omega
  have ama:=bn (n:=(u:Int)+1) (by omega) (by omega);have ao:=List.getElem_mem sf;obtain⟨h3,aT⟩:=h2 _ ao;simp only[aw,if_true,c6 sf];rw[M.bp (show (0:Int)<=(u:Int)/\(u:Int)<Int.ofNat 10 by rw[bI];omega)];have eJ:pD b.1 t.2=(t.2.take u).flatMap (cZ b.1.2.2.2.1)++(cZ b.1.2.2.2.1 t.2[u]++(t.2.drop (u+1)).flatMap (cZ b.1.2.2.2.1)):=by
   unfold pD;conv=>lhs;rw[<-List.take_append_drop u t.2,List.drop_eq_getElem_cons sf]
   simp only[List.flatMap_append,List.flatMap_cons]
  generalize amb:t.2[u]=jN at *
  generalize (t.2.drop (u+1)).flatMap (cZ b.1.2.2.2.1)=R at *
  generalize jg:(t.2.take u).flatMap (cZ b.1.2.2.2.1)=P at *
  have amc:(t.2.take (u+1)).flatMap (cZ b.1.2.2.2.1)=P++cZ b.1.2.2.2.1 jN:=by
   rw[List.take_add_one,List.getElem?_eq_getElem sf,Option.toList_some,List.flatMap_append,jg,amb];simp
  rw[M.fJ];refine (M.BC (p:=λz=>match z with | .next z=>z=(e5,some b,t.2,(u:Int),(e5,S,P++cZ b.1.2.2.2.1 jN,false),()) | .done z=>(match z with | .next _=>False | .done y=>y.1.2.2.2=true)) (λA=>∃ (i:Nat) (Q:List bk),i<=jN.length+1/\Q++cZ b.1.2.2.2.1 (jN.drop i)=cZ b.1.2.2.2.1 jN/\A=(e5,some b,jN,(i:Int),t.2,(u:Int),(e5,S,P++Q,false),())) (λA=>(20 - A.2.2.2.1).toNat) ?_ _ ⟨0,[],by omega,by simp,by simp⟩).mono λz ba=>?_
  ·rintro A ⟨i,Q,od,tL,rfl⟩;have hw:=bn (n:=(i:Int)+1) (by omega) (by omega);have gD:=bn (n:=(i:Int)+2) (by omega) (by omega);by_cases G:i+1<jN.length
   ·have CM:i<jN.length:=by omega
    have aw:decide ((i:Int)+1<(jN.length:Int))=true:=by simpa using (by omega:(i:Int)+1<(jN.length:Int))
    have cr:(0:Int)<=(i:Int)+1/\(i:Int)+1<(jN.length:Int):=⟨by omega,by omega⟩
    have jm:jN.getD ((i:Int)+1).toNat ((0,0,0,0,0,0),0)=jN[i+1]:=by
     rw[show ((i:Int)+1).toNat=i+1 from by omega,sz G]
    have em:vF.sh (b.1,jN[i].2,jN[i+1].2)=M.pure (lU b.1.2.2.2.1 jN[i].2 jN[i+1].2):=M.bF (aT i G) _;simp only[Prod.cI,Prod.fh,bI,b4,hw,aw,if_true,c6 CM,cq CM,cr,jm,Option.isSome_some,Option.getD_some,em,M.ik,M.fg,and_self,M.bg,decide_true];rw[M.fJ,M.kD];have cB:=al9 (cl:=b.1.2.2.2.1) G;refine⟨⟨trivial,trivial,cZ b.1.2.2.2.1 (jN.drop (i+2))++R,(GI _).2 ?_⟩,⟨true,trivial⟩,λy _=>?_⟩
    ·rw[eJ,<-tL,cB];simp
    ·cases y with
     | false=>
      simp only[Bool.not_false,if_true,M.aE];exact M.dI.2 rfl
     | true=>
      simp only[Bool.not_true,Bool.false_eq_true,if_false,gD];refine M.dI.2 ⟨⟨i+2,Q++[(jN[i].1,lU b.1.2.2.2.1 jN[i].2 jN[i+1].2)],by omega,?_,?_⟩,?_⟩
      ·rw[<-tL,cB];simp
      ·rw[List.append_assoc];rfl
      ·show (20 - ((i:Int)+2)).toNat<(20 - (i:Int)).toNat;omega
   ·have aw:decide ((i:Int)+1<(jN.length:Int))=false:=by simpa using (by omega:(jN.length:Int)<=(i:Int)+1)
    simp only[bI,b4,hw,aw,Bool.false_eq_true,if_false,M.aE];refine M.dI.2 ?_;rw[al_ G,List.append_nil]at tL;show (e5,some b,t.2,(u:Int),(e5,S,P++Q,false),())=_;rw[tL]
  ·cases z with
   | next z=>
    have ba:z=_:=ba;subst ba;simp only[M.bL,b4,ama];refine M.dI.2 ⟨⟨u+1,by omega,?_⟩,?_⟩
    ·rw[amc];rfl
    ·show (10 - ((u:Int)+1)).toNat<(10 - (u:Int)).toNat;omega
   | done z=>
    cases z with
    | next z=>exact absurd ba id
    | done y=>
     have ba:y.1.2.2.2=true:=ba;simp only[M.pn];refine M.dI.2 λh=>?_;rw[ba]at h;cases h
 ·have M6:u=10:=by omega
  subst M6;simp only[show decide (((10:Nat):Int)<10)=false from by decide,Bool.false_eq_true,if_false,M.aE];refine M.dI.2 λ_=>(GI _).2 ?_;show (t.2.take 10).flatMap _=_;rw[<-h1,List.take_length];rfl
abbrev AH:aL:=⟨.ay (.br sr) (.br xU),.b9 (.ay gX tI),λ_=>True,λx=>sG (some x.2,some x.1)⟩
theorem amd(x):M.le (aka sG x) (AH.sh x):=M.bj λ_=>rfl
end Go.Fer.H
namespace Go.Fer.H
open M (ab)
theorem AI{aq β:Type}{f:aq->β}:∀ {l:List aq},(l.map f).Nodup->∀ {a b:aq},a∈l->b∈l->f a=f b->a=b
 | [],_,a,b,aU,_,_=>by grind
 | x::l,aB,a,b,aU,ad,e=>by
  rw[List.map_cons,List.nodup_cons]at aB;rcases List.mem_cons.1 aU with h1 | h1<;>rcases List.mem_cons.1 ad with h2 | h2
  ·grind
  ·grind
  ·grind
  ·exact AI aB.2 h1 h2 e
theorem ame{l m:z1'}(h:l.Perm m):l.sum=m.sum:=by
 induction h with
 | nil=>rfl
 | cons x _ aJ=>grind
 | swap x y l=>grind
 | trans _ _ h1 h2=>omega
theorem Ol{l:List bk}(h:ee l=true){i:Nat}(G:i<l.length):dS l[i].1=1+((i % 2:Nat):Int)/\(0<i->l[i].2≠(l.getD (i - 1) e0).2):=by
 unfold ee at h;rw[List.all_eq_true]at h;have:=h i (by grind);unfold qt at this;grind
theorem Xz(cl:z4'):∀ l:List bk,(∀ i,(h:i<l.length)->dS l[i].1=1+((i % 2:Nat):Int))->cZ cl l=((uc l).filter λp=>dS p.1.1 == 1).map λp=>(p.1.1,lU cl p.1.2 p.2.2)
 | [],_=>rfl
 | [_],_=>rfl
 | [a,b],h=>by
  have aU:dS a.1=1:=h 0 (by simp);simp[cZ,uc,aU]
 | a::b::c::r,h=>by
  have aU:dS a.1=1:=h 0 (by simp);have ad:dS b.1=2:=h 1 (by simp);have aJ:=Xz cl (c::r) λi G=>by
   have:=h (i+2) (by grind);grind
  have e:uc (a::b::c::r)=(a,b)::(b,c)::uc (c::r):=rfl;rw[e,List.filter_cons_of_pos (by grind),List.filter_cons_of_neg (by grind),List.map_cons,<-aJ];rfl
abbrev mX(c:aR)(w:z1'):List bk:=pD c (mV c w)
theorem HU(c:aR)(w:z1'):mX c w=(dM 0 9).flatMap λu=>cZ c.2.2.2.1 (bP c w u):=by
 rfl
theorem Om{c:aR}{w:z1'}(hw:iI c w=true){u:Int}(hu:0<=u/\u<=9):gH c w u=bP c w u:=by
 unfold gH;rw[if_pos (HI hw hu)]
theorem amf{cl:z4'}{l:List bk}(h:ee l=true)(iW:Int):DZ cl iW l=((cZ cl l).find? λp=>p.1.1 == iW).map (·.2):=by
 rw[Xz cl l λi G=>(Ol h G).1];unfold DZ;rw[List.find?_map,List.find?_filter,Option.map_map];refine congrArg _ (congrArg (λf=>(uc l).find? f) ?_);grind
theorem XA{aq β:Type}{f g:aq->Option β}:∀ {l:List aq},(∀ x∈l,f x=g x)->l.findSome? f=l.findSome? g
 | [],_=>rfl
 | x::l,h=>by
  rw[List.findSome?_cons,List.findSome?_cons,h x (by simp),XA λy aO=>h y (by grind)]
theorem On{c:aR}{w:z1'}(hw:iI c w=true)(iW:Int):jM c w iW=((mX c w).find? λp=>p.1.1 == iW).map (·.2):=by
 unfold jM;rw[HU,List.find?_flatMap,List.map_findSome?];refine XA λu hu=>?_;have hu:=oz.1 hu;rw[Om hw hu,amf (HI hw hu)];rfl
theorem XB{c:aR}(aA:gG c){w:z1'}(hw:iI c w=true):D7 c (mV c w):=by
 have h2:=D1 aA.ck hw;have key:∀ u:Int,0<=u/\u<=9->(bP c w u).length<=12/\∀ i,(h:i+1<(bP c w u).length)->AB (c,(bP c w u)[i].2,(bP c w u)[i+1].2):=by
  intro u hu;have:=Om hw hu;refine⟨DX aA w u,?_⟩;have k:=λi=>@Xi c aA w h2 u i;simp only[this]at k;exact k
 refine⟨rfl,λl an=>?_⟩;simp only[mV,List.mem_cons,List.not_mem_nil,or_false]at an;rcases an with rfl | rfl | rfl | rfl | rfl | rfl | rfl | rfl | rfl | rfl<;>exact key _ (by omega)
theorem XC{cl:z4'}:∀ {l:List bk} {p:bk},p∈cZ cl l->∃ i,∃ h:i+1<l.length,i % 2=0/\p=(l[i].1,lU cl l[i].2 l[i+1].2)
 | [],_,h=>by simp[cZ]at h
 | [_],_,h=>by simp[cZ]at h
 | a::b::r,p,h=>by
  unfold cZ at h;rcases List.mem_cons.1 h with rfl | h
  ·exact⟨0,by simp,rfl,rfl⟩
  ·obtain⟨i,G,h2,e⟩:=XC h;exact⟨i+2,by grind,by omega,e⟩
theorem XD(cl:z4'):∀ l:List bk,((cZ cl l).map (·.1)).Sublist (l.map (·.1))
 | []=>.slnil
 | [_]=>List.nil_sublist _
 | a::b::r=>by
  unfold cZ;simp only[List.map_cons];exact ((XD cl r).cons _).cons_cons _
theorem HV(l:List aS):((db l).map (·.1)).Nodup:=by
 unfold db;have key:∀ L:z1',L.Nodup->((L.filterMap λid=>l.find? λs=>s.1 == id).map (·.1)).Nodup/\∀ k∈(L.filterMap λid=>l.find? λs=>s.1 == id).map (·.1),k∈L:=by
  grind
 refine (key _ ?_).1;unfold dM;show List.Pairwise _ _;rw[List.pairwise_map];exact (List.pairwise_lt_range).imp λh=>by omega
theorem Oo(c:aR):((eW c).map (·.1)).Nodup:=by
 unfold eW;exact (HV c.2.1).sublist (List.filter_sublist.map _)
theorem Oq{c:aR}{a b:aS}(aU:a∈eW c)(ad:b∈eW c)(h:a.1=b.1):a=b:=by
 exact AI (Oo c) aU ad h
theorem Ot(c:aR)(w:z1')(u:Int):((bP c w u).map (·.1)).Perm ((eW c).filter λs=>decide (tX s=u)):=by
 unfold bP oG;refine ((DU hN _).map _).trans ?_;rw[List.map_map];exact List.Perm.of_eq (List.map_id' _)
theorem XE{c:aR}{w:z1'}{p:bk}(h:p∈mX c w):∃ u,0<=u/\u<=9/\∃ i,∃ G:i+1<(bP c w u).length,i % 2=0/\p=((bP c w u)[i].1,lU c.2.2.2.1 (bP c w u)[i].2 (bP c w u)[i+1].2):=by
 rw[HU,List.mem_flatMap]at h;obtain⟨u,hu,hp⟩:=h;obtain⟨i,G,h2,e⟩:=XC hp;exact⟨u,(oz.1 hu).1,(oz.1 hu).2,i,G,h2,e⟩
theorem AJ{c:aR}{w:z1'}{p:bk}(h:p∈mX c w):p.1∈eW c:=by
 obtain⟨u,_,_,i,G,_,rfl⟩:=XE h;exact (DY (List.getElem_mem (by omega:i<(bP c w u).length))).1
theorem amg{c:aR}{w:z1'}(hw:iI c w=true){p:bk}(h:p∈mX c w):dS p.1=1:=by
 obtain⟨u,h1,h2,i,G,h3,rfl⟩:=XE h;have:=(Ol (HI hw ⟨h1,h2⟩) (by omega:i<(bP c w u).length)).1;grind
theorem Ou(c:aR)(w:z1'):((mX c w).map (·.1)).Nodup:=by
 have hc:(eW c).Nodup:=by
  have:=Oo c;exact List.Pairwise.of_map _ (λa b h e=>h (by rw[e])) this
 have hu:∀ u,((cZ c.2.2.2.1 (bP c w u)).map (·.1)).Nodup/\∀ s∈(cZ c.2.2.2.1 (bP c w u)).map (·.1),tX s=u:=by
  intro u;have hs:=XD c.2.2.2.1 (bP c w u);have hp:=Ot c w u;grind
 rw[HU,List.map_flatMap];have key:∀ L:z1',L.Nodup->(L.flatMap λu=>(cZ c.2.2.2.1 (bP c w u)).map (·.1)).Nodup/\∀ s∈(L.flatMap λu=>(cZ c.2.2.2.1 (bP c w u)).map (·.1)),tX s∈L:=by
  grind
 refine (key _ ?_).1;unfold dM;show List.Pairwise _ _;rw[List.pairwise_map];exact (List.pairwise_lt_range).imp λh=>by omega
theorem XF{aq:Type}(x4:aq->Int):∀ (l:List aq) (n:Int),l.foldl (λn x=>n+x4 x) n=n+(l.map x4).sum
 | [],n=>by simp
 | x::l,n=>by simp only[List.foldl_cons,List.map_cons,List.sum_cons];rw[XF x4 l];omega
theorem amh{aq:Type}{f g:aq->Int}{l:List aq}(h:∀ x∈l,f x=g x):(l.map f).sum=(l.map g).sum:=by rw[List.map_congr_left h]
theorem ami{ψ:bk->Int}:∀ (C:List aS) (H:List bk),(C.map (·.1)).Nodup->(H.map (·.1)).Nodup->(∀ p∈H,p.1∈C)->(C.map λs=>(((H.find? λp=>p.1.1 == s.1).map ψ).getD 0)).sum=(H.map ψ).sum:=by
 intro C H jd mE qV;have e:(H.map ψ).sum=((C.filterMap λs=>H.find? λp=>p.1.1 == s.1).map ψ).sum:=by
  refine ame (List.Perm.map ψ ?_);have amj:H.Nodup:=List.Pairwise.of_map _ (λa b h e=>h (by rw[e])) mE;refine (List.perm_ext_iff_of_nodup amj ?_).2 λp=>?_
  ·have:∀ C:List aS,(C.map (·.1)).Nodup->(C.filterMap λs=>H.find? λp=>p.1.1 == s.1).Nodup/\∀ q∈(C.filterMap λs=>H.find? λp=>p.1.1 == s.1),q.1.1∈C.map (·.1):=by
    grind
   grind
  ·rw[List.mem_filterMap];constructor
   ·intro hp;refine⟨p.1,qV p hp,?_⟩;have hex:(H.find? λq=>q.1.1 == p.1.1).isSome=true:=List.find?_isSome.2 ⟨p,hp,by simp⟩;obtain⟨q,bf⟩:=Option.isSome_iff_exists.1 hex;have D8:q.1.1=p.1.1:=by grind
    have vK:=List.mem_of_find?_eq_some bf;have amk:q.1=p.1:=AI jd (qV q vK) (qV p hp) D8;have:q=p:=AI mE vK hp amk;grind
   grind
 rw[e];have:∀ C:List aS,(C.map λs=>(((H.find? λp=>p.1.1 == s.1).map ψ).getD 0)).sum=((C.filterMap λs=>H.find? λp=>p.1.1 == s.1).map ψ).sum:=by
  intro C;induction C with
  | nil=>rfl
  | cons s C aJ=>
   grind
 grind
def ui(c:aR)(g:Int)(p:bk):Int:=if iG p.1=g then lg c.2.2.2.2 p.2 else 0
theorem aml{c:aR}{w:z1'}(hw:iI c w=true)(g:Int):HH c w g=((mX c w).map (ui c g)).sum:=by
 rw[<-ami (ψ:=ui c g) (eW c) (mX c w) (Oo c) (Ou c w) λp hp=>AJ hp];unfold HH;have e:(λ(n:Int) (s:aS)=>if (dS s=1/\iG s=g)/\(jM c w (ld s)).isSome=true then n+lg c.2.2.2.2 ((jM c w (ld s)).getD 0) else n)=λn s=>n+(if (dS s=1/\iG s=g)/\(jM c w (ld s)).isSome=true then lg c.2.2.2.2 ((jM c w (ld s)).getD 0) else 0):=by
  grind
 rw[e,XF,Int.zero_add];refine amh λs hs=>?_;rw[On hw];cases au:(mX c w).find? λp=>p.1.1 == ld s with
 | none=>simp
 | some p=>
  have hp:=List.mem_of_find?_eq_some au;have h1:p.1.1=s.1:=by grind
  have h2:p.1=s:=Oq (AJ hp) hs h1;have h3:=amg hw hp;rw[h2]at h3;simp only[Option.map_some,Option.getD_some,Option.isSome_some,and_true,h3,true_and,ui,h2]
theorem AK(c:aR)(b:Bool):((et c b).2≠0/\(et c b).1=[]/\sF c b=(none,(et c b).2))\/(et c b=(cw c,0)/\b_ c=0/\b=true/\sF c b=(some (uh c),0)):=by
 unfold et sF;by_cases hc:b_ c=0
 ·cases b with
  | false=>left;simp[hc]
  | true=>
   by_cases aI:cw c=[]
   ·left;simp[hc,aI]
   ·right;simp[hc,aI]
 ·left;simp[hc]
theorem Ov{aq β:Type}{f g:aq->Option β}:∀ {l:List aq},(∀ x∈l,f x=g x)->l.filterMap f=l.filterMap g
 | [],_=>rfl
 | x::l,h=>by
  rw[List.filterMap_cons,List.filterMap_cons,h x (by simp),Ov λy aO=>h y (by simp[aO])]
theorem XG:ud []=(0,0):=rfl
theorem amm{aq:Type}(L:List aq)(P:aq->Option dw)(f:Option dw->M (Int×Bool))(v:aq->Int×Bool)(h:∀ w∈L,f (P w)=M.pure (v w)):vJ (L.map P) f=x2 (L.filterMap λw=>if (v w).2=true then some (v w).1 else none):=by
 unfold vJ;rw[List.filterMap_map];refine congrArg x2 (Ov λw hw=>?_);simp only[Function.comp,h w hw,M.fg]
theorem XH{aq:Type}(x4:aq->Int)(L:List aq):(L.filterMap λw=>if ((x4 w,true):Int×Bool).2=true then some ((x4 w,true):Int×Bool).1 else none)=L.map x4:=by
 simp only[if_true];rw[<-List.filterMap_eq_map']
theorem Ow{c:aR}(an:(cw c).length<=60){f:Option dw->M (Int×Bool)}{v:z1'->Int×Bool}(h:∀ w∈cw c,f (ih c w)=M.pure (v w)):AG.sh (some (uh c),f)=M.pure ((x2 ((cw c).filterMap λw=>if (v w).2=true then some (v w).1 else none)).getD (0,0),(x2 ((cw c).filterMap λw=>if (v w).2=true then some (v w).1 else none)).isSome):=by
 refine (M.bF ⟨uh c,rfl,show ((cw c).map (ih c)).length<=60 by simpa using an,λt aI=>?_⟩ _).trans (congrArg M.pure ?_)
 ·show ((vJ ((cw c).map (ih c)) f).getD (0,0),(vJ ((cw c).map (ih c)) f).isSome)=_;rw[amm _ _ f v h]
 ·obtain⟨w,hw,rfl⟩:=List.mem_map.1 aI;exact⟨_,h w hw⟩
theorem amn:∀ {l:z1'},(x2 l).isSome=!l.isEmpty:=by
 intro l;have key:∀ (l:z1') (o:Option (Int×Int)),o.isSome=true->(l.foldl (λo n=>some (HJ o n)) o).isSome=true:=by
  intro l;induction l with
  | nil=>intro o h;exact h
  | cons n l aJ=>intro o _;exact aJ _ rfl
 cases l with
 | nil=>rfl
 | cons n l=>exact key l _ rfl
theorem D9{c:aR}{f:Option dH->M Bool}{b:Bool}(h:gx c)(au:b_ c=0->f (some (c,eW c,[]))=M.pure b):vI.sh (c,f)=M.pure (sF c b):=by
 refine (M.bF ⟨h,λhc=>⟨b,au hc⟩⟩ _).trans (congrArg M.pure ?_);show sF c (D5 c f)=sF c b;unfold sF D5;by_cases hc:b_ c=0
 ·rw[au hc,M.fg]
 ·simp[hc]
theorem D_{c:aR}(h:gx c)(hc:b_ c=0):(cw c).length<=60:=Nat.le_trans (Ob c _ _) (h.2 hc)
theorem vL{c:aR}{w:z1'}(h:w∈cw c):iI c w=true:=Oc c _ _ _ h
abbrev AL:aL:=⟨.ay gX (.br tI),cU,λx=>∃ k:Int,x.2=some k/\True,λx=>decide (ld x.1=x.2.getD 0)&&decide (dS x.1=1)⟩
theorem amo(x):M.le (akk x) (AL.sh x):=M.bj λ_=>rfl
abbrev Ox:aL:=⟨.ay (.br sr) (.br tI),cU,λx=>∃ (b:dH) (k:Int),x.2=some k/\x.1=some b/\b.2.1.length<2 ^ 63,λx=>(x.1.getD (ug,[],[])).2.1.any λs=>ld s == x.2.getD 0&&dS s == 1⟩
theorem amp(x):M.le (Wm (iU gX).sh AL.sh x) (Ox.sh x):=M.bj λh=>by
 obtain⟨o,k⟩:=x;obtain⟨b,_,_,ad,h⟩:=h;change o=some b at ad;subst ad;unfold Wm;simp only[Option.isSome_some,M.bg,Option.getD_some];have hv:∀ s,AL.sh (s,some (k.getD 0))=M.pure (decide (ld s=k.getD 0)&&decide (dS s=1)):=λs=>M.bF ⟨_,rfl,trivial⟩ _;rw[show (iU gX).sh (b.2.1,λs=>AL.sh (s,some (k.getD 0)))=M.pure (b.2.1.any λs=>(AL.sh (s,some (k.getD 0))).val false) from M.bF ⟨h,λs _=>⟨_,hv s⟩⟩ _,M.aE];refine congrArg M.pure ?_;show _=b.2.1.any λs=>ld s == k.getD 0&&dS s == 1;refine congrArg (λp=>b.2.1.any p) ?_;funext s;rw[hv,M.fg];rw[Bool.eq_iff_iff];simp
theorem XI{f:Int->M Int}{n:Int}:∀ (L:List bk),(∀ p∈L,p.1.1=n->∃ v,f p.2=M.pure v)->
  jE (λ(A:Int×(Int->M Int)×Int×Bool×Unit) (y:aS×Int)=>M.bind (if decide (y.1.1=A.1)=true then M.bind (A.2.1 y.2) λy=>M.pure (cT.ret,y,true,()) else M.pure
 (cT.normal,A.2.2.1,A.2.2.2.1,())) λp=>M.pure (p.1,A.1,A.2.1,p.2.1,p.2.2.1,())) L (n,f,0,false,())=(L.find? λp=>p.1.1 == n).elim (M.pure (cT.normal,n,f,0,false,())) λp=>M.pure (cT.ret,n,f,(f p.2).val 0,true,())
 | [],_=>rfl
 | p::L,h=>by
  unfold jE;by_cases hp:p.1.1=n
  ·obtain⟨v,hv⟩:=h p (by simp) hp;simp[hp,hv]
  ·have aJ:=XI L λq bf=>h q (by simp[bf]);simp only[hp,decide_false,Bool.false_eq_true,if_false,M.aE];rw[aJ,List.find?_cons_of_neg (by simpa using hp)]
abbrev Oy:aL:=⟨.ay (.br xU) (.ay (.br (.br sr)) (.ay (.br tI) (.br (.fn tI tI)))),.ay tI .bool,λx=>∃ (t:dw) (b:dH) (n:Int) (f:Int->M Int),x=(some t,some (some b),some n,some f)/\D7 b.1 t.2/\∀ p∈pD b.1 t.2,p.1.1=n->∃ v,f p.2=M.pure v,λx=>((pD ((x.2.1.getD none).getD (ug,[],[])).1 (x.1.getD ([],[])).2).find? λp=>p.1.1 == x.2.2.1.getD 0).elim (0,false) λp=>(((x.2.2.2.getD λ_=>M.fail) p.2).val 0,true)⟩
theorem amq(x):M.le (Wn AH.sh x) (Oy.sh x):=M.sk λh=>by
 obtain⟨t,b,n,f,rfl,h1,h2⟩:=h;unfold Wn;simp only[Option.getD_some];rw[show AH.sh (some b,some t)=M.pure (sG (some (some t),some (some b))) from rfl,M.aE,M.fJ];refine⟨⟨_,t,b,rfl,rfl,h1,rfl⟩,λL gh=>?_⟩;obtain⟨cE,a1,e1,e2,_,rfl⟩:=gh;cases e1;cases e2;rw[XI (f:=f) (n:=n) _ h2];show M.ca _ λy=>y=((pD b.1 t.2).find? λp=>p.1.1 == n).elim (0,false) λp=>((f p.2).val 0,true)
 cases (pD b.1 t.2).find? λp=>p.1.1 == n with
 | none=>simp only[Option.elim,M.aE,r6];exact M.dI.2 rfl
 | some p=>simp only[Option.elim,M.aE,r6];exact M.dI.2 rfl
abbrev AM:aL:=⟨.ay jl (.ay tI (.fn tI tI)),.ay mn tI,λx=>gx x.1/\∀ w∈cw x.1,∀ m,b_ x.1=0->jM x.1 w x.2.1=some m->∃ v,x.2.2 m=M.pure v,λx=>(ud ((lh x.1 x.2.1).1.map λm=>(x.2.2 m).val 0),(lh x.1 x.2.1).2)⟩
theorem amr(x):M.le (V7 vI.sh AG.sh Ox.sh Oy.sh x) (AM.sh x):=M.bj λh=>by
 obtain⟨c,n,f⟩:=x;obtain⟨h,au⟩:=h;change gx c at h;change ∀ w∈cw c,∀ m,b_ c=0->jM c w n=some m->∃ v,f m=M.pure v at au;unfold V7;show _=M.pure (ud ((lh c n).1.map λm=>(f m).val 0),(lh c n).2);unfold lh;rw[D9 (b:=AE c n) h λhc=>M.bF ⟨(c,eW c,[]),n,rfl,rfl,by have:=(oH hc).N9;show (eW c).length<2 ^ 63;omega⟩ _];rcases AK c (AE c n) with⟨h1,h2,h3⟩ | ⟨h1,h2,h3,aT⟩
 ·rw[h3];simp only[M.aE];rw[if_pos (by simpa using h1),if_pos h1];rfl
 ·rw[h1,aT];simp only[M.aE];rw[if_neg (by simp)];have aA:=oH h2;rw[Ow (v:=λw=>(jM c w n).elim (0,false) λm=>((f m).val 0,true)) (D_ h h2) λw hw=>?_,M.aE]
  ·have e:((cw c).filterMap λw=>if ((jM c w n).elim ((0,false):Int×Bool) λm=>((f m).val 0,true)).2=true then some ((jM c w n).elim ((0,false):Int×Bool) λm=>((f m).val 0,true)).1 else none)=((cw c).filterMap λw=>jM c w n).map λm=>(f m).val 0:=by
    rw[List.map_filterMap];refine Ov λw _=>?_;cases jM c w n<;>rfl
   rw[e,amn];generalize (cw c).filterMap (λw=>jM c w n)=l;cases l with
   | nil=>rfl
   | cons m l=>simp;rfl
  ·have aI:=vL hw;have u2:=On aI n;refine (M.bF ⟨(w,mV c w),uh c,n,f,rfl,XB aA aI,λp hp XJ=>?_⟩ _).trans (congrArg M.pure ?_)
   ·show ((mX c w).find? λp=>p.1.1 == n).elim (0,false) (λp=>((f p.2).val 0,true))=_;rw[u2];cases (mX c w).find? λp=>p.1.1 == n<;>rfl
   ·refine au w hw p.2 h2 ?_;rw[u2];have hex:((mX c w).find? λq=>q.1.1 == n).isSome=true:=List.find?_isSome.2 ⟨p,hp,by simpa using XJ⟩;obtain⟨q,bf⟩:=Option.isSome_iff_exists.1 hex;have D8:q.1.1=n:=by have:=List.find?_some bf;simpa using this
    have vK:=List.mem_of_find?_eq_some bf;have hs:q.1=p.1:=Oq (AJ vK) (AJ hp) (D8.trans XJ.symm);have:q=p:=AI (Ou c w) vK hp hs;rw[bf,this];rfl
abbrev x5:aL:=⟨tI,tI,λ_=>True,λx=>x⟩
theorem ams(x):M.le (aj' x) (x5.sh x):=M.bj λ_=>rfl
theorem amt(x):M.le (VV AM.sh x5.sh x) (HL.sh x):=M.bj λh=>by
 obtain⟨c,n⟩:=x;change gx c at h;unfold VV;rw[show AM.sh (c,n,x5.sh)=M.pure (ud ((lh c n).1.map λm=>(x5.sh m).val 0),(lh c n).2) from M.bF ⟨h,λ_ _ m _ _=>⟨m,rfl⟩⟩ _];simp only[M.aE];show _=M.pure (HK c n);unfold HK;have:((lh c n).1.map λm=>(x5.sh m).val 0)=(lh c n).1:=by
  have:(λm:Int=>(x5.sh m).val 0)=λm=>m:=by
   funext m;exact M.fg
  rw[this,List.map_id']
 rw[this]
abbrev x6:aL:=⟨.ay tI (.br jl),tI,λx=>∃ c:aR,x.2=some c/\x1 (c.2.2.2.2,x.1),λx=>lg (x.2.getD ug).2.2.2.2 x.1⟩
theorem amu(x):M.le (V8 vG.sh x) (x6.sh x):=M.bj λh=>by
 obtain⟨m,q⟩:=x;obtain⟨c,hc,h⟩:=h;change q=some c at hc;subst hc;unfold V8;simp only[Option.getD_some];rw[show vG.sh (c.2.2.2.2,m)=M.pure (lg c.2.2.2.2 m) from M.bF h _,M.aE]
theorem XK{c:aR}(aA:gG c){w:z1'}(hw:iI c w=true){n m:Int}(ao:jM c w n=some m):x6.sh (m,some c)=M.pure (lg c.2.2.2.2 m):=by
 have:=Xm aA (D1 aA.ck hw) ao;exact M.bF ⟨c,rfl,aA.N8,show -100000<=m by omega,show m<=20000 by omega⟩ _
theorem amv{c:aR}{n m:Int}(ao:m∈(lh c n).1):b_ c=0/\∃ w,iI c w=true/\w∈cw c/\jM c w n=some m:=by
 unfold lh at ao;split at ao
 ·simp at ao
 ·split at ao
  ·simp at ao
  ·rw[List.mem_filterMap]at ao;obtain⟨w,hw,he⟩:=ao;obtain⟨h1,h2,h3,_⟩:=alM hw;exact⟨h1,w,h3,h2,he⟩
theorem amw(x):M.le (VU AM.sh x6.sh x) (HN.sh x):=M.bj λh=>by
 obtain⟨c,n⟩:=x;change gx c at h;unfold VU;rw[show AM.sh (c,n,λm=>x6.sh (m,some c))=M.pure (ud ((lh c n).1.map λm=>(x6.sh (m,some c)).val 0),(lh c n).2) from M.bF ⟨h,λw hw m hc ao=>⟨_,XK (oH hc) (vL hw) ao⟩⟩ _];simp only[M.aE];show _=M.pure (HM c n);unfold HM;have:((lh c n).1.map λm=>(x6.sh (m,some c)).val 0)=(lh c n).1.map λm=>lg c.2.2.2.2 m:=by
  refine List.map_congr_left λm ao=>?_;obtain⟨hc,w,hw,_,he⟩:=amv ao;rw[XK (oH hc) hw he,M.fg]
 rw[this]
abbrev Oz:aL:=⟨.ay (.br sr) (.br tI),cU,λx=>∃ k:Int,x.2=some k/\True,λx=>bM (x.2.getD 0) 0 99⟩
theorem amx(x):M.le (Wb vv.sh x) (Oz.sh x):=M.bj λ_=>by
 unfold Wb;rw[show vv.sh (x.2.getD 0)=M.pure (bM (x.2.getD 0) 0 99) from rfl,M.aE]
abbrev OA:aL:=⟨.ay (.br xU) (.ay (.br (.br sr)) (.ay (.br tI) (.br jl))),.ay tI .bool,λx=>∃ (t:dw) (b:dH) (n:Int) (c:aR),x=(some t,some (some b),some n,some c)/\D7 b.1 t.2/\(pD b.1 t.2).length<=1000/\∀ p∈pD b.1 t.2,x1 (c.2.2.2.2,p.2),λx=>(((pD ((x.2.1.getD none).getD (ug,[],[])).1 (x.1.getD ([],[])).2).map (ui (x.2.2.2.getD ug) (x.2.2.1.getD 0))).sum,true)⟩
theorem OB{c:aR}{n:Int}:∀ (L:List bk) (a:Int),(∀ p∈L,x1 (c.2.2.2.2,p.2))->0<=a->a+100000*(L.length:Int)<=1000000000->
  jE (λ(A:Int×aR×Int×Unit) (y:aS×Int)=>M.bind (if decide (y.1.2.2.2.2.2=A.1)=true then M.ag (vG.sh (A.2.1.2.2.2.2,y.2)).b1 (M.pure (cT.normal,IntKind.wrap
 .i64 (Add.add A.2.2.1 (M.val (vG.sh (A.2.1.2.2.2.2,y.2)) 0)),())) else M.pure (cT.normal,A.2.2.1,())) λp=>M.pure (p.1,A.1,A.2.1,p.2.1,())) L (n,c,a,())=M.pure (cT.normal,n,c,a+(L.map (ui c n)).sum,())
 | [],a,_,_,_=>by simp[jE]
 | p::L,a,h,h0,h1=>by
  unfold jE;simp only[List.length_cons]at h1;by_cases hp:p.1.2.2.2.2.2=n
  ·have ad:=alz (h p (by simp));have hv:vG.sh (c.2.2.2.2,p.2)=M.pure (lg c.2.2.2.2 p.2):=M.bF (h p (by simp)) _;have hw:=bn (n:=a+lg c.2.2.2.2 p.2) (by omega) (by omega);have aJ:=OB (c:=c) (n:=n) L (a+lg c.2.2.2.2 p.2) (λq bf=>h q (by simp[bf])) (by omega) (by omega);simp only[hp,decide_true,if_true,hv,M.ik,M.fg,M.bg,b4,hw,M.aE];simp only[b4]at aJ;rw[aJ,List.map_cons,List.sum_cons];rw[show ui c n p=lg c.2.2.2.2 p.2 from if_pos hp];rw[Int.add_assoc]
  ·have aJ:=OB (c:=c) (n:=n) L a (λq bf=>h q (by simp[bf])) h0 (by omega);simp only[hp,decide_false,Bool.false_eq_true,if_false,M.aE];rw[aJ,List.map_cons,List.sum_cons];rw[show ui c n p=0 from if_neg hp,Int.zero_add]
theorem amy(x):M.le (Wd vG.sh AH.sh x) (OA.sh x):=M.sk λh=>by
 obtain⟨t,b,n,c,rfl,h1,h2,h3⟩:=h;unfold Wd;simp only[Option.getD_some];rw[show AH.sh (some b,some t)=M.pure (sG (some (some t),some (some b))) from rfl,M.aE,M.fJ];refine⟨⟨_,t,b,rfl,rfl,h1,rfl⟩,λL gh=>?_⟩;obtain⟨cE,a1,e1,e2,_,rfl⟩:=gh;cases e1;cases e2;rw[OB _ 0 h3 (by omega) (by omega)];show M.ca _ λy=>y=(((pD b.1 t.2).map (ui c n)).sum,true)
 simp only[M.aE,r6,Int.zero_add];exact M.dI.2 rfl
theorem XL(cl:z4'):∀ l:List bk,(cZ cl l).length<=l.length
 | []=>by simp[cZ]
 | [_]=>by simp[cZ]
 | a::b::r=>by unfold cZ;simp only[List.length_cons];have:=XL cl r;omega
theorem amz{c:aR}(aA:gG c)(w:z1'):(mX c w).length<=1000:=by
 rw[HU];have:=Oa (λu=>cZ c.2.2.2.1 (bP c w u)) 12 (dM 0 9) λu _=>Nat.le_trans (XL _ _) (DX aA w u);rw[show (dM 0 9).length=10 from by decide]at this;omega
theorem amA{c:aR}(aA:gG c){w:z1'}(hw:iI c w=true){p:bk}(hp:p∈mX c w):x1 (c.2.2.2.2,p.2):=by
 have hex:((mX c w).find? λq=>q.1.1 == p.1.1).isSome=true:=List.find?_isSome.2 ⟨p,hp,by simp⟩;obtain⟨q,bf⟩:=Option.isSome_iff_exists.1 hex;have D8:q.1.1=p.1.1:=by have:=List.find?_some bf;simpa using this
 have vK:=List.mem_of_find?_eq_some bf;have:q=p:=AI (Ou c w) vK hp (Oq (AJ vK) (AJ hp) D8);have hv:jM c w p.1.1=some p.2:=by rw[On hw,bf,this];rfl
 have:=Xm aA (D1 aA.ck hw) hv;exact⟨aA.N8,show -100000<=p.2 by omega,show p.2<=20000 by omega⟩
theorem amB(x):M.le (VX vI.sh AG.sh Oz.sh OA.sh x) (HP.sh x):=M.bj λh=>by
 obtain⟨c,g⟩:=x;change gx c at h;unfold VX;show _=M.pure (HO c g);unfold HO;rw[D9 (b:=bM g 0 99) h λhc=>M.bF ⟨g,rfl,trivial⟩ _];rcases AK c (bM g 0 99) with⟨h1,h2,h3⟩ | ⟨h1,h2,h3,aT⟩
 ·rw[h2,h3];simp only[M.aE,List.map_nil,XG];rw[if_pos (by simpa using h1)]
 ·rw[h1,aT];simp only[M.aE];rw[if_neg (by simp)];have aA:=oH h2;rw[Ow (v:=λw=>(HH c w g,true)) (D_ h h2) λw hw=>?_,M.aE,XH]
  ·rfl
  ·have aI:=vL hw;refine (M.bF ⟨(w,mV c w),uh c,g,c,rfl,XB aA aI,amz aA w,λp hp=>amA aA aI hp⟩ _).trans (congrArg M.pure ?_);show (((mX c w).map (ui c g)).sum,true)=_;rw[aml aI]
def mo(t:Int):List bk->bk×Bool->bk×Bool
 | [],b=>b
 | e::l,b=>mo t l (if e.2<=t then (e,decide (dS e.1=1)) else b)
def gI(l:List bk)(t:Int):bk×Bool:=mo t l (e0,false)
theorem XM{t:Int}{e:bk}{l:List bk}{b:bk×Bool}(h:e.2<=t):mo t (e::l) b=mo t l (e,decide (dS e.1=1)):=by rw[mo,if_pos h]
theorem XN{t:Int}{e:bk}{l:List bk}{b:bk×Bool}(h:¬e.2<=t):mo t (e::l) b=mo t l b:=by rw[mo,if_neg h]
theorem XO(t:Int):∀ (l:List bk) (b:bk×Bool),l.foldl (λb e=>if e.2<=t then (e,decide (dS e.1=1)) else b) b=mo t l b
 | [],_=>rfl
 | e::l,b=>XO t l _
theorem amC(l:List bk)(t:Int)(h:∀ e∈l,dS e.1=1\/dS e.1=2):mT l t=(if (gI l t).2=true then iG (gI l t).1.1 else -1,(gI l t).1.2):=by
 have key:∀ (l:List bk) (b:bk×Bool),(∀ e∈l,dS e.1=1\/dS e.1=2)->l.foldl (λb e=>if e.2<=t then (if dS e.1=2 then (-1,e.2) else (iG e.1,e.2)) else b) (if b.2=true then iG b.1.1 else -1,b.1.2)=(if (mo t l b).2=true then iG (mo t l b).1.1 else -1,(mo t l b).1.2):=by
  intro l;induction l with
  | nil=>intro b _;rfl
  | cons e l aJ=>
   intro b h;rw[List.foldl_cons];by_cases he:e.2<=t
   ·rw[XM he,<-aJ (e,decide (dS e.1=1)) λx hx=>h x (by grind),if_pos he];grind
   ·rw[XN he,if_neg he];grind
 exact key l (e0,false) h
theorem XP(l:List bk)(t:Int):gI l t=(e0,false)\/((gI l t).1∈l/\(gI l t).1.2<=t/\(gI l t).2=decide (dS (gI l t).1.1=1)):=by
 have key:∀ (l:List bk) (b:bk×Bool),mo t l b=b\/((mo t l b).1∈l/\(mo t l b).1.2<=t/\(mo t l b).2=decide (dS (mo t l b).1.1=1)):=by
  intro l;induction l with
  | nil=>intro b;exact .inl rfl
  | cons e l aJ=>
   intro b;by_cases he:e.2<=t
   ·rw[XM he];grind
   ·rw[XN he];grind
 exact key l (e0,false)
abbrev OD(t:dw):Prop:=t.2.length=10/\∀ l∈t.2,l.length<=12
abbrev x7:aL:=⟨.ay (.br xU) (.ay tI tI),.ay Ht .bool,λx=>∃ t:dw,x.1=some t/\OD t/\0<=x.2.1/\x.2.1<=9,λx=>gI ((x.1.getD ([],[])).2.getD x.2.1.toNat []) x.2.2⟩
theorem amD(x):M.le (V5 x) (x7.sh x):=M.bj λh=>by
 obtain⟨o,u,m⟩:=x;obtain⟨t,h1,⟨h2,h3⟩,aT,bx⟩:=h;change o=some t at h1;change 0<=u at aT;change u<=9 at bx;subst h1;unfold V5;show _=M.pure (gI (t.2.getD u.toNat []) m);simp only[Option.isSome_some,M.bg,Option.getD_some];rw[M.bp (show (0:Int)<=u/\u<Int.ofNat 10 by grind)];have ao:t.2.getD u.toNat []∈t.2:=xO aT (by omega);have an:=h3 _ ao;generalize t.2.getD u.toNat []=l at *
 rw[M.dj l (λi (b:bk×Bool)=>(m,b.2,l,(l.length:Int),(i:Int),e0,b.1,())) (λe b=>.next (if e.2<=m then (e,decide (dS e.1=1)) else b)) (λb=>.next (b.2,e0,b.1,())) (e0,false) ?_ ?_ ?_]
 ·rw[dZ,M.aE,XO];rfl
 ·rfl
 ·intro i G b;have hw:=bn (n:=(i:Int)+1) (by omega) (by omega);simp only[Prod.cI,Prod.fh,bI,cG G,if_true,c6 G,cq G,M.bg,b4,hw,ab.gV,decide_eq_true_eq];by_cases he:l[i].2<=m
  ·simp_all
  ·simp only[he,if_false,M.aE,M.bL,hw];rfl
 simp
theorem XQ(c:aR)(w:z1'){u:Int}(h0:0<=u)(h:u<=9):(mV c w).getD u.toNat []=bP c w u:=by
 have hu:u=0\/u=1\/u=2\/u=3\/u=4\/u=5\/u=6\/u=7\/u=8\/u=9:=by omega
 rcases hu with rfl | rfl | rfl | rfl | rfl | rfl | rfl | rfl | rfl | rfl<;>rfl
theorem XR{c:aR}(aA:gG c)(w:z1'):OD (w,mV c w):=by
 refine⟨rfl,λl an=>?_⟩;simp only[mV,List.mem_cons,List.not_mem_nil,or_false]at an;rcases an with rfl | rfl | rfl | rfl | rfl | rfl | rfl | rfl | rfl | rfl<;>exact DX aA w _
theorem XS{c:aR}(aA:gG c)(w:z1'){u t:Int}(h0:0<=u)(h:u<=9):x7.sh (ih c w,u,t)=M.pure (gI (bP c w u) t):=by
 refine (M.bF ⟨_,rfl,XR aA w,h0,h⟩ _).trans (congrArg M.pure ?_);show gI ((mV c w).getD u.toNat []) t=_;rw[XQ c w h0 h]
theorem amE{c:aR}(aA:gG c){w:z1'}{u:Int}{e:bk}(he:e∈bP c w u):dS e.1=1\/dS e.1=2/\iG e.1=0:=(Az.1 (aA.AA (DY he).1)).2.2.2.2.2
theorem OE{c:aR}(aA:gG c){w:z1'}{u:Int}{e:bk}(he:e∈bP c w u):0<=iG e.1/\iG e.1<=99:=(Az.1 (aA.AA (DY he).1)).2.2.2.2.1
theorem HW{c:aR}(aA:gG c){w:z1'}(hw:iI c w=true){u:Int}(hu:0<=u/\u<=9)(t:Int):mT (gH c w u) t=(if (gI (bP c w u) t).2=true then iG (gI (bP c w u) t).1.1 else -1,(gI (bP c w u) t).1.2)/\(decide ((mT (gH c w u) t).1>=0)=(gI (bP c w u) t).2):=by
 have e:=amC (bP c w u) t λe he=>(amE aA he).imp id And.left;rw[Om hw hu];refine⟨e,?_⟩;rw[e];cases ad:(gI (bP c w u) t).2 with
 | false=>simp
 | true=>
  simp only[if_true,decide_eq_true_eq];rcases XP (bP c w u) t with h | ⟨h,_⟩
  ·grind
  ·exact (OE aA h).1
abbrev AN:aL:=⟨.ay (.br sr) (.br tI),cU,λx=>∃ k:Int,x.2=some k/\True,λx=>bM (x.2.getD 0) 0 9999⟩
theorem XT(x):M.le (V_ xX.sh x) (AN.sh x):=M.bj λ_=>by
 unfold V_;rw[show xX.sh (x.2.getD 0)=M.pure (bM (x.2.getD 0) 0 9999) from rfl,M.aE]
theorem amF(x):M.le (akh xX.sh x) (AN.sh x):=XT x
def D'(t:dw)(m p:Int):Int:=(dM 0 9).foldl (λn u=>if (gI (t.2.getD u.toNat []) m).2=true then n+p else n) 0
abbrev OF:aL:=⟨.ay (.br xU) (.ay (.br tI) (.br jl)),.ay tI .bool,λx=>∃ (t:dw) (m:Int) (c:aR),x=(some t,some m,some c)/\OD t/\0<=c.2.2.2.2.2.2.2.2.2.2/\c.2.2.2.2.2.2.2.2.2.2<=100000,λx=>(D' (x.1.getD ([],[])) (x.2.1.getD 0) (x.2.2.getD ug).2.2.2.2.2.2.2.2.2.2,true)⟩
theorem amG(x):M.le (Wa x7.sh x) (OF.sh x):=M.bj λh=>by
 obtain⟨t,m,c,rfl,h1,h2,h3⟩:=h;unfold Wa;simp only[Option.getD_some];show _=M.pure (D' t m c.2.2.2.2.2.2.2.2.2.2,true);rw[M.gj (dM 0 9) (λi (n:Int)=>(some t,m,c,n,(i:Int),())) (λu n=>.next (if (gI (t.2.getD u.toNat []) m).2=true then n+c.2.2.2.2.2.2.2.2.2.2 else n)) (λn=>.next (n,())) (λi n=>0<=n/\n<=100000*(i:Int)) 0 ?_ ?_ ?_ ?_]
 ·rw[dZ,M.aE];rfl
 ·rfl
 ·omega
 ·intro i G n aB;have G:i<10:=by simpa [dM]using G
  have hw:=bn (n:=(i:Int)+1) (by omega) (by omega);have gD:=bn (n:=n+c.2.2.2.2.2.2.2.2.2.2) (by omega) (by omega);have aw:decide ((i:Int)<10)=true:=by grind
  refine⟨?_,λa1 cQ=>?_⟩
  ·simp only[aw,if_true,Dy,Int.zero_add];rw[show x7.sh (some t,(i:Int),m)=M.pure (gI (t.2.getD ((i:Int)).toNat []) m) from M.bF ⟨t,rfl,h1,by simp,by grind⟩ _];simp only[M.aE,b4,hw,gD,ab.gV];by_cases aj:(gI (t.2.getD ((i:Int)).toNat []) m).2=true
   ·simp only[aj,if_true,M.aE,M.bL,hw];rfl
   ·simp only[aj,Bool.false_eq_true,if_false,M.aE,M.bL,hw];rfl
  grind
 ·intro n aB;have:(dM 0 9).length=10:=by decide
  simp[this]
theorem amH{c:aR}(aA:gG c){w:z1'}(hw:iI c w=true)(m:Int):D' (w,mV c w) m c.2.2.2.2.2.2.2.2.2.2=HG c w m*c.2.2.2.2.2.2.2.2.2.2:=by
 unfold D' HG;have key:∀ (L:z1') (n:Int),(∀ u∈L,0<=u/\u<=9)->L.foldl (λn u=>if (gI ((mV c w).getD u.toNat []) m).2=true then n+c.2.2.2.2.2.2.2.2.2.2 else n) (n*c.2.2.2.2.2.2.2.2.2.2)=(L.foldl (λn u=>if (mT (gH c w u) m).1>=0 then n+1 else n) n)*c.2.2.2.2.2.2.2.2.2.2:=by
  intro L;induction L with
  | nil=>simp
  | cons u L aJ=>
   intro n h;have hu:=h u (by simp);obtain⟨_,h2⟩:=HW aA hw hu m;simp only[List.foldl_cons];rw[XQ c w hu.1 hu.2];grind
 have:=key (dM 0 9) 0 λu hu=>oz.1 hu;grind
theorem amI(x):M.le (VW vI.sh AG.sh AN.sh OF.sh x) (HR.sh x):=M.bj λh=>by
 obtain⟨c,t⟩:=x;change gx c at h;unfold VW;show _=M.pure (HQ c t);unfold HQ;rw[D9 (b:=bM t 0 9999) h λhc=>M.bF ⟨t,rfl,trivial⟩ _];rcases AK c (bM t 0 9999) with⟨h1,h2,h3⟩ | ⟨h1,h2,h3,aT⟩
 ·rw[h2,h3];simp only[M.aE,List.map_nil,XG];grind
 ·rw[h1,aT];simp only[M.aE];rw[if_neg (by simp)];have aA:=oH h2;have hp:=(HF.1 aA.N8).2.2.2.2.2.2;rw[Ow (v:=λw=>(HG c w t*c.2.2.2.2.2.2.2.2.2.2,true)) (D_ h h2) λw hw=>?_,M.aE,XH]
  ·rfl
  ·refine (M.bF ⟨(w,mV c w),t,c,rfl,XR aA w,hp.1,hp.2⟩ _).trans (congrArg M.pure ?_);show (D' (w,mV c w) t c.2.2.2.2.2.2.2.2.2.2,true)=_;rw[amH aA (vL hw)]
theorem XU(p:Int×Int)(m:z4')(k v:Int):eV (p::m) k v=if decide (k=p.1)=true then (p.1,v)::m else p::eV m k v:=rfl
theorem OG(k v:Int):∀ m:z4',((m.map (·.1)).Nodup->((eV m k v).map (·.1)).Nodup)/\∀ x,x∈(eV m k v).map (·.1)<->x∈m.map (·.1)\/x=k
 | []=>by
  rw[show eV [] k v=[(k,v)] from rfl];simp
 | p::m=>by
  obtain⟨h1,h2⟩:=OG k v m;rw[XU];grind
theorem XV(k v:Int){B:Int}:∀ m:z4',(∀ p∈m,0<=p.2/\p.2<=B)->0<=v/\v<=B->∀ p∈eV m k v,0<=p.2/\p.2<=B
 | [],_,hv,p,hp=>by
  rw[show eV [] k v=[(k,v)] from rfl,List.mem_singleton]at hp;grind
 | q::m,h,hv,p,hp=>by
  rw[XU]at hp;split at hp
  ·grind
  ·rcases List.mem_cons.1 hp with rfl | hp
   ·grind
   ·exact XV k v m (λx hx=>h x (by grind)) hv p hp
def lj(c:aR)(w:z1')(u t:Int):Int:=if (gI (bP c w u) t).2=true then iG (gI (bP c w u) t).1.1 else -1
def x8(m:z4')(k:Int):Int:=Option.getD (Option.map (λx=>x.2) (List.find? (λp=>decide (k=p.1)) m)) 0
structure AO(L:z1')(i:Nat)(m:z4'):Prop where
 mg:(m.map (·.1)).Nodup
 mem:∀ x,x∈m.map (·.1)<->x∈L
 val:∀ p∈m,0<=p.2/\p.2<=(i:Int)
theorem AO.add{L:z1'}{i:Nat}{m:z4'}(h:AO L i m)(k:Int)(G:i<=60):IntKind.wrap .i64 (x8 m k+1)=x8 m k+1/\AO (L++[k]) (i+1) (eV m k (x8 m k+1)):=by
 have ad:0<=x8 m k/\x8 m k<=(i:Int):=by
  unfold x8;cases au:m.find? λp=>decide (k=p.1) with
  | none=>simp
  | some p=>exact h.val p (List.mem_of_find?_eq_some au)
 refine⟨bn (by omega) (by omega),(OG _ _ _).1 h.mg,λx=>?_,XV _ _ _ (λp hp=>by have:=h.val p hp;omega) (by omega)⟩;rw[(OG _ _ _).2,h.mem];simp
theorem amJ{c:aR}(aA:gG c){w:z1'}(hw:iI c w=true){u:Int}(hu:0<=u/\u<=9):((bP c w u).filter λe=>dS e.1 == 1).length<=11:=by
 have an:=DX aA w u;by_cases axJ:(bP c w u).length=12
 ·have h1:=(Ol (HI hw hu) (by omega:1<(bP c w u).length)).1;have h1:dS (bP c w u)[1].1=2:=h1;have ao:=List.getElem_mem (by omega:1<(bP c w u).length);have:((bP c w u).filter λe=>dS e.1 == 1).length<(bP c w u).length:=by
   refine List.length_filter_lt_length_iff_exists.2 ⟨_,ao,by grind⟩
  omega
 grind
theorem amK(c:aR)(w w':z1')(u:Int):(((bP c w u).filter λe=>dS e.1 == 1).map (·.1)).Perm (((bP c w' u).filter λe=>dS e.1 == 1).map (·.1)):=by
 have e:∀ w,((bP c w u).filter λe=>dS e.1 == 1).map (·.1)=((bP c w u).map (·.1)).filter λs=>dS s == 1:=λw=>by rw[List.filter_map];rfl
 rw[e,e];exact ((Ot c w u).trans (Ot c w' u).symm).filter _
theorem OH(c:aR)(w:z1')(u t:Int):lj c w u t=-1\/∃ s∈((bP c w u).filter λe=>dS e.1 == 1).map (·.1),lj c w u t=iG s:=by
 unfold lj;rcases XP (bP c w u) t with h | ⟨h1,h2,h3⟩
 ·left;rw[h];rfl
 ·by_cases ad:(gI (bP c w u) t).2=true
  ·right;rw[if_pos ad];rw[h3]at ad;exact⟨_,List.mem_map.2 ⟨_,List.mem_filter.2 ⟨h1,by simpa using ad⟩,rfl⟩,rfl⟩
  ·left;rw[if_neg ad]
theorem amL{c:aR}(aA:gG c){u t:Int}(hu:0<=u/\u<=9){K:z1'}(aB:K.Nodup)(iC:∀ x∈K,x∈(cw c).map λw=>lj c w u t):K.length<=12:=by
 cases hT:cw c with
 | nil=>
  rw[hT]at iC;cases K with
  | nil=>simp
  | cons x K=>have:=iC x (by simp);grind
 | cons w0 T=>
  have z_:iI c w0=true:=vL (by grind);have qV:K ⊆ -1::(((bP c w0 u).filter λe=>dS e.1 == 1).map (·.1)).map iG:=by
   intro x hx;obtain⟨w,hw,rfl⟩:=List.mem_map.1 (iC x hx);rcases OH c w u t with h | ⟨s,hs,h⟩
   ·grind
   ·rw[h];exact List.mem_cons_of_mem _ (List.mem_map_of_mem ((amK c w w0 u).mem_iff.1 hs))
  have:=aB.length_le_of_subset qV;have axK:=amJ aA z_ hu;grind
abbrev OI:aL:=⟨.ay (.br sr) (.ay (.br tI) (.br tI)),cU,λx=>∃ a b:Int,x.2=(some a,some b),λx=>vH (x.2.1.getD 0) (x.2.2.getD 0)⟩
theorem amM(x):M.le (V3 b8.sh xX.sh x) (OI.sh x):=M.bj λ_=>by
 unfold V3;rw[alN,M.aE,show xX.sh (x.2.2.getD 0)=M.pure (bM (x.2.2.getD 0) 0 9999) from rfl,M.ku,M.aE,vp];rfl
theorem XW{c:aR}(aA:gG c){w:z1'}(hw:iI c w=true){u:Int}(hu:0<=u/\u<=9)(t:Int):(mT (gH c w u) t).1=lj c w u t:=by rw[(HW aA hw hu t).1];rfl
theorem amN(x):M.le (VT vI.sh x7.sh sv.sh HA.sh OI.sh x) (HS.sh x):=M.sk λh=>by
 obtain⟨c,u,t⟩:=x;change gx c at h;unfold VT;show M.ca _ λy=>y=rp c u t;unfold rp Od;rw[D9 (b:=vH u t) h λhc=>M.bF ⟨u,t,rfl⟩ _];rcases AK c (vH u t) with⟨h1,h2,h3⟩ | ⟨h1,h2,h3,aT⟩
 ·rw[h2,h3];simp only[M.aE];rw[if_pos (by grind)];refine M.dI.2 ?_;simp
 ·rw[h1,aT];simp only[M.aE];rw[if_neg (by simp)];have aA:=oH h2;have ct:(0<=u/\u<=9)/\0<=t/\t<=9999:=by
   unfold vH at h3;rw[Bool.and_eq_true,nT,nT]at h3;exact h3
  have hu:=ct.1;have hlen:=D_ h h2;simp only[Option.isSome_some,M.bg,Option.getD_some];show M.ca (M.bind (M.loop _ ((cw c).map (ih c),_,0,u,t,[],())) _) _;rw[M.fJ];refine (M.BC (p:=λz=>∃ m,z=.next (m,())/\AO ((cw c).map λw=>lj c w u t) 60 m) (λA=>∃ (i:Nat) (m:z4'),i<=(cw c).length/\A=((cw c).map (ih c),(((cw c).map (ih c)).length:Int),(i:Int),u,t,m,())/\AO (((cw c).take i).map λw=>lj c w u t) i m) (λA=>((cw c).length - A.2.2.1).toNat) ?_ _ ⟨0,[],Nat.zero_le _,rfl,⟨.nil,by simp,by simp⟩⟩).mono ?_
  ·rintro A ⟨i,m,od,rfl,bd⟩;by_cases G:i<(cw c).length
   ·have cZ:i<((cw c).map (ih c)).length:=by grind
    have hw:=bn (n:=(i:Int)+1) (by omega) (by omega);have ao:=List.getElem_mem G;obtain⟨bR,a2⟩:=bd.add (lj c (cw c)[i] u t) (by omega);have pA:((cw c).take (i+1)).map (λw=>lj c w u t)=((cw c).take i).map (λw=>lj c w u t)++[lj c (cw c)[i] u t]:=by
     rw[List.take_add_one,List.getElem?_eq_getElem G,Option.toList_some,List.map_append];rfl
    simp only[Prod.cI,bI,cG cZ,if_true,c6 cZ,cq cZ,M.bg,List.getElem_map];rw[XS aA _ hu.1 hu.2,M.aE];have fin:∀ k,k=lj c (cw c)[i] u t->(∃ (kZ:Nat) (df:z4'),kZ<=(cw c).length/\(((cw c).map (ih c),(((cw c).map (ih c)).length:Int),IntKind.wrap .i64 ((i:Int)+1),u,t,eV m k (IntKind.wrap .i64 (x8 m k+1)),()):List (Option dw)×Int×Int×Int×Int×z4'×Unit)=((cw c).map (ih c),(((cw c).map (ih c)).length:Int),(kZ:Int),u,t,df,())/\AO (((cw c).take kZ).map λw=>lj c w u t) kZ df)/\((cw c).length - IntKind.wrap .i64 ((i:Int)+1)).toNat<((cw c).length - (i:Int)).toNat:=by
     grind
    cases ad:(gI (bP c (cw c)[i] u) t).2 with
    | true=>
     simp only[if_true];rw[M.aE,M.bL];exact M.dI.2 (fin _ (by unfold lj;grind))
    | false=>
     simp only[Bool.false_eq_true,if_false];rw[M.aE,M.bL];exact M.dI.2 (fin (-1) (by unfold lj;grind))
   ·have amO:i=(cw c).length:=by omega
    subst amO;have aw:decide (((cw c).length:Int)<(((cw c).map (ih c)).length:Int))=false:=by simp
    simp only[aw,Bool.false_eq_true,if_false,M.aE];refine M.dI.2 ⟨m,rfl,bd.mg,?_,λp hp=>by have:=bd.val p hp;omega⟩;have:=bd.mem;grind
  ·rintro z ⟨m,rfl,bd⟩;rw[M.bL];rw[show HA.sh m=M.pure (jK (some m)) from rfl,M.aE];have amP:m.length<=12:=by
    have:=amL aA hu (t:=t) bd.mg λx hx=>(bd.mem x).1 hx;grind
   rw[show sv.sh (jK (some m))=M.pure (fi gZ (m.map (·.1))) from (M.bF (W1 (by omega)) _).trans (congrArg M.pure W2),M.aE];refine M.dI.2 ?_;have e1:fi gZ (m.map (·.1))=(dM (-1) 99).filter λg=>((cw c).map λw=>(mT (gH c w u) t).1).contains g:=by
    have amQ:((cw c).map λw=>(mT (gH c w u) t).1)=(cw c).map λw=>lj c w u t:=List.map_congr_left λw hw=>XW aA (vL hw) hu t;rw[amQ];have G:(dM (-1) 99).Pairwise (·<·):=by
     unfold dM;rw[List.pairwise_map];exact (List.pairwise_lt_range).imp λh=>by omega
    refine Aq ((G.filter _).imp λh=>Int.le_of_lt h) ((List.perm_ext_iff_of_nodup bd.mg ((G.filter _).imp λh=>by omega)).2 λk=>?_);rw[bd.mem,List.mem_filter,oz];simp only[List.contains_iff_mem];refine⟨λaj=>⟨?_,aj⟩,λaj=>aj.2⟩;obtain⟨w,hw,rfl⟩:=List.mem_map.1 aj;rcases OH c w u t with h | ⟨s,hs,h⟩
    ·omega
    ·rw[h];obtain⟨e,he,rfl⟩:=List.mem_map.1 hs;have:=OE aA (List.mem_filter.1 he).1;omega
   rw[e1]
def OJ(c:aR)(l:List bk)(t:Int):Bool:=(gI l t).2&&decide (lU c.2.2.2.1 (gI l t).1.2 t>=c.2.2.2.2.2.2.2.2.1)
theorem amR{c:aR}(aA:gG c){w:z1'}(hw:iI c w=true){u:Int}(hu:0<=u/\u<=9)(t:Int):OJ c (bP c w u) t=D2 c w u t:=by
 obtain⟨h1,h2⟩:=HW aA hw hu t;unfold OJ D2;grind
theorem amS(x):M.le (V1 vI.sh x7.sh vF.sh AN.sh x) (HT.sh x):=M.bj λh=>by
 obtain⟨c,t⟩:=x;change gx c at h;unfold V1;show _=M.pure (sC c t);unfold sC;rw[D9 (b:=bM t 0 9999) h λhc=>M.bF ⟨t,rfl,trivial⟩ _];rcases AK c (bM t 0 9999) with⟨h1,h2,h3⟩ | ⟨h1,h2,h3,aT⟩
 ·rw[h3];simp only[M.aE];grind
 ·rw[h1,aT];simp only[M.aE];rw[if_neg (by simp),if_neg (by simp)];have aA:=oH h2;have aI:=nT.1 h3;have hlen:=D_ h h2;have hT:∀ w∈cw c,iI c w=true:=λw hw=>vL hw;rw[M.gj (dM 0 9) (λi (b:z1'×z1')=>(some (uh c),(i:Int),c,t,b.1,b.2,())) (λu b=>.next (if decide (oI c (cw c) u t=(cw c).length)=true then b.1++[u] else b.1,if decide (oI c (cw c) u t > 0)=true then b.2++[u] else b.2)) (λb=>.next (b.1,b.2,())) (λi b=>b.1.length<=i/\b.2.length<=i) ([],[]) ?_ (by simp) ?_ ?_]
  ·rw[dZ,M.aE,M.bL];have key:∀ (p q:Int->Bool) (l:z1') (a b:z1'),l.foldl (λ(z:z1'×z1') u=>(if p u=true then z.1++[u] else z.1,if q u=true then z.2++[u] else z.2)) (a,b)=(a++l.filter p,b++l.filter q):=by
    intro p q l;induction l with
    | nil=>simp
    | cons u l aJ=>
     intro a b;simp only[List.foldl_cons];rw[aJ];cases hp:p u<;>cases bf:q u<;>simp[hp,bf]
   rw[key (λu=>decide (oI c (cw c) u t=(cw c).length)) (λu=>decide (oI c (cw c) u t > 0))];simp
  ·rfl
  ·intro i G b iw;have G:i<10:=by simpa [dM]using G
   have hw:=bn (n:=(i:Int)+1) (by omega) (by omega);have aw:decide ((i:Int)<10)=true:=by grind
   refine⟨?_,λa1 cQ=>?_⟩
   ·simp only[aw,if_true,Dy,Int.zero_add,Prod.cI,Option.isSome_some,M.bg,Option.getD_some];rw[M.gj (cw c) (λk (n:Nat)=>(some (uh c),(i:Int),(n:Int),(i:Int),(cw c).map (ih c),(((cw c).map (ih c)).length:Int),(k:Int),c,t,b.1,b.2,())) (λw n=>.next (if D2 c w i t=true then n+1 else n)) (λn=>.next (some (uh c),(i:Int),(n:Int),(i:Int),c,t,b.1,b.2,())) (λk n=>n<=k) 0 ?_ (by simp) ?_ ?_]
    ·rw[dZ];have key:∀ (l:List (z1')) (n:Nat),l.foldl (λn w=>if D2 c w i t=true then n+1 else n) n=n+oI c l i t:=by
      intro l;induction l with
      | nil=>intro n;rfl
      | cons w l aJ=>
       intro n;simp only[List.foldl_cons];rw[aJ];unfold oI;grind
     rw[key,Nat.zero_add,M.aE,M.bL];have By:((cw c).map (ih c)).length=(cw c).length:=List.length_map _;simp only[Prod.cI,Prod.fh,Prod.gv,bI,Option.isSome_some,M.bg,Option.getD_some,By];have eB:b2 (Add.add b.1.length (Add.add 0 1)):=gF (by grind);have ns:b2 (Add.add b.2.length (Add.add 0 1)):=gF (by grind);have d1:decide ((oI c (cw c) i t:Int) > 0)=decide (oI c (cw c) i t > 0):=by simp
     have d2:decide ((oI c (cw c) i t:Int)=((cw c).length:Int))=decide (oI c (cw c) i t=(cw c).length):=by grind
     rw[d1];cases h1:decide (oI c (cw c) i t > 0)<;>cases h2:decide (oI c (cw c) i t=(cw c).length)<;>
      simp only[if_true,Bool.false_eq_true,if_false,M.bp eB,M.bp ns,M.aE,M.bL,Option.isSome_some,M.bg,Option.getD_some,By,d2,h2,b4,hw,ab.gV]<;>rfl
    ·rfl
    ·intro k aj n aB;have vz:k<((cw c).map (ih c)).length:=by grind
     have hw:=bn (n:=(k:Int)+1) (by omega) (by omega);have gD:=bn (n:=(n:Int)+1) (by omega) (by omega);have kI:=hT _ (List.getElem_mem aj);have mq:=D1 h2 kI;have hu:0<=(i:Int)/\(i:Int)<=9:=by omega
     have tu:=amR aA kI hu t;obtain⟨bY,cy⟩:=HW aA kI hu t;refine⟨?_,λa1 cQ=>?_⟩
     ·simp only[Prod.cI,Prod.fh,Prod.gv,Prod.ig,Prod.jJ,Prod.kO,bI,cG vz,if_true,c6 vz,cq vz,M.bg,b4,hw,List.getElem_map];rw[XS aA _ hu.1 hu.2,M.aE,<-tu];unfold OJ;cases ad:(gI (bP c (cw c)[k] (i:Int)) t).2 with
      | true=>
       have B6:AB (c,(gI (bP c (cw c)[k] (i:Int)) t).1.2,t):=by
        have:=alO aA mq aI.2 (u:=(i:Int)) (t:=t) (by grind);grind
       have amT:vF.sh (c,(gI (bP c (cw c)[k] (i:Int)) t).1.2,t)=M.pure (lU c.2.2.2.1 (gI (bP c (cw c)[k] (i:Int)) t).1.2 t):=M.bF B6 _;simp only[amT,M.ik,M.fg,Bool.true_and,and_self,forall_const,M.bg,true_and];by_cases ao:lU c.2.2.2.1 (gI (bP c (cw c)[k] (i:Int)) t).1.2 t>=c.2.2.2.2.2.2.2.2.1
       ·simp_all
       ·simp only[ao,decide_false,Bool.false_eq_true,if_false,M.aE,M.bL,hw,ab.gV];rfl
      | false=>
       simp_all
     grind
    simp
   grind
  ·intro b iw;rfl
def XX(OK:aR->M Int)(x:aR):M Bool:=
 if (decide (Int.ofNat (List.length x.1) > 20)||decide (Int.ofNat (List.length x.2.1) > 40)||decide (Int.ofNat (List.length x.2.2.1) > 60)||decide (Int.ofNat (List.length x.2.2.2.1) > 40))=true then M.pure true else M.bind (OK x) λy=>if decide (y≠0)=true then M.pure false else M.bind (M.loop (λ(A:Int×Int×aR×Unit)=>letI b:=List.getD A.2.2.1.1 (Int.toNat A.2.1) (0,0);letI a:=A.2.1<Int.ofNat (List.length A.2.2.1.1);if decide a=true then M.ag (0<=A.2.1/\a) (M.ag (0<=A.2.1/\a) (M.pure (ab.next (IntKind.wrap .i64 (A.1*IntKind.wrap .i64 (Add.add (IntKind.wrap .i64 (b.2-b.1)) 1)),IntKind.wrap .i64 (Add.add A.2.1 1),A.2.2.1,())))) else M.bind (M.pure (ab.next (A.1,()))) λr=>M.pure (ab.done r)) (1,0,x,())) (ab.bm (λ(A:Int×Unit)=>M.pure (decide (A.1 > 60))))
def lV(c:aR):Bool:=decide (c.1.length > 20)||decide (c.2.1.length > 40)||decide (c.2.2.1.length > 60)||decide (c.2.2.2.1.length > 40)||(decide (b_ c=0)&&decide (kd c.1 > 60))
theorem XY:∀ (l:z4') (n:Nat),l.foldl (λn s=>n*(s.2 - s.1+1).toNat) n=n*kd l
 | [],n=>by simp[kd]
 | s::l,n=>by simp only[List.foldl_cons,kd];rw[XY l,Nat.mul_assoc]
abbrev vM:aL:=⟨jl,cU,ij,lV⟩
theorem amU(x):M.le (XX hO.sh x) (vM.sh x):=M.bj λh=>by
 unfold XX;show _=M.pure (lV x);simp only[bI];by_cases hs:(decide ((x.1.length:Int) > 20)||decide ((x.2.1.length:Int) > 40)||decide ((x.2.2.1.length:Int) > 60)||decide ((x.2.2.2.1.length:Int) > 40))=true
 ·rw[if_pos hs];refine congrArg M.pure ?_;unfold lV;grind
 ·rw[if_neg hs,show hO.sh x=M.pure (b_ x) from M.bF h _,M.aE];have e:lV x=(decide (b_ x=0)&&decide (kd x.1 > 60)):=by
   unfold lV;grind
  rw[e];by_cases hc:b_ x=0
  ·have aA:=oH hc;rw[if_neg (by grind)];have aB:=aA.dA;rw[M.gj x.1 (λi (n:Nat)=>((n:Int),(i:Int),x,())) (λs n=>.next (n*(s.2 - s.1+1).toNat)) (λn=>.next ((n:Int),())) (λi n=>n<=61 ^ i) 1 ?_ ?_ ?_ ?_]
   ·rw[dZ,XY,Nat.one_mul,M.aE,M.bL];grind
   ·rfl
   ·simp
   ·intro i G n hM;have aj:=aA.clk _ (List.getElem_mem G);have ad:n<=61 ^ 3:=Nat.le_trans hM (Nat.pow_le_pow_right (by omega) (by omega));have hw:=bn (n:=(i:Int)+1) (by omega) (by omega);have bY:=bn (n:=x.1[i].2 - x.1[i].1) (by omega) (by omega);have cy:=bn (n:=x.1[i].2 - x.1[i].1+1) (by omega) (by omega);have ec:((n*(x.1[i].2 - x.1[i].1+1).toNat:Nat):Int)=(n:Int)*(x.1[i].2 - x.1[i].1+1):=by
     grind
    have ao:n*(x.1[i].2 - x.1[i].1+1).toNat<=61 ^ (i+1):=by
     rw[Nat.pow_succ];exact Nat.mul_le_mul hM (by omega)
    have GZ:n*(x.1[i].2 - x.1[i].1+1).toNat<=61 ^ 4:=Nat.le_trans ao (Nat.pow_le_pow_right (by omega) (by omega));have eo:=bn (n:=(n:Int)*(x.1[i].2 - x.1[i].1+1)) (by omega) (by omega);simp_all
   simp
  grind
theorem amV{c:aR}(h:lV c=false):gx c:=by
 unfold lV at h;simp only[Bool.or_eq_false_iff,decide_eq_false_iff_not,Bool.and_eq_false_imp,decide_eq_true_eq]at h;obtain⟨⟨⟨⟨h1,h2⟩,h3⟩,aT⟩,bx⟩:=h;exact⟨⟨by omega,by omega,by omega,by omega⟩,λhc=>by omega⟩
end Go.Fer.H
namespace Go.Fer
open M (ab)
abbrev aH:Type:=List UInt8
abbrev aX:Type:=bt×H.aR
abbrev vN:Type:=z2'×List (List (Int×z1'×Int×Int))×Int×Int×z2'×z1'×List dh×List dt×List DF×Unit
abbrev AP:Type:=Int×Bool×Option Nat
abbrev kR(l:List (aH×AP))(a:aH)(b:AP):List (aH×AP):=lz (k:=.str) (v:=.st (.ay (.int .i64) (.ay .bool .dT))) l a b
def XZ(OK:H.aR->M Int)(OL:bt->M Int)(x:aX):M Int:=
 M.bind (OL x.1) λy=>M.bind (b7 (!(decide (y≠0))) (OK x.2) 0) λbH=>if (decide (y≠0)||decide (bH≠0))=true then M.pure 120 else M.pure 0
def X0(amW:aX->M Int)(amX:aX×Unit->M (aX×Unit))(amY:Unit->M (List (aH×Int×Bool×Option Nat)))(amZ:List (aH×Int×Bool×Option Nat)×aH×aX×Unit->M (aH×aX×Unit))(x:aX×List aH):M (List aH×aX×Int):=
 letI d:=Int.ofNat (List.length x.2);M.bind (amW x.1) λy=>if decide (y≠0)=true then M.pure ([],((([],[],0,[]),[],[],[],[],0),[],[],[],[],0,0,0,0,0,0,0),y) else if decide (d > 40)=true then M.pure ([],((([],[],0,[]),[],[],[],[],0),[],[],[],[],0,0,0,0,0,0,0),2) else M.bind (amX (x.1,())) λy=>M.bind (amY ()) λbH=>M.bind (M.loop (λ(A:List (aH×Int×Bool×Option Nat)×List aH×Int×Int×List aH×Int×Int×Int×Int×Int×Int×Int×Int×Int×aX×Unit)=>letI b:=A.2.2.2;letI a:=b.2.2.2.2;letI c:=a.2.2.2.2;if decide (b.1<A.2.2.1)=true then M.ag (0<=b.1/\b.1<Int.ofNat (List.length A.2.1)) (M.bind (amZ (A.1,List.getD A.2.1 (Int.toNat b.1) [],c.2.2.2.1,())) (λy=>M.ag (b2 (Add.add (List.length b.2.1) (Add.add 0 1))) (M.pure (ab.next (A.1,A.2.1,A.2.2.1,IntKind.wrap .i64 (Add.add b.1 1),b.2.1++[y.1],b.2.2.1,b.2.2.2.1,a.1,a.2.1,a.2.2.1,a.2.2.2.1,c.1,c.2.1,c.2.2.1,y.2.1,()))))) else M.bind (M.pure (ab.next (b.2.1,b.2.2.1,b.2.2.2.1,a.1,a.2.1,a.2.2.1,a.2.2.2.1,c.1,c.2.1,c.2.2.1,c.2.2.2.1,()))) λr=>M.pure (ab.done r)) (bH,x.2,d,0,[],0,0,0,0,0,0,0,0,0,y.1,())) (ab.bm (λ(A:List aH×Int×Int×Int×Int×Int×Int×Int×Int×Int×aX×Unit)=>M.ag True (M.pure (A.1,A.2.2.2.2.2.2.2.2.2.2.1,0))))
def X1(DH:bt->M Int)(Al:H.aR->M Int)(x:aX):M Int:=
 M.bind (DH x.1) λy=>M.bind (b7 (!(decide (y≠0))) (Al x.2) 0) λbH=>if (decide (y≠0)||decide (bH≠0))=true then M.pure 120 else M.pure 0
def X2(OM:H.aR×z7'×z1'->M (H.aR×Int))(X3:bt->M bt)(x:aX×Unit):M (aX×Unit):=
 M.bind (OM (x.1.2,[],[])) λy=>M.ag (X3 x.1.1).b1 (M.pure ((M.val (X3 x.1.1) (([],[],0,[]),[],[],[],[],0),y.1),()))
def am0(x:Unit):M (List (aH×Int×Bool×Option Nat)):=
 M.pure (kR (kR (kR (kR (kR (kR (kR (kR (kR (kR (kR (kR (kR (kR (kR (kR (kR (kR (kR (kR [] [108,101,110,100] (5,false,some 119)) [98,97,99,107] (4,false,some 120)) [118,111,105,100] (1,false,some 121)) [108,97,115,116,115] (1,false,some 122)) [102,101,101] (1,false,some 123)) [111,119,101,115] (1,false,some 124)) [104,101,108,100] (1,false,some 125)) [119,104,101,114,101] (2,false,some 126)) [109,105,115,115,105,110,103] (1,false,some 127)) [116,114,105,97,108] (4,false,some 128)) [102,105,116,115] (3,false,some 129)) [115,116,111,99,107] (2,false,some 130)) [99,111,109,101,115] (3,false,some 131)) [112,105,101,99,101] (4,true,some 132)) [119,105,115,104] (5,true,some 133)) [100,114,111,112] (1,false,some 134)) [99,97,110] (1,false,some 135)) [116,97,107,101,115] (0,true,some 136)) [109,111,115,116] (0,false,some 137)) [101,120,116,114,97] (0,false,some 138))
def X4(am1:aH×aH->M (List aH))(am2:aH->M (Int×Bool))(am3:Nat->z1'×aX×Unit->M (aH×aX×Unit))(x:List (aH×Int×Bool×Option Nat)×aH×aX×Unit):M (aH×aX×Unit):=
 M.bind (am1 (x.2.1,[32])) λy=>letI b:=Int.ofNat (List.length y);letI f:=IntKind.wrap .i64 (b-1);letI d:=List.drop (Int.toNat 1) (List.take (Int.toNat b) y);letI a:=Option.map (λx=>x.2) (List.find? (λp=>decide (List.getD y (Int.toNat 0) []=p.1)) x.1);letI c:=Option.getD a (0,false,none);M.ag ((0:Int)<=0/\0<b) (if (!(Option.isSome a)||decide (f<c.1)||decide (f > c.1)&&!c.2.1)=true then M.pure ([63],x.2.2.1,()) else M.bind (M.ag ((0:Int)<=1/\1<=b/\b<=b) (M.loop (λ(A:List aH×Int×Int×(Int×Bool×Option Nat)×z1'×aX×Unit)=>letI e:=A.2.2;if decide (e.1<A.2.1)=true then M.ag (0<=e.1/\e.1<Int.ofNat (List.length A.1)) (M.bind (am2 (List.getD A.1 (Int.toNat e.1) [])) (λy=>if (!y.2)=true then M.bind (M.bind (M.pure ([63],e.2.2.2.1,())) (λr=>M.pure (ab.done r))) λr=>M.pure (ab.done r) else M.ag (b2 (Add.add (List.length e.2.2.1) (Add.add 0 1))) (M.pure (ab.next (A.1,A.2.1,IntKind.wrap .i64 (Add.add e.1 1),e.2.1,e.2.2.1++[y.1],e.2.2.2.1,()))))) else M.bind (M.pure (ab.next (e.2.1,e.2.2.1,e.2.2.2.1,()))) λr=>M.pure (ab.done r)) (d,Int.ofNat (List.length d),0,c,[],x.2.2.1,()))) (ab.bm (λ(A:(Int×Bool×Option Nat)×z1'×aX×Unit)=>M.bind (M.ag (∃ (k:Nat),List.Mem k [119,120,121,122,123,124,125,126,127,128,129,130,131,132,133,134,135,136,137,138]/\A.1.2.2=some k) (am3 (Option.getD A.1.2.2 0) (A.2.1,A.2.2.1,()))) λy=>M.pure (y.1,y.2.1,()))))
def X5(Ea:z7'×z1'×aX×Unit->M (aH×aX×Unit))(x:z1'×aX×Unit):M (aH×aX×Unit):=
 letI a:=Int.ofNat (List.length x.1);M.ag ((0:Int)<=0/\0<a) (M.ag ((0:Int)<=1/\1<a) (M.ag ((0:Int)<=2/\2<a) (M.ag ((0:Int)<=3/\3<a) (M.ag ((0:Int)<=4/\4<a) (M.bind (Ea ([(List.getD x.1 (Int.toNat 0) 0,List.getD x.1 (Int.toNat 1) 0,List.getD x.1 (Int.toNat 2) 0,1,List.getD x.1 (Int.toNat 3) 0,List.getD x.1 (Int.toNat 4) 0)],[],x.2.1,())) (λy=>M.pure (y.1,y.2.1,())))))))
def X6(OM:H.aR×z7'×z1'->M (H.aR×Int))(x:z7'×z1'×aX×Unit):M (aH×aX×Unit):=
 M.ag True (M.bind (OM (x.2.2.1.2,x.1,x.2.1)) (λy=>if decide (y.2≠0)=true then M.pure ([110,111],x.2.2.1,()) else M.ag True (M.pure ([111,107],(x.2.2.1.1,y.1),()))))
def X7(Ea:z7'×z1'×aX×Unit->M (aH×aX×Unit))(x:z1'×aX×Unit):M (aH×aX×Unit):=
 letI a:=Int.ofNat (List.length x.1);M.ag ((0:Int)<=0/\0<a) (M.ag ((0:Int)<=1/\1<a) (M.ag ((0:Int)<=2/\2<a) (M.ag ((0:Int)<=3/\3<a) (M.bind (Ea ([(List.getD x.1 (Int.toNat 0) 0,List.getD x.1 (Int.toNat 1) 0,List.getD x.1 (Int.toNat 2) 0,2,List.getD x.1 (Int.toNat 3) 0,0)],[],x.2.1,())) (λy=>M.pure (y.1,y.2.1,()))))))
def X8(Ea:z7'×z1'×aX×Unit->M (aH×aX×Unit))(x:z1'×aX×Unit):M (aH×aX×Unit):=
 M.bind (Ea ([],x.1,x.2.1,())) λy=>M.pure (y.1,y.2.1,())
def X9(ON:H.aR×Int->M ((Int×Int)×Int))(rq:(Int×Int)×Int->M aH)(x:z1'×aX×Unit):M (aH×aX×Unit):=
 letI a:=(x.2.1.2,List.getD x.1 (Int.toNat 0) 0);M.ag True (M.ag ((0:Int)<=0/\0<Int.ofNat (List.length x.1)) (M.ag (ON a).b1 (M.ag (rq (M.val (ON a) ((0,0),0))).b1 (M.pure (M.val (rq (M.val (ON a) ((0,0),0))) [],x.2.1,())))))
def X_(nV:Int×z1'->M aH)(x:(Int×Int)×Int):M aH:=
 M.bind (nV (x.2,[x.1.1,x.1.2])) λy=>M.pure y
def X'(AQ:z1'->M aH)(x:Int×z1'):M aH:=
 if decide (x.1=0)=true then M.bind (AQ x.2) λy=>M.pure y else if decide (x.1=3)=true then M.pure [110,111,110,101] else M.pure [110,111]
def Ya(am4:Int->M aH)(am5:List aH×aH->M aH)(x:z1'):M aH:=
 letI b:=Int.ofNat (List.length x);if decide (b=0)=true then M.pure [110,111,110,101] else M.bind (M.loop (λ(A:z1'×Int×Int×List aH×Unit)=>letI a:=A.2.2;if decide (a.1<A.2.1)=true then M.ag (0<=a.1/\a.1<Int.ofNat (List.length A.1)) (M.bind (am4 (List.getD A.1 (Int.toNat a.1) 0)) (λy=>M.ag (b2 (Add.add (List.length a.2.1) (Add.add 0 1))) (M.pure (ab.next (A.1,A.2.1,IntKind.wrap .i64 (Add.add a.1 1),a.2.1++[y],()))))) else M.bind (M.pure (ab.next (a.2.1,()))) λr=>M.pure (ab.done r)) (x,b,0,[],())) (ab.bm (λ(A:List aH×Unit)=>M.bind (am5 (A.1,[32])) λy=>M.pure y))
def Yb(OO:H.aR×Int->M ((Int×Int)×Int))(rq:(Int×Int)×Int->M aH)(x:z1'×aX×Unit):M (aH×aX×Unit):=
 letI a:=(x.2.1.2,List.getD x.1 (Int.toNat 0) 0);M.ag True (M.ag ((0:Int)<=0/\0<Int.ofNat (List.length x.1)) (M.ag (OO a).b1 (M.ag (rq (M.val (OO a) ((0,0),0))).b1 (M.pure (M.val (rq (M.val (OO a) ((0,0),0))) [],x.2.1,())))))
def Yc(OP:H.aR×Int->M ((Int×Int)×Int))(rq:(Int×Int)×Int->M aH)(x:z1'×aX×Unit):M (aH×aX×Unit):=
 letI a:=(x.2.1.2,List.getD x.1 (Int.toNat 0) 0);M.ag True (M.ag ((0:Int)<=0/\0<Int.ofNat (List.length x.1)) (M.ag (OP a).b1 (M.ag (rq (M.val (OP a) ((0,0),0))).b1 (M.pure (M.val (rq (M.val (OP a) ((0,0),0))) [],x.2.1,())))))
def Yd(OQ:H.aR×Int->M ((Int×Int)×Int))(rq:(Int×Int)×Int->M aH)(x:z1'×aX×Unit):M (aH×aX×Unit):=
 letI a:=(x.2.1.2,List.getD x.1 (Int.toNat 0) 0);M.ag True (M.ag ((0:Int)<=0/\0<Int.ofNat (List.length x.1)) (M.ag (OQ a).b1 (M.ag (rq (M.val (OQ a) ((0,0),0))).b1 (M.pure (M.val (rq (M.val (OQ a) ((0,0),0))) [],x.2.1,())))))
def Ye(oJ:H.aR×Int×Int->M (z1'×Int))(nV:Int×z1'->M aH)(AQ:z1'->M aH)(x:z1'×aX×Unit):M (aH×aX×Unit):=
 letI b:=Int.ofNat (List.length x.1);letI a:=(x.2.1.2,List.getD x.1 (Int.toNat 0) 0,List.getD x.1 (Int.toNat 1) 0);M.ag True (M.ag ((0:Int)<=0/\0<b) (M.ag ((0:Int)<=1/\1<b) (M.ag (oJ a).b1 (M.ag ((!(decide ((M.val (oJ a) ([],0)).2≠0)))=true->((!(decide ((M.val (oJ a) ([],0)).2≠0)))=true/\True)/\((0:Int)<=0/\0<Int.ofNat (List.length (M.val (oJ a) ([],0)).1))/\True) (if (decide ((M.val (oJ a) ([],0)).2≠0)||decide (List.getD (M.val (oJ a) ([],0)).1 (Int.toNat 0) (0:Int)>=0))=true then M.bind (nV ((M.val (oJ a) ([],0)).2,(M.val (oJ a) ([],0)).1)) λy=>M.pure (y,x.2.1,()) else if decide (Int.ofNat (List.length (M.val (oJ a) ([],0)).1)=1)=true then M.pure ([115,104,111,112],x.2.1,()) else M.ag ((0:Int)<=1/\1<=Int.ofNat (List.length (M.val (oJ a) ([],0)).1)/\Int.ofNat (List.length (M.val (oJ a) ([],0)).1)<=Int.ofNat (List.length (M.val (oJ a) ([],0)).1)) (M.bind (AQ (List.drop (Int.toNat 1) (List.take (Int.toNat (Int.ofNat (List.length (M.val (oJ a) ([],0)).1))) (M.val (oJ a) ([],0)).1))) (λy=>M.ag (b2 (Add.add (Add.add (Add.add (Add.add (Add.add (Add.add 0 1) 1) 1) 1) 1) (List.length y))) (M.pure ([115,104,111,112,32]++y,x.2.1,())))))))))
def Yf(Eb:H.aR×Int->M (z1'×z1'×Int))(nV:Int×z1'->M aH)(AQ:z1'->M aH)(x:z1'×aX×Unit):M (aH×aX×Unit):=
 letI a:=(x.2.1.2,List.getD x.1 (Int.toNat 0) 0);M.ag True (M.ag ((0:Int)<=0/\0<Int.ofNat (List.length x.1)) (M.ag (Eb a).b1 (if decide ((M.val (Eb a) ([],[],0)).2.2≠0)=true then M.bind (nV ((M.val (Eb a) ([],[],0)).2.2,[])) λy=>M.pure (y,x.2.1,()) else M.bind (AQ (M.val (Eb a) ([],[],0)).1) λy=>M.ag (b2 (Add.add (List.length y) (Add.add (Add.add (Add.add 0 1) 1) 1))) (M.bind (AQ (M.val (Eb a) ([],[],0)).2.1) (λbH=>M.ag (b2 (Add.add (List.length (y++[32,47,32])) (List.length bH))) (M.pure (y++[32,47,32]++bH,x.2.1,())))))))
def Yg(Hh:be×Int->M ((Int×Int)×Int))(uj:bt×Unit->M (vN))(DD:z2'×List (List (Int×z1'×Int×Int))×Int×z2'->M Int)(x:z1'×aX×Unit):M (aH×aX×Unit):=
 letI c:=List.getD x.1 (Int.toNat 0) 0;letI b:=Int.ofNat (List.length x.1);M.ag True (M.bind (uj (x.2.1.1,())) (λy=>letI d:=y.2.2.2.2;letI a:=(y.1,y.2.1,y.2.2.1,d.1++[(c,List.getD x.1 (Int.toNat 1) 0,List.getD x.1 (Int.toNat 2) 0,List.getD x.1 (Int.toNat 3) 0)]);M.ag True (M.ag ((0:Int)<=0/\0<b) (M.ag ((0:Int)<=1/\1<b) (M.ag ((0:Int)<=2/\2<b) (M.ag ((0:Int)<=3/\3<b) (M.ag (b2 (Add.add (List.length d.1) (Add.add 0 1))) (M.ag True (M.ag True (M.bind (DD a) (λbH=>if decide (bH≠0)=true then M.pure ([110,111],x.2.1,()) else M.ag True (M.ag ((0:Int)<=0/\0<b) (M.ag (Hh (a,c)).b1 (if decide ((M.val (Hh (a,c)) ((0,0),0)).2≠0)=true then M.pure ([108,105,97,114],x.2.1,()) else M.ag True (M.pure ([111,107],((a,d.2.1,d.2.2.1,d.2.2.2.1,d.2.2.2.2.1,y.2.2.2.1),x.2.1.2),()))))))))))))))))
def Yh(vs:be×Int×Int×Int->M (Int×Int))(nV:Int×z1'->M aH)(x:z1'×aX×Unit):M (aH×aX×Unit):=
 letI b:=Int.ofNat (List.length x.1);letI a:=(x.2.1.1.1,List.getD x.1 (Int.toNat 0) 0,List.getD x.1 (Int.toNat 1) 0,List.getD x.1 (Int.toNat 2) 0);M.ag True (M.ag ((0:Int)<=0/\0<b) (M.ag ((0:Int)<=1/\1<b) (M.ag ((0:Int)<=2/\2<b) (M.ag (vs a).b1 (if decide ((M.val (vs a) (0,0)).2≠0)=true then M.bind (nV ((M.val (vs a) (0,0)).2,[])) λy=>M.pure (y,x.2.1,()) else M.ag (0<=(M.val (vs a) (0,0)).1/\(M.val (vs a) (0,0)).1<Int.ofNat 4) (M.pure (List.getD [[],[115,117,114,101,108,121],[110,101,118,101,114],[112,101,114,104,97,112,115]] (Int.toNat (M.val (vs a) (0,0)).1) [],x.2.1,())))))))
def Yi(uj:bt×Unit->M (vN))(x9:bt×aX×Unit->M (aH×aX×Unit))(x:z1'×aX×Unit):M (aH×aX×Unit):=
 letI c:=Int.ofNat (List.length x.1);letI a:=List.getD x.1 (Int.toNat 0) 0;M.ag True (M.bind (uj (x.2.1.1,())) (λy=>letI d:=y.2.2.2.2.2;letI b:=Int.ofNat (List.length d.1);M.ag ((0:Int)<=0/\0<c) (if decide (a>=b)=true then M.pure ([110,111],x.2.1,()) else M.ag ((0:Int)<=0/\0<c) (M.ag (0<=a/\a<b) (M.ag ((0:Int)<=1/\1<c) (M.ag (0<=a/\a<b) (M.bind (x9 (((y.1,y.2.1,y.2.2.1,y.2.2.2.2.1),List.set d.1 (Int.toNat a) (IntKind.wrap .i64 (Add.add (List.getD d.1 (Int.toNat a) 0) (List.getD x.1 (Int.toNat 1) 0))),d.2.1,d.2.2.1,d.2.2.2.1,y.2.2.2.1),x.2.1,())) (λy=>M.pure (y.1,y.2.1,())))))))))
def Yj(DH:bt->M Int)(x:bt×aX×Unit):M (aH×aX×Unit):=
 M.bind (DH x.1) λy=>if decide (y≠0)=true then M.pure ([110,111],x.2.1,()) else M.ag True (M.pure ([111,107],(x.1,x.2.1.2),()))
def Yk(uj:bt×Unit->M (vN))(x9:bt×aX×Unit->M (aH×aX×Unit))(x:z1'×aX×Unit):M (aH×aX×Unit):=
 letI a:=Int.ofNat (List.length x.1);M.ag True (M.bind (uj (x.2.1.1,())) (λy=>letI b:=y.2.2.2.2.2;M.ag ((0:Int)<=0/\0<a) (M.ag ((0:Int)<=1/\1<a) (M.ag ((0:Int)<=2/\2<a) (M.ag (b2 (Add.add (List.length b.2.2.2.1) (Add.add 0 1))) (M.bind (x9 (((y.1,y.2.1,y.2.2.1,y.2.2.2.2.1),b.1,b.2.1,b.2.2.1,b.2.2.2.1++[(List.getD x.1 (Int.toNat 0) 0,List.getD x.1 (Int.toNat 1) 0,List.getD x.1 (Int.toNat 2) 0)],y.2.2.2.1),x.2.1,())) (λy=>M.pure (y.1,y.2.1,()))))))))
def Yl(uj:bt×Unit->M (vN))(x9:bt×aX×Unit->M (aH×aX×Unit))(x:z1'×aX×Unit):M (aH×aX×Unit):=
 letI a:=Int.ofNat (List.length x.1);M.ag True (M.bind (uj (x.2.1.1,())) (λy=>letI b:=y.2.2.2.2.2;M.ag ((0:Int)<=0/\0<a) (M.ag ((0:Int)<=1/\1<a) (M.ag ((0:Int)<=2/\2<a) (M.ag ((0:Int)<=3/\3<a) (M.ag ((0:Int)<=4/\4<=a/\a<=a) (M.ag (b2 (Add.add (List.length b.2.1) (Add.add 0 1))) (M.bind (x9 (((y.1,y.2.1,y.2.2.1,y.2.2.2.2.1),b.1,b.2.1++[(List.getD x.1 (Int.toNat 0) 0,List.getD x.1 (Int.toNat 1) 0,List.getD x.1 (Int.toNat 2) 0,List.getD x.1 (Int.toNat 3) 0,List.drop (Int.toNat 4) (List.take (Int.toNat a) x.1))],b.2.2.1,b.2.2.2.1,y.2.2.2.1),x.2.1,())) (λy=>M.pure (y.1,y.2.1,()))))))))))
def Ym(uj:bt×Unit->M (vN))(x9:bt×aX×Unit->M (aH×aX×Unit))(x:z1'×aX×Unit):M (aH×aX×Unit):=
 letI a:=Int.ofNat (List.length x.1);M.ag True (M.bind (uj (x.2.1.1,())) (λy=>letI b:=y.2.2.2.2.2;M.ag ((0:Int)<=0/\0<a) (M.ag ((0:Int)<=1/\1<a) (M.ag ((0:Int)<=2/\2<a) (M.ag ((0:Int)<=3/\3<a) (M.ag ((0:Int)<=4/\4<a) (M.ag ((0:Int)<=5/\5<=a/\a<=a) (M.ag (b2 (Add.add (List.length b.2.2.1) (Add.add 0 1))) (M.bind (x9 (((y.1,y.2.1,y.2.2.1,y.2.2.2.2.1),b.1,b.2.1,b.2.2.1++[(List.drop (Int.toNat 5) (List.take (Int.toNat a) x.1),(List.getD x.1 (Int.toNat 0) 0,List.getD x.1 (Int.toNat 1) 0),List.getD x.1 (Int.toNat 2) 0,List.getD x.1 (Int.toNat 3) 0,List.getD x.1 (Int.toNat 4) 0)],b.2.2.2.1,y.2.2.2.1),x.2.1,())) (λy=>M.pure (y.1,y.2.1,())))))))))))
def Yn(Yo:List dt->M (List dt))(am6:Int×Int×List dt×Unit->M ((Nat×Nat)×List dt×Unit))(x:z1'×aX×Unit):M (aH×aX×Unit):=
 letI c:=x.2.1.1.2.2;letI b:=List.getD x.1 (Int.toNat 0) 0;letI a:=(0:Int)<=0/\0<Int.ofNat (List.length x.1);M.ag a (M.ag True (if decide (b>=Int.ofNat (List.length c.2.1))=true then M.pure ([110,111],x.2.1,()) else M.ag True (M.ag (Yo c.2.1).b1 (M.ag a (M.ag a (M.bind (am6 (b,IntKind.wrap .i64 (Add.add b 1),M.val (Yo c.2.1) [],())) (λy=>M.ag True (M.pure ([111,107],((x.2.1.1.1,x.2.1.1.2.1,c.1,List.drop y.1.1 (List.take y.1.2 y.2.1),c.2.2),x.2.1.2),())))))))))
def Yp(OR:bt×Int->M (z1'×Int))(nV:Int×z1'->M aH)(x:z1'×aX×Unit):M (aH×aX×Unit):=
 letI a:=(x.2.1.1,List.getD x.1 (Int.toNat 0) 0);M.ag True (M.ag ((0:Int)<=0/\0<Int.ofNat (List.length x.1)) (M.ag (OR a).b1 (M.bind (nV ((M.val (OR a) ([],0)).2,(M.val (OR a) ([],0)).1)) (λy=>M.pure (y,x.2.1,())))))
def Yq(am7:bt×z1'->M (Int×Int))(am8:z1'×Unit->M (z1'×Unit))(nV:Int×z1'->M aH)(x:z1'×aX×Unit):M (aH×aX×Unit):=
 M.bind (am8 (x.1,())) λy=>M.bind (M.loop (λ(A:Int×Int×z1'×aX×Unit)=>letI b:=A.2;letI a:=0<=b.1/\b.1<Int.ofNat (List.length b.2.1);if decide (b.1<A.1)=true then M.ag a (M.ag a (M.pure (ab.next (A.1,IntKind.wrap .i64 (Add.add b.1 1),List.set b.2.1 (Int.toNat b.1) (IntKind.wrap .i64 (List.getD b.2.1 (Int.toNat b.1) 0-1)),b.2.2.1,())))) else M.bind (M.pure (ab.next (b.2.1,b.2.2.1,()))) λr=>M.pure (ab.done r)) (Int.ofNat (List.length y.1),0,y.1,x.2.1,())) (ab.bm (λ(A:z1'×aX×Unit)=>M.ag True (M.bind (am7 (A.2.1.1,A.1)) (λy=>M.bind (nV (y.2,[y.1])) λy=>M.pure (y,A.2.1,())))))
def Yr(am9:bt->M (Int×Int))(nV:Int×z1'->M aH)(x:z1'×aX×Unit):M (aH×aX×Unit):=
 M.ag True (M.bind (am9 x.2.1.1) (λy=>M.bind (nV (y.2,[y.1])) λy=>M.pure (y,x.2.1,())))
def Ys(am_:bt->M (Int×Int))(nV:Int×z1'->M aH)(x:z1'×aX×Unit):M (aH×aX×Unit):=
 M.ag True (M.bind (am_ x.2.1.1) (λy=>M.bind (nV (y.2,[y.1])) λy=>M.pure (y,x.2.1,())))
def Yt(am':H.aR×H.aR->M Bool)(ana:be×be->M Bool)(vO:z1'×z1'->M Bool)(x:aX×aX):M Bool:=
 letI l:=x.2.1.2.2;letI k:=x.1.1.2.2;M.bind (am' (x.1.2,x.2.2)) λy=>M.bind (b7 (!(!y)) (ana (x.1.1.1,x.2.1.1)) false) λbH=>M.bind (b7 (!(!y||!bH)) (vO (x.1.1.2.1,x.2.1.2.1)) false) λdv=>if (!y||!bH||!dv||decide (Int.ofNat (List.length k.1)≠Int.ofNat (List.length l.1))||decide (Int.ofNat (List.length k.2.1)≠Int.ofNat (List.length l.2.1))||decide (Int.ofNat (List.length k.2.2.1)≠Int.ofNat (List.length l.2.2.1))||decide (k.2.2.2≠l.2.2.2))=true then M.pure false else M.bind (M.loop (λ(A:Int×bt×bt×Unit)=>letI m:=A.2.2.1;letI j:=A.1<Int.ofNat (List.length A.2.1.2.2.1);letI e:=List.getD A.2.1.2.2.1 (Int.toNat A.1) (0,0,0,0,[]);letI d:=List.getD m.2.2.1 (Int.toNat A.1) (0,0,0,0,[]);letI a:=decide (e.1≠d.1)||decide (e.2.1≠d.2.1)||decide (e.2.2.1≠d.2.2.1)||decide (e.2.2.2.1≠d.2.2.2.1);if decide j=true then M.ag (0<=A.1/\j) (M.ag (0<=A.1/\A.1<Int.ofNat (List.length m.2.2.1)) (M.bind (b7 (!a) (vO (e.2.2.2.2,d.2.2.2.2)) false) (λy=>if (a||!y)=true then M.bind (M.bind (M.pure false) (λr=>M.pure (ab.done r))) λr=>M.pure (ab.done r) else M.pure (ab.next (IntKind.wrap .i64 (Add.add A.1 1),A.2.1,m,()))))) else M.bind (M.pure (ab.next (A.2.1,m,()))) λr=>M.pure (ab.done r)) (0,x.1.1,x.2.1,())) (ab.bm (λ(A:bt×bt×Unit)=>M.bind (M.loop (λ(A:Int×bt×bt×Unit)=>letI n:=A.2.2.1;letI i:=A.1<Int.ofNat (List.length A.2.1.2.2.2.1);letI c:=List.getD A.2.1.2.2.2.1 (Int.toNat A.1) ([],(0,0),0,0,0);letI b:=List.getD n.2.2.2.1 (Int.toNat A.1) ([],(0,0),0,0,0);if decide i=true then M.ag (0<=A.1/\i) (M.ag (0<=A.1/\A.1<Int.ofNat (List.length n.2.2.2.1)) (M.bind (vO (c.1,b.1)) (λy=>if (!y||!(decide (c.2.1.1=b.2.1.1)&&decide (c.2.1.2=b.2.1.2))||decide (c.2.2.1≠b.2.2.1)||decide (c.2.2.2.1≠b.2.2.2.1)||decide (c.2.2.2.2≠b.2.2.2.2))=true then M.bind (M.bind (M.pure false) (λr=>M.pure (ab.done r))) λr=>M.pure (ab.done r) else M.pure (ab.next (IntKind.wrap .i64 (Add.add A.1 1),A.2.1,n,()))))) else M.bind (M.pure (ab.next (A.2.1,n,()))) λr=>M.pure (ab.done r)) (0,A.1,A.2.1,())) (ab.bm (λ(A:bt×bt×Unit)=>M.bind (M.loop (λ(A:Int×bt×bt×Unit)=>letI h:=A.1<Int.ofNat (List.length A.2.1.2.2.2.2.1);letI g:=List.getD A.2.1.2.2.2.2.1 (Int.toNat A.1) (0,0,0);letI f:=List.getD A.2.2.1.2.2.2.2.1 (Int.toNat A.1) (0,0,0);if decide h=true then M.ag (0<=A.1/\h) (M.ag (0<=A.1/\A.1<Int.ofNat (List.length A.2.2.1.2.2.2.2.1)) (if (!(decide (g.1=f.1)&&(decide (g.2.1=f.2.1)&&decide (g.2.2=f.2.2))))=true then M.bind (M.bind (M.pure false) (λr=>M.pure (ab.done r))) λr=>M.pure (ab.done r) else M.pure (ab.next (IntKind.wrap .i64 (Add.add A.1 1),A.2.1,A.2.2.1,())))) else M.bind (M.pure (ab.next ())) λr=>M.pure (ab.done r)) (0,A.1,A.2.1,())) (ab.bm (λ(A:Unit)=>M.pure true))))))
def Yu(vO:z1'×z1'->M Bool)(x:H.aR×H.aR):M Bool:=
 letI e:=x.2.2.2.2.2.2;letI d:=x.1.2.2.2.2.2;letI c:=decide (Int.ofNat (List.length x.1.1)≠Int.ofNat (List.length x.2.1))||decide (Int.ofNat (List.length x.1.2.1)≠Int.ofNat (List.length x.2.2.1));M.bind (b7 (!c) (vO (x.1.2.2.1,x.2.2.2.1)) false) λy=>if (c||!y||decide (Int.ofNat (List.length x.1.2.2.2.1)≠Int.ofNat (List.length x.2.2.2.2.1))||!(decide (x.1.2.2.2.2.1=x.2.2.2.2.2.1)&&(decide (d.1=e.1)&&(decide (d.2.1=e.2.1)&&(decide (d.2.2.1=e.2.2.1)&&(decide (d.2.2.2.1=e.2.2.2.1)&&(decide (d.2.2.2.2.1=e.2.2.2.2.1)&&decide (d.2.2.2.2.2=e.2.2.2.2.2))))))))=true then M.pure false else M.bind (M.loop (λ(A:Int×H.aR×H.aR×Unit)=>letI m:=A.2.2.1;letI l:=A.1<Int.ofNat (List.length A.2.1.1);letI j:=List.getD A.2.1.1 (Int.toNat A.1) (0,0);letI h:=List.getD m.1 (Int.toNat A.1) (0,0);if decide l=true then M.ag (0<=A.1/\l) (M.ag (0<=A.1/\A.1<Int.ofNat (List.length m.1)) (if (!(decide (j.1=h.1)&&decide (j.2=h.2)))=true then M.bind (M.bind (M.pure false) (λr=>M.pure (ab.done r))) λr=>M.pure (ab.done r) else M.pure (ab.next (IntKind.wrap .i64 (Add.add A.1 1),A.2.1,m,())))) else M.bind (M.pure (ab.next (A.2.1,m,()))) λr=>M.pure (ab.done r)) (0,x.1,x.2,())) (ab.bm (λ(A:H.aR×H.aR×Unit)=>M.bind (M.loop (λ(A:Int×H.aR×H.aR×Unit)=>letI n:=A.2.2.1;letI k:=A.1<Int.ofNat (List.length A.2.1.2.1);letI b:=List.getD A.2.1.2.1 (Int.toNat A.1) (0,0,0,0,0,0);letI a:=List.getD n.2.1 (Int.toNat A.1) (0,0,0,0,0,0);if decide k=true then M.ag (0<=A.1/\k) (M.ag (0<=A.1/\A.1<Int.ofNat (List.length n.2.1)) (if (!(decide (b.1=a.1)&&(decide (b.2.1=a.2.1)&&(decide (b.2.2.1=a.2.2.1)&&(decide (b.2.2.2.1=a.2.2.2.1)&&(decide (b.2.2.2.2.1=a.2.2.2.2.1)&&decide (b.2.2.2.2.2=a.2.2.2.2.2)))))))=true then M.bind (M.bind (M.pure false) (λr=>M.pure (ab.done r))) λr=>M.pure (ab.done r) else M.pure (ab.next (IntKind.wrap .i64 (Add.add A.1 1),A.2.1,n,())))) else M.bind (M.pure (ab.next (A.2.1,n,()))) λr=>M.pure (ab.done r)) (0,A.1,A.2.1,())) (ab.bm (λ(A:H.aR×H.aR×Unit)=>M.bind (M.loop (λ(A:Int×H.aR×H.aR×Unit)=>letI i:=A.1<Int.ofNat (List.length A.2.1.2.2.2.1);letI g:=List.getD A.2.1.2.2.2.1 (Int.toNat A.1) (0,0);letI f:=List.getD A.2.2.1.2.2.2.1 (Int.toNat A.1) (0,0);if decide i=true then M.ag (0<=A.1/\i) (M.ag (0<=A.1/\A.1<Int.ofNat (List.length A.2.2.1.2.2.2.1)) (if (!(decide (g.1=f.1)&&decide (g.2=f.2)))=true then M.bind (M.bind (M.pure false) (λr=>M.pure (ab.done r))) λr=>M.pure (ab.done r) else M.pure (ab.next (IntKind.wrap .i64 (Add.add A.1 1),A.2.1,A.2.2.1,())))) else M.bind (M.pure (ab.next ())) λr=>M.pure (ab.done r)) (0,A.1,A.2.1,())) (ab.bm (λ(A:Unit)=>M.pure true))))))
def Yv(x:z1'×z1'):M Bool:=
 if decide (Int.ofNat (List.length x.1)≠Int.ofNat (List.length x.2))=true then M.pure false else M.bind (M.loop (λ(A:z1'×z1'×Int×Unit)=>letI a:=A.2.2.1;letI b:=a<Int.ofNat (List.length A.1);if decide b=true then M.ag (0<=a/\b) (M.ag (0<=a/\a<Int.ofNat (List.length A.2.1)) (if decide (List.getD A.1 (Int.toNat a) 0≠List.getD A.2.1 (Int.toNat a) 0)=true then M.bind (M.bind (M.pure false) (λr=>M.pure (ab.done r))) λr=>M.pure (ab.done r) else M.pure (ab.next (A.1,A.2.1,IntKind.wrap .i64 (Add.add a 1),())))) else M.bind (M.pure (ab.next ())) λr=>M.pure (ab.done r)) (x.1,x.2,0,())) (ab.bm (λ(A:Unit)=>M.pure true))
def Yw(vO:z1'×z1'->M Bool)(x:be×be):M Bool:=
 if (decide (Int.ofNat (List.length x.1.1)≠Int.ofNat (List.length x.2.1))||decide (Int.ofNat (List.length x.1.2.1)≠Int.ofNat (List.length x.2.2.1))||decide (x.1.2.2.1≠x.2.2.2.1)||decide (Int.ofNat (List.length x.1.2.2.2)≠Int.ofNat (List.length x.2.2.2.2)))=true then M.pure false else M.bind (M.loop (λ(A:Int×be×be×Unit)=>letI y:=A.2.2.1;letI t:=A.1<Int.ofNat (List.length A.2.1.1);letI j:=List.getD A.2.1.1 (Int.toNat A.1) (0,0,0,0);letI i:=List.getD y.1 (Int.toNat A.1) (0,0,0,0);if decide t=true then M.ag (0<=A.1/\t) (M.ag (0<=A.1/\A.1<Int.ofNat (List.length y.1)) (if (!(decide (j.1=i.1)&&(decide (j.2.1=i.2.1)&&(decide (j.2.2.1=i.2.2.1)&&decide (j.2.2.2=i.2.2.2)))))=true then M.bind (M.bind (M.pure false) (λr=>M.pure (ab.done r))) λr=>M.pure (ab.done r) else M.pure (ab.next (IntKind.wrap .i64 (Add.add A.1 1),A.2.1,y,())))) else M.bind (M.pure (ab.next (A.2.1,y,()))) λr=>M.pure (ab.done r)) (0,x.1,x.2,())) (ab.bm (λ(A:be×be×Unit)=>M.bind (M.loop (λ(A:Int×be×be×Unit)=>letI z:=A.2.2.1;letI q:=A.1<Int.ofNat (List.length A.2.1.2.2.2);letI h:=List.getD A.2.1.2.2.2 (Int.toNat A.1) (0,0,0,0);letI f:=List.getD z.2.2.2 (Int.toNat A.1) (0,0,0,0);if decide q=true then M.ag (0<=A.1/\q) (M.ag (0<=A.1/\A.1<Int.ofNat (List.length z.2.2.2)) (if (!(decide (h.1=f.1)&&(decide (h.2.1=f.2.1)&&(decide (h.2.2.1=f.2.2.1)&&decide (h.2.2.2=f.2.2.2)))))=true then M.bind (M.bind (M.pure false) (λr=>M.pure (ab.done r))) λr=>M.pure (ab.done r) else M.pure (ab.next (IntKind.wrap .i64 (Add.add A.1 1),A.2.1,z,())))) else M.bind (M.pure (ab.next (A.2.1,z,()))) λr=>M.pure (ab.done r)) (0,A.1,A.2.1,())) (ab.bm (λ(A:be×be×Unit)=>M.bind (M.loop (λ(A:Int×be×be×Unit)=>letI s:=A.1<Int.ofNat (List.length A.2.1.2.1);letI p:=Int.toNat A.1;letI v:=List.getD A.2.1.2.1 p [];letI u:=List.getD A.2.2.1.2.1 p [];if decide s=true then M.bind (M.ag (0<=A.1/\s) (M.ag (0<=A.1/\A.1<Int.ofNat (List.length A.2.2.1.2.1)) (if decide (Int.ofNat (List.length v)≠Int.ofNat (List.length u))=true then M.bind (M.bind (M.bind (M.pure false) (λr=>M.pure (ab.done r))) (λr=>M.pure (ab.done r))) λr=>M.pure (ab.done r) else M.loop (λ(A:Int×List (Int×z1'×Int×Int)×List (Int×z1'×Int×Int)×Int×be×be×Unit)=>letI n:=A.2.2.2;letI l:=0<=n.1/\n.1<Int.ofNat (List.length A.2.2.1);letI k:=n.1<Int.ofNat (List.length A.2.1);letI w:=0<=n.1/\k;letI d:=List.getD A.2.1 (Int.toNat n.1) (0,[],0,0);letI c:=List.getD A.2.2.1 (Int.toNat n.1) (0,[],0,0);letI b:=decide (d.1≠c.1);letI g:=(!b)=true;letI o:=g->g/\True/\True;letI a:=b||!(decide (d.2.2.1=c.2.2.1)&&decide (d.2.2.2=c.2.2.2));letI e:=(!a)=true;letI m:=e->e/\True/\True;if decide k=true then M.ag w (M.ag l (M.ag (g->(g/\g)/\w/\True) (M.ag o (M.ag o (M.ag (g->(g/\g)/\l/\True) (M.ag o (M.ag o (M.ag (g->(g/\g)/\True/\True) (M.ag (True/\(b=false->g)) (M.ag (e->(e/\e)/\w/\True) (M.ag m (M.ag m (M.ag (e->(e/\e)/\l/\True) (M.ag m (M.ag m (M.ag (e->(e/\e/\True)/\(vO (d.2.1,c.2.1)).b1/\True) (M.ag m (M.ag (True/\(a=false->e)) (if (a||!(M.val (vO (d.2.1,c.2.1)) false))=true then M.bind (M.bind (M.bind (M.bind (M.pure false) (λr=>M.pure (ab.done r))) (λr=>M.pure (ab.done r))) (λr=>M.pure (ab.done r))) λr=>M.pure (ab.done r) else M.pure (ab.next (A.1,A.2.1,A.2.2.1,IntKind.wrap .i64 (Add.add n.1 1),n.2.1,n.2.2.1,()))))))))))))))))))))) else M.bind (M.pure (ab.next (A.1,n.2.1,n.2.2.1,()))) λr=>M.pure (ab.done r)) (A.1,v,u,0,A.2.1,A.2.2.1,())))) (ab.bm (λ(A:Int×be×be×Unit)=>M.pure (ab.next (IntKind.wrap .i64 (Add.add A.1 1),A.2.1,A.2.2.1,())))) else M.bind (M.pure (ab.next ())) λr=>M.pure (ab.done r)) (0,A.1,A.2.1,())) (ab.bm (λ(A:Unit)=>M.pure true))))))
def Yx(OS:aX×List aH->M Bool)(OT:aX->M Int)(x:aX×List aH×Int):M Bool:=
 M.bind (OS (x.1,x.2.1)) λy=>M.bind (b7 (!y) (OT x.1) 0) λbH=>M.pure (!y&&decide (bH=0)&&decide (Int.ofNat (List.length x.2.1)<=x.2.2))
def Yy(OT:aX->M Int)(anb:bt->M Bool)(anc:H.aR->M Bool)(Ec:aH->M (aH×z1'×Bool))(x:aX×List aH):M Bool:=
 M.bind (anb x.1.1) λy=>M.bind (b7 (!y) (anc x.1.2) false) λbH=>if (y||bH||decide (Int.ofNat (List.length x.2) > 60))=true then M.pure true else M.bind (M.loop (λ(A:List aH×Int×Int×Int×Int×Int×aX×Unit)=>letI h:=A.2.2.2;letI b:=h.2.2;letI e:=b.1<Int.ofNat (List.length b.2.1.1.2.2.1);if decide e=true then M.ag (0<=b.1/\e) (M.pure (ab.next (A.1,A.2.1,A.2.2.1,h.1,IntKind.wrap .i64 (Add.add h.2.1 (Int.ofNat (List.length (List.getD b.2.1.1.2.2.1 (Int.toNat b.1) (0,0,0,0,[])).2.2.2.2))),IntKind.wrap .i64 (Add.add b.1 1),b.2.1,()))) else M.bind (M.pure (ab.next (A.1,A.2.1,A.2.2.1,h.1,h.2.1,b.2.1,()))) λr=>M.pure (ab.done r)) (x.2,Int.ofNat (List.length x.1.1.2.2.2.1),Int.ofNat (List.length x.1.1.2.2.1),Int.ofNat (List.length x.1.1.2.2.2.2.1),0,0,x.1,())) (ab.bm (λ(A:List aH×Int×Int×Int×Int×aX×Unit)=>M.bind (M.loop (λ(A:List aH×Int×Int×Int×Int×Int×aX×Unit)=>letI j:=A.2.1;letI d:=A.2.2;letI a:=d.2.2;letI i:=a.2.1;letI g:=a.2.2.1;letI f:=List.getD A.1 (Int.toNat i) [];letI c:=i<Int.ofNat (List.length A.1);if decide c=true then M.bind (M.ag (0<=i/\c) (if decide (Int.ofNat (List.length f) > 80)=true then M.bind (M.bind (M.bind (M.pure true) (λr=>M.pure (ab.done r))) (λr=>M.pure (ab.done r))) λr=>M.pure (ab.done r) else M.ag (0<=i/\c) (M.bind (Ec f) (λy=>if (!y.2.2)=true then M.pure (ab.next (A.1,j,d.1,d.2.1,a.1,i,g,())) else if decide (y.1=[119,105,115,104])=true then M.pure (ab.next (A.1,IntKind.wrap .i64 (Add.add j 1),d.1,d.2.1,a.1,i,g,())) else if decide (y.1=[112,105,101,99,101])=true then M.pure (ab.next (A.1,j,IntKind.wrap .i64 (Add.add d.1 1),d.2.1,IntKind.wrap .i64 (Add.add a.1 (IntKind.wrap .i64 (Int.ofNat (List.length y.2.1)-4))),i,g,())) else if decide (y.1=[99,111,109,101,115])=true then M.pure (ab.next (A.1,j,d.1,IntKind.wrap .i64 (Add.add d.2.1 1),a.1,i,g,())) else M.pure (ab.next (A.1,j,d.1,d.2.1,a.1,i,g,())))))) (ab.bm (λ(A:List aH×Int×Int×Int×Int×Int×aX×Unit)=>letI k:=A.2.2.2;M.pure (ab.next (A.1,A.2.1,A.2.2.1,k.1,k.2.1,IntKind.wrap .i64 (Add.add k.2.2.1 1),k.2.2.2.1,())))) else M.bind (M.pure (ab.next (j,d.1,d.2.1,a.1,g,()))) λr=>M.pure (ab.done r)) (A.1,A.2.1,A.2.2.1,A.2.2.2.1,A.2.2.2.2.1,0,A.2.2.2.2.2.1,())) (ab.bm (λ(A:Int×Int×Int×Int×aX×Unit)=>M.bind (OT A.2.2.2.2.1) λy=>M.pure (decide (y=0)&&(decide (A.1 > 3)||decide (A.2.1 > 4)||decide (A.2.2.1 > 3)||decide (A.2.2.2.1 > 4)))))))
def Yz(ane:aH->M (List aH))(anf:aH->M Int)(ang:Unit->M (List aH×z1'×z1'))(x:aH):M (aH×z1'×Bool):=
 M.bind (ane x) λy=>M.bind (M.loop (λ(A:List aH×Int×z1'×Unit)=>letI j:=A.2.1<Int.ofNat (List.length A.1);if decide j=true then M.ag (0<=A.2.1/\j) (M.bind (anf (List.getD A.1 (Int.toNat A.2.1) [])) (λy=>if decide (y<0)=true then M.bind (M.bind (M.pure ([],[],false)) (λr=>M.pure (ab.done r))) λr=>M.pure (ab.done r) else M.ag (b2 (Add.add (List.length A.2.2.1) (Add.add 0 1))) (M.pure (ab.next (A.1,IntKind.wrap .i64 (Add.add A.2.1 1),A.2.2.1++[y],()))))) else M.bind (M.pure (ab.next (A.1,A.2.2.1,()))) λr=>M.pure (ab.done r)) (y,1,[],())) (ab.bm (λ(A:List aH×z1'×Unit)=>M.bind (ang ()) λy=>M.bind (M.loop (λ(A:List aH×List aH×z1'×z1'×Int×z1'×Unit)=>letI l:=List.getD A.1 (Int.toNat 0) [];letI h:=(0:Int)<=0/\0<Int.ofNat (List.length A.1);letI c:=A.2.2.2;letI m:=c.2.1;letI k:=Int.ofNat (List.length c.2.2.1);letI i:=m<Int.ofNat (List.length A.2.1);letI g:=Int.toNat m;letI f:=(0<=m/\m<Int.ofNat (List.length c.1))/\True;letI d:=decide (List.getD c.1 g (0:Int)<0);letI a:=decide (k>=List.getD A.2.2.1 g 0);letI e:=a=true;letI b:=(a&&!d)=true;letI n:=b->b/\True/\True;if decide i=true then M.ag (0<=m/\i) (M.ag h (if decide (List.getD A.2.1 g []=l)=true then M.ag h (M.ag (0<=m/\m<Int.ofNat (List.length A.2.2.1)) (M.ag (e->(e/\e)/\f) (M.ag (e->e/\True/\True) (M.ag (e->(e/\True)/\True/\True) (M.ag (e->True/\True/\e) (M.ag n (M.ag (b->(b/\b)/\f) (M.ag n (M.ag (b->(b/\b)/\True/\True) (M.ag (e->(e/\(d=false->b))/\True/\True) (M.ag (True/\(e->e)) (M.bind (M.bind (M.pure (l,c.2.2.1,a&&(d||decide (k<=List.getD c.1 g 0)))) (λr=>M.pure (ab.done r))) (λr=>M.pure (ab.done r)))))))))))))) else M.pure (ab.next (A.1,A.2.1,A.2.2.1,c.1,IntKind.wrap .i64 (Add.add m 1),c.2.2.1,())))) else M.bind (M.pure (ab.next ())) λr=>M.pure (ab.done r)) (A.1,y.1,y.2.1,y.2.2,0,A.2.1,())) (ab.bm (λ(A:Unit)=>M.pure ([],[],false)))))
def YA(x:aH):M (List aH):=
 M.bind (M.loop (λ(A:aH×Int×List aH×Unit)=>letI g:=A.2.1;letI f:=A.2.2.1;letI e:=Int.ofNat (List.length A.1);letI c:=Int.ofNat (List.length f);letI b:=IntKind.wrap .i64 (Add.add g 1);letI d:=List.drop (Int.toNat g) (List.take (Int.toNat b) A.1);letI a:=IntKind.wrap .i64 (c-1);letI h:=List.getD f (Int.toNat a) [];if decide (g<e)=true then M.bind (M.ag (0<=g/\g<e) (if decide (Int.ofNat (List.getD A.1 (Int.toNat g) 0).1.1.1=32)=true then M.ag (b2 (Add.add (List.length f) (Add.add 0 1))) (M.pure (ab.next (A.1,g,f++[[]],()))) else M.ag (0<=a/\a<c) (M.ag (0<=g/\g<=b/\b<=e) (M.ag (b2 (Add.add (List.length h) (List.length d))) (M.ag (0<=a/\a<c) (M.pure (ab.next (A.1,g,List.set f (Int.toNat a) (h++d),())))))))) (ab.bm (λ(A:aH×Int×List aH×Unit)=>M.pure (ab.next (A.1,IntKind.wrap .i64 (Add.add A.2.1 1),A.2.2.1,())))) else M.bind (M.pure (ab.next (f,()))) λr=>M.pure (ab.done r)) (x,0,[[]],())) (ab.bm (λ(A:List aH×Unit)=>M.pure A.1))
def YB(x:aH):M Int:=
 letI b:=Int.ofNat (List.length x);letI g:=decide (b > 1);letI d:=decide (b=0)||decide (b > 6);M.ag ((!d&&g)=true->((!d&&g)=true/\True)/\((0:Int)<=0/\0<b)/\True) (if (d||g&&decide (Int.ofNat (List.getD x (Int.toNat 0) 0).1.1.1=48))=true then M.pure (-1) else M.bind (M.loop (λ(A:aH×Int×Int×Unit)=>letI h:=A.2.2.1;letI c:=h<Int.ofNat (List.length A.1);letI f:=0<=h/\c;letI a:=Int.ofNat (List.getD A.1 (Int.toNat h) 0).1.1.1;letI e:=(!(decide (a<48)))=true;if decide c=true then M.ag f (M.ag (e->(e/\e)/\f/\True) (if (decide (a<48)||decide (a > 57))=true then M.bind (M.bind (M.pure (-1)) (λr=>M.pure (ab.done r))) λr=>M.pure (ab.done r) else M.ag f (M.pure (ab.next (A.1,IntKind.wrap .i64 (Add.add (IntKind.wrap .i64 (10*A.2.1)) (IntKind.wrap .i64 (IntKind.wrap .u8 (a-48)))),IntKind.wrap .i64 (Add.add h 1),()))))) else M.bind (M.pure (ab.next (A.2.1,()))) λr=>M.pure (ab.done r)) (x,0,0,())) (ab.bm (λ(A:Int×Unit)=>M.pure A.1)))
def anh(x:Unit):M (List aH×z1'×z1'):=
 M.pure ([[108,101,110,100],[98,97,99,107],[118,111,105,100],[108,97,115,116,115],[102,101,101],[111,119,101,115],[104,101,108,100],[119,104,101,114,101],[109,105,115,115,105,110,103],[116,114,105,97,108],[102,105,116,115],[115,116,111,99,107],[99,111,109,101,115],[112,105,101,99,101],[119,105,115,104],[100,114,111,112],[99,97,110],[116,97,107,101,115],[109,111,115,116],[101,120,116,114,97]],[5,4,1,1,1,1,1,2,1,4,3,2,3,4,5,1,1,0,0,0],[5,4,1,1,1,1,1,2,1,4,3,2,3,-1,-1,1,1,-1,0,0])
def YC(AR:aX×List aH->M (List aH×aX×Int))(HX:List aH×List aH->M Bool)(ani:Unit->M aX)(x:Unit):M Bool:=
 M.bind (ani ()) λy=>M.bind (AR (y,[[108,101,110,100,32,49,32,48,32,49,48,48,32,51,32,55],[98,97,99,107,32,50,32,48,32,49,55,49,32,51],[102,101,101,32,49],[119,104,101,114,101,32,51,32,49,55,49],[116,114,105,97,108,32,49,32,48,32,48,32,48],[115,116,111,99,107,32,48,32,49],[101,120,116,114,97],[100,114,111,112,32,51],[101,120,116,114,97]])) λy=>M.bind (b7 (decide (y.2.2=0)) (HX (y.1,[[111,107],[111,107],[51,48,48,32,51,48,48],[115,104,111,112],[108,105,97,114],[111,107],[49],[111,107],[48]])) false) λbH=>M.pure (decide (y.2.2=0)&&bH&&decide (Int.ofNat (List.length y.2.1.2.2.1)=2)&&decide (Int.ofNat (List.length y.2.1.1.2.2.2.1)=3))
def YD(x:List aH×List aH):M Bool:=
 if decide (Int.ofNat (List.length x.1)≠Int.ofNat (List.length x.2))=true then M.pure false else M.bind (M.loop (λ(A:List aH×List aH×Int×Unit)=>letI a:=A.2.2.1;letI b:=a<Int.ofNat (List.length A.1);if decide b=true then M.ag (0<=a/\b) (M.ag (0<=a/\a<Int.ofNat (List.length A.2.1)) (if decide (List.getD A.1 (Int.toNat a) []≠List.getD A.2.1 (Int.toNat a) [])=true then M.bind (M.bind (M.pure false) (λr=>M.pure (ab.done r))) λr=>M.pure (ab.done r) else M.pure (ab.next (A.1,A.2.1,IntKind.wrap .i64 (Add.add a 1),())))) else M.bind (M.pure (ab.next ())) λr=>M.pure (ab.done r)) (x.1,x.2,0,())) (ab.bm (λ(A:Unit)=>M.pure true))
def YE(OU:aH->M aH)(Ec:aH->M (aH×z1'×Bool))(x:aH):M Bool:=
 M.bind (Ec x) λy=>letI i:=y.2.2;M.bind (OU x) λbH=>letI h:=decide (bH=[98,97,99,107]);letI g:=decide (bH=[119,105,115,104]);letI f:=decide (bH=[118,111,105,100]);letI e:=decide (bH=[108,101,110,100]);letI d:=decide (bH=[112,105,101,99,101]);letI c:=decide (bH=[99,111,109,101,115]);letI b:=decide (bH=[115,116,111,99,107]);letI a:=decide (bH=[116,114,105,97,108]);M.bind (if e=true then M.pure (ab.next (i,e,())) else if h=true then M.pure (ab.next (i,h,())) else if f=true then M.pure (ab.next (i,f,())) else if a=true then M.pure (ab.next (i,a,())) else if b=true then M.pure (ab.next (i,b,())) else if c=true then M.pure (ab.next (i,c,())) else if d=true then M.pure (ab.next (i,d,())) else if g=true then M.pure (ab.next (i,g,())) else M.pure (ab.next (i,decide (bH=[100,114,111,112]),()))) (ab.bm (λ(A:Bool×Bool×Unit)=>if A.2.1=true then M.pure (!A.1) else M.pure true))
def YF(Ec:aH->M (aH×z1'×Bool))(x:aH):M aH:=
 M.bind (Ec x) λy=>M.pure y.1
def OV(OS:aX×List aH->M Bool)(AR:aX×List aH->M (List aH×aX×Int))(anj:aX×aX->M Bool)(ank:aX×List aH×Int->M Bool)(AS:Unit->M Bool)(HX:List aH×List aH->M Bool)(OU:aH->M aH)(anl:aH->M Bool)(x:aX×List aH×List aH):M Bool:=
 M.bind (ank (x.1,x.2.1,10)) λy=>M.bind (b7 (!(!y)) (OS (x.1,x.2.2)) false) λbH=>if (!y||bH||decide (Int.ofNat (List.length x.2.2) > 5))=true then M.bind (AS ()) λy=>M.pure y else M.bind (M.loop (λ(A:List aH×List aH×Int×aX×List aH×Unit)=>letI j:=A.2.2;letI g:=List.getD A.1 (Int.toNat j.1) [];letI d:=0<=j.1/\j.1<Int.ofNat (List.length A.1);if decide (j.1>=0)=true then M.ag d (M.bind (OU g) (λy=>if (decide (y≠[108,101,110,100])&&decide (y≠[98,97,99,107])&&decide (y≠[118,111,105,100]))=true then M.bind (AS ()) λy=>M.bind (M.bind (M.pure y) (λr=>M.pure (ab.done r))) λr=>M.pure (ab.done r) else M.ag d (M.ag d (M.ag (b2 (Add.add (List.length j.2.2.1) (Add.add (Add.add 0 1) 1))) (M.pure (ab.next (A.1,A.2.1,IntKind.wrap .i64 (j.1-1),j.2.1,j.2.2.1++[g,g],()))))))) else M.bind (M.pure (ab.next (A.1,A.2.1,j.2.1,j.2.2.1,()))) λr=>M.pure (ab.done r)) (x.2.1,x.2.2,IntKind.wrap .i64 (Int.ofNat (List.length x.2.1)-1),x.1,[],())) (ab.bm (λ(A:List aH×List aH×aX×List aH×Unit)=>M.bind (M.loop (λ(A:List aH×List aH×Int×aX×List aH×Unit)=>letI n:=A.2.2;letI i:=n.1<Int.ofNat (List.length A.2.1);if decide i=true then M.ag (0<=n.1/\i) (M.bind (anl (List.getD A.2.1 (Int.toNat n.1) [])) (λy=>if (!y)=true then M.bind (AS ()) λy=>M.bind (M.bind (M.pure y) (λr=>M.pure (ab.done r))) λr=>M.pure (ab.done r) else M.pure (ab.next (A.1,A.2.1,IntKind.wrap .i64 (Add.add n.1 1),n.2.1,n.2.2.1,())))) else M.bind (M.pure (ab.next (A.1,A.2.1,n.2.1,n.2.2.1,()))) λr=>M.pure (ab.done r)) (A.1,A.2.1,0,A.2.2.1,A.2.2.2.1,())) (ab.bm (λ(A:List aH×List aH×aX×List aH×Unit)=>letI o:=A.2.1;letI m:=A.2.2.1;letI HY:List aH×aX×Int:=M.val (AR (m,[]++A.1++o)) ([],((([],[],0,[]),[],[],[],[],0),[],[],[],[],0,0,0,0,0,0,0),0);M.ag (b2 (Add.add 0 (List.length A.1))) (M.ag (b2 (Add.add (List.length ([]++A.1)) (List.length o))) (M.ag (AR (m,[]++A.1++o)).b1 (if (decide ((HY).2.2≠0)||decide (Int.ofNat (List.length (HY).1)≠IntKind.wrap .i64 (Add.add (Int.ofNat (List.length A.1)) (Int.ofNat (List.length o)))))=true then M.pure false else M.bind (M.loop (λ(A:List aH×List aH×List aH×Int×aX×List aH×aX×Unit)=>letI q:=A.2.2.1;letI h:=A.2.2.2;if decide (h.1<Int.ofNat (List.length A.1))=true then M.ag (0<=h.1/\h.1<Int.ofNat (List.length q)) (if decide (List.getD q (Int.toNat h.1) []≠[111,107])=true then M.bind (AS ()) λy=>M.bind (M.bind (M.pure y) (λr=>M.pure (ab.done r))) λr=>M.pure (ab.done r) else M.pure (ab.next (A.1,A.2.1,q,IntKind.wrap .i64 (Add.add h.1 1),h.2.1,h.2.2.1,h.2.2.2.1,()))) else M.bind (M.pure (ab.next (A.1,A.2.1,q,h.2.1,h.2.2.1,h.2.2.2.1,()))) λr=>M.pure (ab.done r)) (A.1,o,(HY).1,0,m,A.2.2.2.1,(HY).2.1,())) (ab.bm (λ(A:List aH×List aH×List aH×aX×List aH×aX×Unit)=>letI s:=A.2.2.2;letI p:=Int.ofNat (List.length A.1);letI k:=List.length A.2.1;letI b:=(s.1,s.2.1++A.2.1);letI AT:List aH×aX×Int:=M.val (AR b) ([],((([],[],0,[]),[],[],[],[],0),[],[],[],[],0,0,0,0,0,0,0),0);M.ag (b2 (Add.add (List.length s.2.1) k)) (M.ag (AR b).b1 (M.bind (b7 (!(decide ((AT).2.2≠0)||decide (Int.ofNat (List.length (AT).1)≠IntKind.wrap .i64 (Add.add (IntKind.wrap .i64 (2*p)) (Int.ofNat k))))) (anj (s.2.2.1,(AT).2.1)) false) (λy=>if (decide ((AT).2.2≠0)||decide (Int.ofNat (List.length (AT).1)≠IntKind.wrap .i64 (Add.add (IntKind.wrap .i64 (2*p)) (Int.ofNat k)))||!y)=true then M.pure false else M.bind (M.loop (λ(A:List aH×List aH×List aH×Int×Unit)=>letI t:=A.2.2.1;letI l:=A.2.2.2.1;if decide (l<IntKind.wrap .i64 (2*Int.ofNat (List.length A.1)))=true then M.ag (0<=l/\l<Int.ofNat (List.length t)) (if decide (List.getD t (Int.toNat l) []≠[111,107])=true then M.bind (M.bind (M.pure false) (λr=>M.pure (ab.done r))) λr=>M.pure (ab.done r) else M.pure (ab.next (A.1,A.2.1,t,IntKind.wrap .i64 (Add.add l 1),()))) else M.bind (M.pure (ab.next (A.1,A.2.1,t,()))) λr=>M.pure (ab.done r)) (A.1,A.2.2.1,(AT).1,0,())) (ab.bm (λ(A:List aH×List aH×List aH×Unit)=>letI f:=Int.ofNat (List.length A.2.1);letI e:=Int.ofNat (List.length A.2.2.1);letI c:=Int.ofNat (List.length A.1);letI a:=(List.drop (Int.toNat c) (List.take (Int.toNat f) A.2.1),List.drop (Int.toNat (IntKind.wrap .i64 (2*c))) (List.take (Int.toNat e) A.2.2.1));letI HZ:Bool:=M.val (HX a) false;M.ag (0<=c/\c<=f/\f<=f) (M.ag (0<=IntKind.wrap .i64 (2*c)/\IntKind.wrap .i64 (2*c)<=e/\e<=e) (M.ag (HX a).b1 (M.ag (HZ=true->True/\(AS ()).b1/\True) (M.ag (True/\(HZ=true->HZ=true)) (M.pure (HZ&&M.val (AS ()) false))))))))))))))))))))
def H0{f_:Type}(c0:z2'->M (z2'))(c1:List (List (Int×z1'×Int×Int))->M (List (List (Int×z1'×Int×Int))))(c2:z2'->M (z2'))(c3:List (Int×z1'×Int×Int)×Unit->M (List (Int×z1'×Int×Int)×Unit))(c4:z1'->M (z1'))(c5:List dh->M (List dh))(lA:List dt->M (List dt))(n_:z3'->M (z3'))(x:bt)(fin:bt->M f_):M f_:=
 M.ag True (M.ag (c0 x.1.1).b1 (M.ag True (M.ag (c1 x.1.2.1).b1 (M.ag True (M.ag (c2 x.1.2.2.2).b1 (M.ag True (M.ag True (M.ag True (M.bind (M.ag True (M.loop (λ(A:Int×Int×Int×z1'×List dh×List dt×z3'×Int×Int×Int×z2'×List (List (Int×z1'×Int×Int))×z2'×Unit)=>letI g1:=A.2;letI s:=g1.2.2.2;letI h:=Int.toNat g1.1;letI f:=s.2.2.2;letI v:=f.2.2.2.2;if decide (g1.1<A.1)=true then M.bind (M.ag True (M.ag (0<=g1.1/\g1.1<Int.ofNat (List.length v.1)) (M.ag True (M.ag (h=h) (M.bind (c3 (List.getD v.1 h [],())) (λy=>M.ag True (M.ag (h=h) (M.ag True (M.ag (h=h) (M.loop (λ(A:Nat×Int×Int×Int×Int×Int×z1'×List dh×List dt×z3'×Int×Int×Int×z2'×(List (List (Int×z1'×Int×Int))×Nat)×z2'×List (Int×z1'×Int×Int)×Unit)=>letI g:=A.2.2.2.2;letI z:=g.2.2.2;letI a:=z.2.2.2;letI k:=a.2.2.2.2;letI u:=0<=g.1/\g.1<Int.ofNat (List.length k.2.2.1);letI e:=List.getD k.2.2.1 (Int.toNat g.1) (0,[],0,0);if decide (g.1<A.2.2.2.1)=true then M.ag True (M.ag (A.1=k.1.2) (M.ag True (M.ag (A.1=k.1.2) (M.ag u (M.ag (c4 e.2.1).b1 (M.ag u (M.pure (ab.next (A.1,A.2.1,A.2.2.1,A.2.2.2.1,IntKind.wrap .i64 (Add.add g.1 1),g.2.1,g.2.2.1,z.1,z.2.1,z.2.2.1,a.1,a.2.1,a.2.2.1,a.2.2.2.1,k.1,k.2.1,List.set k.2.2.1 (Int.toNat g.1) (e.1,M.val (c4 e.2.1) [],e.2.2),()))))))))) else M.bind (M.pure (ab.next (A.2.1,A.2.2.1,g.2.1,g.2.2.1,z.1,z.2.1,z.2.2.1,a.1,a.2.1,a.2.2.1,a.2.2.2.1,k.1,k.2.1,k.2.2.1,()))) λr=>M.pure (ab.done r)) (h,A.1,g1.1,Int.ofNat (List.length y.1),0,g1.2.1,g1.2.2.1,s.1,s.2.1,s.2.2.1,f.1,f.2.1,f.2.2.1,f.2.2.2.1,(v.1,h),v.2.1,y.1,()))))))))))) (ab.bm (λ(A:Int×Int×Int×z1'×List dh×List dt×z3'×Int×Int×Int×z2'×(List (List (Int×z1'×Int×Int))×Nat)×z2'×List (Int×z1'×Int×Int)×Unit)=>letI dd:=A.2.2.2.2;letI j:=dd.2.2.2;letI c1:=j.2.2.2.2;M.pure (ab.next (A.1,IntKind.wrap .i64 (Add.add A.2.1 1),A.2.2.1,A.2.2.2.1,dd.1,dd.2.1,dd.2.2.1,j.1,j.2.1,j.2.2.1,j.2.2.2.1,List.set c1.1.1 c1.1.2 c1.2.2.1,c1.2.1,())))) else M.bind (M.pure (ab.next (g1.2.1,g1.2.2.1,s.1,s.2.1,s.2.2.1,f.1,f.2.1,f.2.2.1,f.2.2.2.1,v.1,v.2.1,()))) λr=>M.pure (ab.done r)) (Int.ofNat (List.length (M.val (c1 x.1.2.1) [])),0,x.1.2.2.1,x.2.1,x.2.2.1,x.2.2.2.1,x.2.2.2.2.1,x.2.2.2.2.2,0,0,M.val (c0 x.1.1) [],M.val (c1 x.1.2.1) [],M.val (c2 x.1.2.2.2) [],()))) (ab.bm (λ(A:Int×z1'×List dh×List dt×z3'×Int×Int×Int×z2'×List (List (Int×z1'×Int×Int))×z2'×Unit)=>letI d1:=A.2.2;letI n:=d1.2.2;M.ag (c4 A.2.1).b1 (M.ag (c5 d1.1).b1 (M.ag (lA d1.2.1).b1 (M.ag (n_ n.1).b1 (M.bind (M.loop (λ(A:Int×Int×Int×Int×Int×Int×z2'×List (List (Int×z1'×Int×Int))×z2'×z1'×List dh×List dt×z3'×Unit)=>letI e1:=A.2;letI t:=e1.2.2.2;letI d:=t.2.2.2;letI w:=d.2.2.2;letI o:=0<=e1.1/\e1.1<Int.ofNat (List.length w.1);letI b:=List.getD w.1 (Int.toNat e1.1) (0,0,0,0,[]);if decide (e1.1<A.1)=true then M.ag o (M.ag (c4 b.2.2.2.2).b1 (M.ag o (M.pure (ab.next (A.1,IntKind.wrap .i64 (Add.add e1.1 1),e1.2.1,e1.2.2.1,t.1,t.2.1,t.2.2.1,d.1,d.2.1,d.2.2.1,List.set w.1 (Int.toNat e1.1) (b.1,b.2.1,b.2.2.1,b.2.2.2.1,M.val (c4 b.2.2.2.2) []),w.2.1,w.2.2.1,()))))) else M.bind (M.pure (ab.next (e1.2.1,e1.2.2.1,t.1,t.2.1,t.2.2.1,d.1,d.2.1,d.2.2.1,w.1,w.2.1,w.2.2.1,()))) λr=>M.pure (ab.done r)) (Int.ofNat (List.length (M.val (c5 d1.1) [])),0,A.1,n.2.1,n.2.2.1,n.2.2.2.1,n.2.2.2.2.1,n.2.2.2.2.2.1,n.2.2.2.2.2.2.1,M.val (c4 A.2.1) [],M.val (c5 d1.1) [],M.val (lA d1.2.1) [],M.val (n_ n.1) [],())) (ab.bm (λ(A:Int×Int×Int×Int×z2'×List (List (Int×z1'×Int×Int))×z2'×z1'×List dh×List dt×z3'×Unit)=>letI h1:=A.2.2.2;letI m:=h1.2.2.2;M.bind (M.loop (λ(A:Int×Int×Int×Int×Int×Int×z2'×List (List (Int×z1'×Int×Int))×z2'×z1'×List dh×List dt×z3'×Unit)=>letI f1:=A.2;letI l:=f1.2.2.2;letI c:=l.2.2.2.2;letI bR:=c.2.2.2;letI p:=0<=f1.1/\f1.1<Int.ofNat (List.length bR.1);letI i:=List.getD bR.1 (Int.toNat f1.1) ([],(0,0),0,0,0);if decide (f1.1<A.1)=true then M.ag p (M.ag (c4 i.1).b1 (M.ag p (M.pure (ab.next (A.1,IntKind.wrap .i64 (Add.add f1.1 1),f1.2.1,f1.2.2.1,l.1,l.2.1,l.2.2.1,l.2.2.2.1,c.1,c.2.1,c.2.2.1,List.set bR.1 (Int.toNat f1.1) (M.val (c4 i.1) [],i.2),bR.2.1,()))))) else M.bind (M.pure (ab.next (f1.2.1,f1.2.2.1,l.1,l.2.1,l.2.2.1,l.2.2.2.1,c.1,c.2.1,c.2.2.1,bR.1,bR.2.1,()))) λr=>M.pure (ab.done r)) (Int.ofNat (List.length m.2.2.2.1),0,A.1,A.2.1,A.2.2.1,h1.1,h1.2.1,h1.2.2.1,m.1,m.2.1,m.2.2.1,m.2.2.2.1,m.2.2.2.2.1,())) (ab.bm (λ(A:Int×Int×Int×Int×z2'×List (List (Int×z1'×Int×Int))×z2'×z1'×List dh×List dt×z3'×Unit)=>letI q:=A.2.2.2.2.2;fin ((A.2.2.2.2.1,q.1,A.1,q.2.1),q.2.2.1,q.2.2.2.1,q.2.2.2.2.1,q.2.2.2.2.2.1,A.2.1))))))))))))))))))))
def iH(s:bt):vN:=(s.1.1,s.1.2.1,s.1.2.2.1,s.2.2.2.2.2,s.1.2.2.2,s.2.1,s.2.2.1,s.2.2.2.1,s.2.2.2.2.1,())
def anm(c0:z2'->M (z2'))(c1:List (List (Int×z1'×Int×Int))->M (List (List (Int×z1'×Int×Int))))(c2:z2'->M (z2'))(c3:List (Int×z1'×Int×Int)×Unit->M (List (Int×z1'×Int×Int)×Unit))(c4:z1'->M (z1'))(c5:List dh->M (List dh))(lA:List dt->M (List dt))(n_:z3'->M (z3'))(x:bt):M bt:=H0 c0 c1 c2 c3 c4 c5 lA n_ x M.pure
def ano(c0:z2'->M (z2'))(c1:List (List (Int×z1'×Int×Int))->M (List (List (Int×z1'×Int×Int))))(c2:z2'->M (z2'))(c3:List (Int×z1'×Int×Int)×Unit->M (List (Int×z1'×Int×Int)×Unit))(c4:z1'->M (z1'))(c5:List dh->M (List dh))(lA:List dt->M (List dt))(n_:z3'->M (z3'))(x:bt×Unit):M vN:=H0 c0 c1 c2 c3 c4 c5 lA n_ x.1 λs=>M.pure (iH s)
def YG(OL:bt->M Int)(anp:z2'×List (List (Int×z1'×Int×Int))×Int×z2'->M Bool)(x:bt):M Bool:=
 M.bind (anp x.1) λy=>if (y||decide (Int.ofNat (List.length x.2.1) > 40)||decide (Int.ofNat (List.length x.2.2.1) > 40)||decide (Int.ofNat (List.length x.2.2.2.1) > 40)||decide (Int.ofNat (List.length x.2.2.2.2.1) > 40))=true then M.pure true else M.bind (M.loop (λ(A:Int×bt×Unit)=>letI c:=A.1<Int.ofNat (List.length A.2.1.2.2.1);if decide c=true then M.ag (0<=A.1/\c) (if decide (Int.ofNat (List.length (List.getD A.2.1.2.2.1 (Int.toNat A.1) (0,0,0,0,[])).2.2.2.2) > 40)=true then M.bind (M.bind (M.pure true) (λr=>M.pure (ab.done r))) λr=>M.pure (ab.done r) else M.pure (ab.next (IntKind.wrap .i64 (Add.add A.1 1),A.2.1,()))) else M.bind (M.pure (ab.next (A.2.1,()))) λr=>M.pure (ab.done r)) (0,x,())) (ab.bm (λ(A:(be×z1'×List dh×List dt×z3'×Int)×Unit)=>M.bind (M.loop (λ(A:Int×(be×z1'×List (Int×Int×Int×Int×z1')×List dt×z3'×Int)×Unit)=>letI b:=A.1<Int.ofNat (List.length A.2.1.2.2.2.1);if decide b=true then M.ag (0<=A.1/\b) (if decide (Int.ofNat (List.length (List.getD A.2.1.2.2.2.1 (Int.toNat A.1) ([],(0,0),0,0,0)).1) > 40)=true then M.bind (M.bind (M.pure true) (λr=>M.pure (ab.done r))) λr=>M.pure (ab.done r) else M.pure (ab.next (IntKind.wrap .i64 (Add.add A.1 1),A.2.1,()))) else M.bind (M.pure (ab.next (A.2.1,()))) λr=>M.pure (ab.done r)) (0,A.1,())) (ab.bm (λ(A:(be×z1'×List dh×List (z1'×(Int×Int)×Int×Int×Int)×z3'×Int)×Unit)=>M.bind (OL A.1) λy=>if decide (y≠0)=true then M.pure false else M.bind (M.loop (λ(A:Int×Int×(be×z1'×List dh×List dt×z3'×Int)×Unit)=>letI d:=A.2.2.1;letI a:=A.2.1<Int.ofNat (List.length d.2.2.1);if decide a=true then M.ag (0<=A.2.1/\a) (M.pure (ab.next (IntKind.wrap .i64 (Add.add A.1 (Int.ofNat (List.length (List.getD d.2.2.1 (Int.toNat A.2.1) (0,0,0,0,[])).2.2.2.2))),IntKind.wrap .i64 (Add.add A.2.1 1),d,()))) else M.bind (M.pure (ab.next (A.1,d,()))) λr=>M.pure (ab.done r)) (0,0,A.1,())) (ab.bm (λ(A:Int×(be×z1'×List dh×List (z1'×(Int×Int)×Int×Int×Int)×z3'×Int)×Unit)=>M.pure (decide (Int.ofNat (List.length A.2.1.2.2.2.1) > 3)||decide (Int.ofNat (List.length A.2.1.2.2.1) > 4)||decide (Int.ofNat (List.length A.2.1.2.2.2.2.1) > 3)||decide (A.1 > 4))))))))
def YH(anq:Unit->M be)(x:Unit):M (bt):=
 M.bind (anq ()) λy=>M.pure (y,[1,0,0,0],[(1,60,0,0,[0]),(1,60,7,0,[]),(2,65,0,1,[0]),(2,60,0,0,[0,1])],[([1],(55,65),7,3,500),([1,2],(60,60),0,5,400),([2],(60,70),9,8,700),([2],(65,65),0,5,300)],[(4,2,1),(6,3,1)],2)
abbrev tI:af:=.int .i64
abbrev cU:af:=.bool
abbrev fI:af:=.slice tI
abbrev mn:af:=.st (.ay tI tI)
abbrev ky:af:=.st (.ay tI (.ay tI mn))
abbrev tSlot:af:=.st (.ay tI (.ay fI mn))
abbrev kS:af:=.st (.slice tSlot)
abbrev jO:af:=.st (.ay tI (.ay tI (.ay tI tI)))
abbrev kz:af:=.st (.ay (.slice ky) (.ay (.slice kS) (.ay tI (.slice jO))))
attribute [simp] qk U6 vp M.dq M.EZ M.QZ M.gu M.fg M.nR M.iT M.ku M.bL M.pn b4 iE U5 ab.gV
abbrev b8:aL:=⟨.ay tI (.ay tI tI),cU,λ_=>True,λx=>decide (x.2.1<=x.1)&&decide (x.1<=x.2.2)⟩
theorem anr(x):M.le (ai3 x) (b8.sh x):=M.bj λ_=>rfl
abbrev oF:aL:=⟨.ay fI tI,cU,λx=>x.1.length<2 ^ 63,λx=>x.1.contains x.2⟩
abbrev H2:Type:=Int×Int×Int×Int
abbrev vP:Type:=Int×z1'×Int×Int
abbrev mr:Type:=Int×Int×Int×Int
def gy(w:be):Prop:=w.1.length<2 ^ 63/\w.2.1.length<2 ^ 63/\w.2.2.2.length<2 ^ 63/\∀ m∈w.2.1,m.length<2 ^ 63/\∀ s∈m,s.2.1.length<2 ^ 63
def gJ(w:be)(n:Int):Bool:=decide (0<=n)&&decide (n<(w.1.length:Int))
def nW(w:be)(n:Int):Bool:=decide (0<=n)&&decide (n<(w.2.1.length:Int))
def jq(w:be)(m:Int):List vP:=w.2.1.getD m.toNat []
def iJ(w:be)(m k:Int):Bool:=nW w m&&(decide (0<=k)&&decide (k<((jq w m).length:Int)))
theorem uk{w:be}{n:Int}:gJ w n=true<->0<=n/\n<(w.1.length:Int):=by simp[gJ]
theorem H3{w:be}{n:Int}:nW w n=true<->0<=n/\n<(w.2.1.length:Int):=by simp[nW]
theorem AU{w:be}{m k:Int}:iJ w m k=true<->(0<=m/\m<(w.2.1.length:Int))/\0<=k/\k<((jq w m).length:Int):=by simp[iJ,nW]
theorem H4{w:be}(hw:gy w)(m:Int):(jq w m).length<2 ^ 63:=by
 unfold jq;rw[List.getD_eq_getElem?_getD];cases h:w.2.1[m.toNat]? with
 | none=>simp
 | some x=>exact (hw.2.2.2 x (List.mem_of_getElem? h)).1
theorem rr(n m:Int):decide (n<=m - 1)=decide (n<m):=by
 grind
abbrev pE:aL:=⟨.ay kz tI,cU,λx=>gy x.1,λx=>gJ x.1 x.2⟩
theorem YI(w:be)(n:Int)(h:gy w):M8 b8.sh (w,n)=M.pure (gJ w n):=by
 unfold M8;have an:=h.1;have hw:=bn (n:=(w.1.length:Int) - 1) (by omega) (by omega);simp[aL.sh,b8,hw,gJ,rr]
theorem ant(x):M.le (M8 b8.sh x) (pE.sh x):=M.bj λh=>YI x.1 x.2 h
abbrev AV:aL:=⟨.ay kz tI,cU,λx=>gy x.1,λx=>nW x.1 x.2⟩
theorem anu(w:be)(n:Int)(h:gy w):M' b8.sh (w,n)=M.pure (nW w n):=by
 unfold M';have an:=h.2.1;have hw:=bn (n:=(w.2.1.length:Int) - 1) (by omega) (by omega);simp[aL.sh,b8,hw,nW,rr]
theorem anv(x):M.le (M' b8.sh x) (AV.sh x):=M.bj λh=>anu x.1 x.2 h
abbrev rs:aL:=⟨.ay kz (.ay tI tI),cU,λx=>gy x.1,λx=>iJ x.1 x.2.1 x.2.2⟩
theorem YJ(w:be)(m k:Int)(h:gy w):Hf b8.sh AV.sh (w,m,k)=M.pure (iJ w m k):=by
 unfold Hf;have an:=H4 h m;have hw:=bn (n:=((jq w m).length:Int) - 1) (by omega) (by omega);unfold jq at hw;simp only[aL.sh,b8,AV,M.dq,M.iT,bI,hw,rr,M.bp h];rw[M.bp,M.bp (by simp)]
 ·simp only[iJ,jq];simp
 ·intro ao;exact⟨⟨ao,ao⟩,H3.1 ao,trivial⟩
theorem anw(x):M.le (Hf b8.sh AV.sh x) (rs.sh x):=M.bj λh=>YJ x.1 x.2.1 x.2.2 h
def vQ(s:Int×Int):Bool:=(decide (0<=s.1)&&decide (s.1<=s.2))&&decide (s.2<=999)
abbrev oK:aL:=⟨mn,cU,λ_=>True,vQ⟩
theorem YK(s:Int×Int):Nc b8.sh s=M.pure (vQ s):=by
 unfold Nc;simp[aL.sh,b8,vQ]
theorem anx(x):M.le (Nc b8.sh x) (oK.sh x):=M.bj λ_=>YK x
def rn(l:z1'):Bool:=(List.range (l.length - 1)).all λi=>decide (l.getD i 0<l.getD (i+1) 0)
abbrev um:aL:=⟨fI,cU,λx=>x.length<2 ^ 63,rn⟩
theorem YL(l:z1')(h:l.length<2 ^ 63):M_ l=M.pure (rn l):=by
 unfold M_;rw[M.dj (List.range (l.length - 1)) (λi (_:Unit)=>(l,((i+1:Nat):Int),())) (λi b=>if (decide (l.getD i 0<l.getD (i+1) 0))=true then .next b else .done (.done false)) (λ_=>.next ()) () ?_ ?_ ?_]
 ·rw[Ha];unfold rn;cases (List.range (l.length - 1)).all λi=>decide (l.getD i 0<l.getD (i+1) 0)<;>simp
 ·simp
 ·intro i G b;have ds:i+1<l.length:=by grind
  have hw:=bn (n:=(i:Int)+1+1) (by omega) (by omega);have gD:=bn (n:=(i:Int)+1 - 1) (by omega) (by omega);have e1:((i:Int)+1).toNat=i+1:=by omega
  have e2:((i:Int)+1 - 1).toNat=i:=by omega
  have b3:(0:Int)<=(i:Int)+1/\(i:Int)+1<(l.length:Int):=by omega
  have cr:(0:Int)<=(i:Int)+1 - 1/\(i:Int)+1 - 1<(l.length:Int):=by omega
  simp only[bI,Int.natCast_add,Int.cast_ofNat_Int,hw,gD,b3,cr,M.bp,e1,e2,b4,List.getElem_range,decide_eq_true_eq,if_true,M.aE,decide_true,and_self,Int.natCast_one];generalize l.getD i 0=aK;generalize l.getD (i+1) 0=B;by_cases hc:aK<B
  ·simp[hc,Int.not_le.2 hc]
  ·simp[hc,Int.not_lt.1 hc]
 ·intro b;have:¬(((List.range (l.length - 1)).length:Int)+1<(l.length:Int)):=by grind
  simp[this];omega
theorem anz(x):M.le (M_ x) (um.sh x):=M.bj λh=>YL x h
def qu(n:Int):Bool:=decide (0<=n)&&decide (n<=9)
def pF(s:vP):Bool:=s.2.1.all qu&&(qu s.1&&decide ((s.2.1.length:Int)<=4)&&rn s.2.1&&vQ s.2.2)
def ru(s:H2):Bool:=qu s.1&&qu s.2.1&&vQ s.2.2
def sH(w:be)(t:mr):Bool:=gJ w t.1&&iJ w t.2.1 t.2.2.1&&(decide (0<=t.2.2.2)&&decide (t.2.2.2<=1))
def qv(m:List vP):Bool:=!decide ((m.length:Int) > 4)&&m.all pF
def vR(w:be):Bool:=!(decide ((w.1.length:Int) > 10)||decide ((w.2.1.length:Int) > 6)||!(decide (0<=w.2.2.1)&&decide (w.2.2.1<=99))||decide ((w.2.2.2.length:Int) > 30))
def kT(w:be):Bool:=vR w&&w.1.all ru&&w.2.1.all qv&&w.2.2.2.all (sH w)
abbrev sI:aL:=⟨tSlot,cU,λx=>x.2.1.length<2 ^ 63,pF⟩
theorem anA(s:vP)(h:s.2.1.length<2 ^ 63):Nd um.sh b8.sh oK.sh s=M.pure (pF s):=by
 unfold Nd;rw[M.dj s.2.1 (λi (_:Unit)=>((i:Int),s,())) (λn b=>if qu n=true then .next b else .done (.done false)) (λ_=>.next (s,())) () ?_ ?_ ?_]
 ·rw[Ha];unfold pF;cases s.2.1.all qu with
  | false=>simp
  | true=>
   simp only[aL.sh,b8,um,oK,M.bp h,qu,if_true,M.aE,M.bL,M.dq,M.iT,M.bg,bI,h,implies_true,Bool.true_and];simp
 ·rfl
 ·intro i G b;have hw:=bn (n:=(i:Int)+1) (by omega) (by omega);simp[aL.sh,b8,G,hw,qu];grind
 simp
theorem anB(x):M.le (Nd um.sh b8.sh oK.sh x) (sI.sh x):=M.bj λh=>anA x h
abbrev sJ:aL:=⟨kz,cU,gy,kT⟩
theorem anC(w:be)(h:gy w):Na pE.sh rs.sh b8.sh oK.sh sI.sh w=M.pure (kT w):=by
 have hs:=h;obtain⟨h1,h2,h3,aT⟩:=h;unfold Na;simp only[aL.sh,b8,M.iT,M.dq,implies_true,M.bg,bI,qk];split
 ·rename_i hc;have:vR w=false:=by unfold vR;grind
  simp[kT,this]
 ·rename_i hc;have cB:vR w=true:=by unfold vR;grind
  have axL:w.2.1.length<=6:=by grind
  rw[M.dj w.1 (λi (_:Unit)=>((i:Int),w,())) (λn b=>if (!qu n.1||!qu n.2.1||!vQ n.2.2)=true then .done (.done false) else .next b) (λ_=>.next (w,())) () ?_ ?_ ?_]
  ·rw[kL (q:=ru) _ _ (λt=>by simp only[ru,Bool.not_and])];cases hI:w.1.all ru with
   | false=>simp[kT,hI]
   | true=>
    simp only[M.aE,if_true,M.bL];rw[M.dj w.2.1 (λi (_:Unit)=>((i:Int),w,())) (λm b=>if qv m=true then .next b else .done (.done false)) (λ_=>.next (w,())) () ?_ ?_ ?_]
    ·rw[Ha];cases aN:w.2.1.all qv with
     | false=>simp[kT,aN]
     | true=>
      simp only[M.aE,if_true,M.bL];rw[M.dj w.2.2.2 (λi (_:Unit)=>((i:Int),w,())) (λt b=>if (!gJ w t.1||!iJ w t.2.1 t.2.2.1||!(decide (0<=t.2.2.2)&&decide (t.2.2.2<=1)))=true then .done (.done false) else .next b) (λ_=>.next ()) () ?_ ?_ ?_]
      ·rw[kL (q:=sH w) _ _ (λt=>by simp only[sH,Bool.not_and])];cases jd:w.2.2.2.all (sH w)<;>simp[kT,hI,aN,jd,cB]
      ·rfl
      ·intro i G b;have hw:=bn (n:=(i:Int)+1) (by omega) (by omega);simp only[bI,cG G,if_true,c6 G,cq G,M.bg,aL.sh,pE,rs,M.dq,M.iT,hs,implies_true,qk,M.aE,b4,hw];exact mQ (mk:=λ_:Unit=>((i:Int)+1,w,()))
      simp
    ·rfl
    ·intro i G b;have hw:=bn (n:=(i:Int)+1) (by omega) (by omega);obtain⟨j_,pf⟩:=aT w.2.1[i] (List.getElem_mem G);simp only[bI,Int.ofNat_lt,G,decide_true,if_true,c6 G,Int.natCast_nonneg,and_self,M.bg];by_cases hlen:(w.2.1[i].length:Int) > 4
     ·simp[hlen,qv]
     ·simp only[hlen,decide_false,Bool.false_eq_true,if_false];rw[M.dj w.2.1[i] (λk (_:Unit)=>((i:Int),(k:Int),w,())) (λs b=>if (!pF s)=true then .done (.done (.done (.done false))) else .next b) (λ_=>.next ((i:Int),w,())) () ?_ ?_ ?_]
      ·rw[kL (q:=pF) _ _ (λ_=>rfl)];cases hD:w.2.1[i].all pF<;>simp[qv,hD,hlen,hw]
      ·rfl
      ·intro k aj b;have mq:=bn (n:=(k:Int)+1) (by omega) (by omega);have AW:=pf w.2.1[i][k] (List.getElem_mem aj);simp only[bI,cG aj,cG G,if_true,c6 G,c6 aj,cq G,cq aj,M.bg,sI,M.dq,AW,M.bp AW,M.aE,b4,mq];exact mQ (mk:=λ_:Unit=>((i:Int),(k:Int)+1,w,()))
      simp_all
    simp
  ·rfl
  ·intro i G b;have hw:=bn (n:=(i:Int)+1) (by omega) (by omega);simp only[bI,cG G,if_true,c6 G,cq G,M.bg,aL.sh,oK,M.dq,M.iT,implies_true,qk,M.aE,b4,hw,Bool.not_not];exact mQ (mk:=λ_:Unit=>((i:Int)+1,w,()))
  simp
theorem anD(x):M.le (Na pE.sh rs.sh b8.sh oK.sh sI.sh x) (sJ.sh x):=M.bj λh=>anC x h
abbrev qw:mr:=(0,0,0,0)
def mY(a b:mr):Bool:=decide (a.1=b.1)&&decide (a.2.1=b.2.1)&&decide (a.2.2.1=b.2.2.1)&&decide (a.2.2.2≠b.2.2.2)
def nQ(l:List mr):Bool:=(List.range l.length).all λi=>(List.range i).all λk=>!mY (l.getD k qw) (l.getD i qw)
def b_(w:be):Int:=if kT w=true then (if nQ w.2.2.2=true then 0 else 71) else 70
theorem YM{a b:Nat}(h:a<b):((0:Int)<=(a:Int)/\(a:Int)<(b:Int))=True:=cq h
abbrev hO:aL:=⟨kz,tI,gy,b_⟩
theorem anE(w:be)(h:gy w):M9 sJ.sh w=M.pure (b_ w):=by
 have hs:=h;obtain⟨h1,h2,h3,aT⟩:=h;unfold M9;simp only[aL.sh,sJ,M.dq,M.bp hs];unfold b_;cases hw:kT w with
 | false=>simp
 | true=>
  simp only[Bool.not_true,Bool.false_eq_true,if_false,if_true];rw[M.dj (List.range w.2.2.2.length) (λi (_:Unit)=>((i:Int),w,())) (λi b=>if (List.range i).any (λk=>mY (w.2.2.2.getD k qw) (w.2.2.2.getD i qw))=true then .done (.done (71:Int)) else .next b) (λ_=>.next ()) () ?_ ?_ ?_]
  ·rw[kL (q:=λi=>(List.range i).all λk=>!mY (w.2.2.2.getD k qw) (w.2.2.2.getD i qw)) _ _ (λi=>U8 (λk=>by simp) _)];have e:((List.range w.2.2.2.length).all λi=>(List.range i).all λk=>!mY (w.2.2.2.getD k qw) (w.2.2.2.getD i qw))=nQ w.2.2.2:=rfl;rw[e];cases nQ w.2.2.2<;>simp
  ·rfl
  ·intro i G b;have G:i<w.2.2.2.length:=by grind
   have hQ:=bn (n:=(i:Int)+1) (by omega) (by omega);simp only[bI,cG G,if_true,List.getElem_range];rw[M.dj (List.range i) (λk (_:Unit)=>((i:Int),(k:Int),w,())) (λk b=>if mY (w.2.2.2.getD k qw) (w.2.2.2.getD i qw)=true then .done (.done (.done (.done (71:Int)))) else .next b) (λ_=>.next ((i:Int),w,())) () ?_ ?_ ?_]
   ·rw[po];cases (List.range i).any (λk=>mY (w.2.2.2.getD k qw) (w.2.2.2.getD i qw))<;>simp[hQ]
   ·rfl
   ·intro k aj b;have aj:k<i:=by grind
    have vz:k<w.2.2.2.length:=by omega
    have mq:=bn (n:=(k:Int)+1) (by omega) (by omega);simp only[cG aj,if_true,List.getElem_range,YM vz,YM G,M.bg,Int.toNat_natCast,M.aE,b4,mq];exact mQ (mk:=λ_:Unit=>((i:Int),(k:Int)+1,w,()))
   simp
  simp
theorem anF(x):M.le (M9 sJ.sh x) (hO.sh x):=M.bj λh=>anE x h
def gl(w:be)(i:Int):H2:=w.1.getD i.toNat (0,0,0,0)
def uo(w:be)(m k:Int):vP:=(jq w m).getD k.toNat (0,[],0,0)
theorem anG{w:be}{i:Int}(h:gJ w i=true):gl w i∈w.1:=by
 rw[uk]at h;exact xO h.1 h.2
theorem OW{w:be}{m k:Int}(h:iJ w m k=true):jq w m∈w.2.1:=by
 rw[AU]at h;exact xO h.1.1 h.1.2
theorem YN{w:be}{m k:Int}(h:iJ w m k=true):uo w m k∈jq w m:=by
 rw[AU]at h;exact xO h.2.1 h.2.2
theorem AX{w:be}(h:kT w=true):vR w=true/\(∀ s∈w.1,ru s=true)/\(∀ m∈w.2.1,qv m=true)/\∀ t∈w.2.2.2,sH w t=true:=by
 simp only[kT,Bool.and_eq_true,List.all_eq_true]at h;grind
theorem Ed{w:be}(h:kT w=true):w.1.length<=10/\w.2.1.length<=6/\(0<=w.2.2.1/\w.2.2.1<=99)/\w.2.2.2.length<=30:=by
 have:=(AX h).1;simp[vR]at this;omega
theorem anH{w:be}(h:kT w=true){m k:Int}(ao:iJ w m k=true):(jq w m).length<=4:=by
 have:=(AX h).2.2.1 _ (OW ao);simp[qv]at this;omega
theorem anI{w:be}(h:kT w=true){m k:Int}(ao:iJ w m k=true):pF (uo w m k)=true:=by
 have:=(AX h).2.2.1 _ (OW ao);simp only[qv,Bool.and_eq_true,List.all_eq_true]at this;exact this.2 _ (YN ao)
theorem anJ{s:vP}(h:pF s=true):0<=s.2.2.1/\s.2.2.1<=s.2.2.2/\s.2.2.2<=999:=by
 simp only[pF,vQ,Bool.and_eq_true,decide_eq_true_eq]at h;omega
theorem YO{w:be}(h:kT w=true){i:Int}(G:gJ w i=true):0<=(gl w i).2.2.1/\(gl w i).2.2.1<=(gl w i).2.2.2/\(gl w i).2.2.2<=999:=by
 have:=(AX h).2.1 _ (anG G);simp only[ru,vQ,Bool.and_eq_true,decide_eq_true_eq]at this;omega
theorem anK{w:be}(h:kT w=true){t:mr}(aI:t∈w.2.2.2):gJ w t.1=true/\iJ w t.2.1 t.2.2.1=true:=by
 have:=(AX h).2.2.2 _ aI;simp only[sH,Bool.and_eq_true]at this;grind
def vS(w:be)(i n m k:Int):Bool:=
 decide ((gl w i).1=(uo w m k).1)&&(uo w m k).2.1.contains (gl w i).2.1&&(decide ((uo w m k).2.2.1<=n)&&decide (n<=(uo w m k).2.2.2+w.2.2.1))
def qx(w:be):Prop:=gy w/\kT w=true
abbrev fcFitsAt:aL:=⟨.ay kz (.ay tI (.ay tI (.ay tI tI))),cU,λx=>qx x.1/\gJ x.1 x.2.1=true/\iJ x.1 x.2.2.2.1 x.2.2.2.2=true,λx=>vS x.1 x.2.1 x.2.2.1 x.2.2.2.1 x.2.2.2.2⟩
theorem anL(w:be)(i n m k:Int)(hw:qx w)(G:gJ w i=true)(ao:iJ w m k=true):Vf oF.sh b8.sh (w,i,n,m,k)=M.pure (vS w i n m k):=by
 unfold Vf;have b3:=uk.1 G;have cr:=AU.1 ao;have hsl:=anJ (anI hw.2 ao);have RN:=(Ed hw.2).2.2.1;have AW:(uo w m k).2.1.length<2 ^ 63:=(hw.1.2.2.2 _ (OW ao)).2 _ (YN ao);have hQ:=bn (n:=(uo w m k).2.2.2+w.2.2.1) (by omega) (by omega);unfold vS;simp only[uo,jq,gl]at *
 simp only[aL.sh,oF,b8,M.iT,M.dq,bI,b3,cr,and_self,M.bg,implies_true,b4,hQ,vp,M.bp (λ_=>AW),AW];rfl
def uq(w:be)(i n:Int)(t:mr):Bool:=!(decide (t.1=i)&&!decide (vS w i n t.2.1 t.2.2.1=decide (t.2.2.2=1)))
def OX(w:be)(i n:Int):Bool:=w.2.2.2.all (uq w i n)&&(decide ((gl w i).2.2.1<=n)&&decide (n<=(gl w i).2.2.2))
def gK(w:be)(i:Int):z1':=(dM (gl w i).2.2.1 (gl w i).2.2.2).filter (OX w i)
theorem YP{w:be}{i:Int}(hw:qx w)(G:gJ w i=true):(gK w i).length<=1000:=by
 have:=YO hw.2 G;have h2:=List.length_filter_le (OX w i) (dM (gl w i).2.2.1 (gl w i).2.2.2);rw[xP]at h2;unfold gK;omega
theorem anM{w:be}{i:Nat}(h:i<w.1.length):gJ w (i:Int)=true:=by rw[uk];omega
def vT(w:be):Bool:=(List.range w.1.length).all λi=>!decide (((gK w (i:Int)).length:Int)=0)
def et(w:be)(bU:Bool):Int:=if b_ w≠0 then b_ w else if bU=false then 1 else if vT w=true then 0 else 3
theorem OY{w:be}(h:b_ w=0):kT w=true:=by
 unfold b_ at h;grind
theorem Ee{w:be}{bU:Bool}(h:et w bU=0):b_ w=0/\bU=true/\vT w=true:=by
 unfold et at h;grind
theorem YQ{w:be}{bU:Bool}(hs:gy w)(h:et w bU=0):qx w:=⟨hs,OY (Ee h).1⟩
theorem anN{w:be}(h:vT w=true){i:Int}(G:gJ w i=true):0<(gK w i).length:=by
 rw[uk]at G;have:=List.all_eq_true.1 h i.toNat (by grind);grind
def vU(w:be)(i:Int):(Int×Int)×Int:=if et w (gJ w i)≠0 then ((0,0),et w (gJ w i)) else (((gK w i).getD 0 0,(gK w i).getD ((gK w i).length - 1) 0),0)
abbrev x_:aL:=⟨.ay kz tI,.ay mn tI,λx=>gy x.1,λx=>vU x.1 x.2⟩
def H5(some many:Int):Int:=if some=many then 1 else if some=0 then 2 else 3
abbrev H6:aL:=⟨.ay tI tI,tI,λ_=>True,λx=>H5 x.1 x.2⟩
theorem YR{aq:Type}{p:aq->Bool}:∀ (l:List aq) (n:Int),l.foldl (λn x=>if p x=true then n+1 else n) n=n+(l.countP p:Int)
 | [],n=>by simp
 | x::l,n=>by
  simp only[List.foldl_cons,List.countP_cons];rw[YR l];grind
def ur(w:be)(i m k:Int):Int:=H5 ((gK w i).countP λn=>vS w i n m k:Int) ((gK w i).length:Int)
def qy(w:be)(i m k:Int):Int×Int:=if et w (gJ w i&&iJ w m k)≠0 then (0,et w (gJ w i&&iJ w m k)) else (ur w i m k,0)
abbrev AY:aL:=⟨.ay kz (.ay tI (.ay tI tI)),.ay tI tI,λx=>gy x.1,λx=>qy x.1 x.2.1 x.2.2.1 x.2.2.2⟩
section
variable {aq:Type}
def xV(d:aq)(x:List aq×(aq->M Bool)):M Int:=
 M.bind (M.loop (λ(A:List aq×(aq->M Bool)×Int×Int×Unit)=>if decide (A.2.2.2.1<A.2.2.1)=true then M.ag (0<=A.2.2.2.1/\
 A.2.2.2.1<Int.ofNat (List.length A.1)) (M.bind (A.2.1 (List.getD A.1 (Int.toNat A.2.2.2.1) d)) λy=>if y=true then M.bind (M.bind (M.pure
 A.2.2.2.1) λr=>M.pure (ab.done r)) λr=>M.pure (ab.done r) else M.pure (ab.next (A.1,A.2.1,A.2.2.1,IntKind.wrap .i64 (Add.add
 A.2.2.2.1 1),()))) else M.bind (M.pure (ab.next ())) λr=>M.pure (ab.done r)) (x.1,x.2,Int.ofNat (List.length x.1),0,())) (ab.bm λ(A
 : Unit)=>M.pure (-1))
def DR(c:List aq×(aq->M Bool)->M Int)(x:List aq×(aq->M Bool)):M Bool:=M.bind (c x) λy=>M.pure (decide (y>=0))
def YS(c:List aq×(aq->M Bool)->M Bool)(c1:aq×Option (aq->M Bool)->M Bool)(x:List aq×(aq->M Bool)):M Bool:=
 M.bind (c (x.1,λhf=>c1 (hf,some x.2))) λy=>M.pure !y
def YT(x:aq×Option (aq->M Bool)):M Bool:=M.bind (Option.getD x.2 (λx=>{ b1:=False,bD:=λx=>False }) x.1) λy=>M.pure !y
def hA(p:aq->Bool):List aq->Int->Int
 | [],_=>-1
 | x::l,i=>if p x=true then i else hA p l (i+1)
theorem An(p:aq->Bool):∀ (l:List aq) (i:Int),0<=i->(decide (hA p l i>=0))=l.any p
 | [],i,_=>by rfl
 | x::l,i,h=>by
  simp only[hA,List.any_cons];by_cases hx:p x=true
  ·grind
  ·have:=An p l (i+1) (by omega);grind
theorem Ao(p:aq->Bool):∀ (l:List aq) (i:Int),eI (λx (i:Int)=>if p x=true then (.done (.done i):ab Int (ab Unit Int)) else .next (i+1)) (λ_=>.next ()) l i=if l.any p=true then .done (hA p l i) else .next ()
 | [],i=>by rfl
 | x::l,i=>by
  simp only[eI,List.any_cons,hA];by_cases hx:p x=true
  ·grind
  ·have:=Ao p l (i+1);grind
theorem DS{p:aq->Bool}:∀ (l:List aq) (i:Int),¬l.any p=true->hA p l i=-1
 | [],_,_=>rfl
 | x::l,i,aB=>by
  simp only[List.any_cons,Bool.or_eq_true,not_or]at aB;simp only[hA,aB.1,Bool.false_eq_true,if_false];exact DS l _ aB.2
theorem NY(d:aq)(l:List aq)(f:aq->M Bool)(h:l.length<2 ^ 63)(au:∀ y∈l,∃ b,f y=M.pure b):xV d (l,f)=M.pure (hA (λy=>(f y).val false) l 0):=by
 unfold xV;rw[M.gj l (λi (b:Int)=>(l,f,(l.length:Int),b,())) (λy (i:Int)=>if (f y).val false=true then (.done (.done i):ab Int (ab Unit Int)) else .next (i+1)) (λ_=>.next ()) (λi b=>b=(i:Int)) 0 ?_ ?_ ?_ ?_]
 ·rw[Ao (λy=>(f y).val false)];by_cases aU:(l.any λy=>(f y).val false)=true
  ·simp[aU]
  ·have:hA (λy=>(f y).val false) l 0=-1:=by
    have:∀ (l:List aq) (i:Int),¬(l.any λy=>(f y).val false)=true->hA (λy=>(f y).val false) l i=-1:=by
     intro l;induction l with
     | nil=>intro i _;rfl
     | cons x l aJ=>
      intro i aB;simp only[List.any_cons,Bool.or_eq_true,not_or]at aB;simp only[hA,aB.1,Bool.false_eq_true,if_false];grind
    grind
   simp[aU,this]
 ·rfl
 ·rfl
 ·intro i G b ad;subst ad;have hw:=bn (n:=(i:Int)+1) (by omega) (by omega);refine⟨?_,λa1 cQ=>?_⟩
  ·obtain⟨b,ad⟩:=au _ (List.getElem_mem G);simp only[bI,cG G,if_true,c6 G,cq G,M.bg,ad,M.fg,M.aE,b4,hw];split<;>rfl
  grind
 simp
end
abbrev kQ(e:af):aL:=⟨.ay (.slice e) (.fn e .bool),tI,λx=>x.1.length<2 ^ 63/\∀ y∈x.1,∃ b,x.2 y=M.pure b,λx=>hA (λy=>(x.2 y).val false) x.1 0⟩
theorem ss(e:af)(x):M.le (xV e.cP x) ((kQ e).sh x):=M.bj λh=>NY e.cP x.1 x.2 h.1 h.2
abbrev iU(e:af):aL:=⟨.ay (.slice e) (.fn e .bool),cU,λx=>x.1.length<2 ^ 63/\∀ y∈x.1,∃ b,x.2 y=M.pure b,λx=>x.1.any λy=>(x.2 y).val false⟩
theorem su(e:af)(x):M.le (DR (kQ e).sh x) ((iU e).sh x):=M.bj λh=>by
 unfold DR;simp only[aL.sh,kQ,M.dq];rw[M.bp (by exact h)];exact congrArg M.pure (An (λy=>(x.2 y).val false) x.1 0 (by omega))
abbrev vV(e:af):aL:=⟨.ay e (.br (.fn e .bool)),cU,λx=>∃ f,x.2=some f/\∃ b,f x.1=M.pure b,λx=>!((x.2.getD λ_=>M.fail) x.1).val false⟩
theorem Ef(e:af)(x):M.le (YT x) ((vV e).sh x):=M.bj λh=>by
 obtain⟨y,o⟩:=x;obtain⟨f,au,b,ad⟩:=h;change o=some f at au;subst au;change f y=M.pure b at ad;unfold YT;simp_all
abbrev fcAllF(e:af):aL:=⟨.ay (.slice e) (.fn e .bool),cU,λx=>x.1.length<2 ^ 63/\∀ y∈x.1,∃ b,x.2 y=M.pure b,λx=>x.1.all λy=>(x.2 y).val false⟩
theorem Eg(e:af)(x):M.le (YS (iU e).sh (vV e).sh x) ((fcAllF e).sh x):=M.bj λh=>by
 obtain⟨l,f⟩:=x;obtain⟨h1,h2⟩:=h;unfold YS;have hc:∀ y∈l,(vV e).sh (y,some f)=M.pure (!(f y).val false):=λy aO=>by
  obtain⟨b,ad⟩:=h2 y aO;exact M.bF ⟨f,rfl,b,ad⟩ _
 simp only[aL.sh,iU,M.dq];rw[M.bp ⟨h1,λy aO=>⟨_,hc y aO⟩⟩];refine congrArg M.pure ?_;rw[List.not_any_eq_all_not];simp
end Go.Fer
