/- Part 5 of the proof of Questions: shallow programs of Go functions, and what they compute. No condition. -/
import Derived.Test.YtplfnoecifjgeaaGreatDoorQuestionsD
noncomputable section
namespace Go.Fer.H
open A (W)
set_option linter.unusedVariables false
set_option linter.unusedSimpArgs false
abbrev bu:ad:=.int .i64
abbrev de:ad:=.bool
abbrev fS:ad:=.slice bu
abbrev mr:ad:=.st (.aA bu bu)
abbrev NP:ad:=.st (.aA bu (.aA bu (.aA bu (.aA bu (.aA bu (.aA bu bu))))))
abbrev jr:ad:=.st (.aA (.slice mr) (.aA (.slice hl) (.aA fS (.aA (.slice mr) NP))))
abbrev Hj:ad:=.st (.aA hl bu)
abbrev xM:ad:=.st (.aA fS (.array 10 (.slice Hj)))
abbrev su:ad:=.st (.aA jr (.aA (.slice hl) (.slice (.bI xM))))
attribute [simp] qo UT vj A.dI A.EM A.QP A.gI A.fE A.nW A.iY A.kO A.b2 A.pr ct jn US W.hj
section
variable {al:Type}
def xN (d:al) (x:List al×(al->A Bool)):A Int:=
 A.bind (A.loop (λ(D:List al×(al->A Bool)×Int×Int×Unit)=>if decide (D.2.2.2.1<D.2.2.1)=true then A.ae (0<=D.2.2.2.1/\
 D.2.2.2.1<Int.ofNat (List.length D.1)) (A.bind (D.2.1 (List.getD D.1 (Int.toNat D.2.2.2.1) d)) λy=>if y=true then A.bind (A.bind (A.pure
 D.2.2.2.1) λr=>A.pure (W.done r)) λr=>A.pure (W.done r) else A.pure (W.next (D.1,D.2.1,D.2.2.1,IntKind.wrap .i64 (Add.add
 D.2.2.2.1 1),()))) else A.bind (A.pure (W.next ())) λr=>A.pure (W.done r)) (x.1,x.2,Int.ofNat (List.length x.1),0,())) (W.bC λ(D
 : Unit)=>A.pure (-1))
def DD (c:List al×(al->A Bool)->A Int) (x:List al×(al->A Bool)):A Bool:=A.bind (c x) λy=>A.pure (decide (y>=0))
def hL (p:al->Bool):List al->Int->Int
 | [],_=>-1
 | x::l,i=>if p x=true then i else hL p l (i+1)
theorem z_ (p:al->Bool):∀ (l:List al) (i:Int),0<=i->(decide (hL p l i>=0))=l.any p
 | [],i,_=>by rfl
 | x::l,i,h=>by
  simp only [hL,List.any_cons];by_cases aj:p x=true
  ·grind
  ·have:=z_ p l (i+1) (by omega);grind
theorem z' (p:al->Bool):∀ (l:List al) (i:Int),eX (λx (i:Int)=>if p x=true then (.done (.done i):W Int (W Unit Int)) else .next (i+1)) (λ_=>.next ()) l i=if l.any p=true then .done (hL p l i) else .next ()
 | [],i=>by rfl
 | x::l,i=>by
  simp only [eX,List.any_cons,hL];by_cases aj:p x=true
  ·grind
  ·have:=z' p l (i+1);grind
theorem DE {p:al->Bool}:∀ (l:List al) (i:Int),¬l.any p=true->hL p l i=-1
 | [],_,_=>rfl
 | x::l,i,aD=>by
  simp only [List.any_cons,Bool.or_eq_true,not_or] at aD;simp only [hL,aD.1,Bool.false_eq_true,if_false];exact DE l _ aD.2
theorem NQ (d:al) (l:List al) (f:al->A Bool) (h:l.length<2 ^ 63) (aw:∀ y∈l,∃ b,f y=A.pure b):xN d (l,f)=A.pure (hL (λy=>(f y).val false) l 0):=by
 unfold xN;rw [A.gA l (λi (b:Int)=>(l,f,(l.length:Int),b,())) (λy (i:Int)=>if (f y).val false=true then (.done (.done i):W Int (W Unit Int)) else .next (i+1)) (λ_=>.next ()) (λi b=>b=(i:Int)) 0 ?_ ?_ ?_ ?_]
 ·rw [z' (λy=>(f y).val false)];by_cases ba:(l.any λy=>(f y).val false)=true
  ·simp [ba]
  ·have:hL (λy=>(f y).val false) l 0=-1:=by
    have:∀ (l:List al) (i:Int),¬(l.any λy=>(f y).val false)=true->hL (λy=>(f y).val false) l i=-1:=by
     intro l;induction l with
     | nil=>intro i _;rfl
     | cons x l aM=>
      intro i aD;simp only [List.any_cons,Bool.or_eq_true,not_or] at aD;simp only [hL,aD.1,Bool.false_eq_true,if_false];grind
    grind
   simp [ba,this]
 ·rfl
 ·rfl
 ·intro i M b aa;subst aa;have hw:=bG (n:=(i:Int)+1) (by omega) (by omega);refine ⟨?_,λbf dh=>?_⟩
  ·obtain ⟨b,aa⟩:=aw _ (List.getElem_mem M);simp only [bZ,cY M,if_true,dm M,cJ M,A.bw,aa,A.fE,A.aJ,ct,hw];split<;>rfl
  grind
 simp
end
abbrev kU (e:ad):aO:=⟨.aA (.slice e) (.fn e .bool),bu,λx=>x.1.length<2 ^ 63/\∀ y∈x.1,∃ b,x.2 y=A.pure b,λx=>hL (λy=>(x.2 y).val false) x.1 0⟩
theorem sv (e:ad) (x):A.le (xN e.db x) ((kU e).sh x):=A.bx λh=>NQ e.db x.1 x.2 h.1 h.2
abbrev iZ (e:ad):aO:=⟨.aA (.slice e) (.fn e .bool),de,λx=>x.1.length<2 ^ 63/\∀ y∈x.1,∃ b,x.2 y=A.pure b,λx=>x.1.any λy=>(x.2 y).val false⟩
theorem sw (e:ad) (x):A.le (DD (kU e).sh x) ((iZ e).sh x):=A.bx λh=>by
 unfold DD;simp only [aO.sh,kU,A.dI];rw [A.bH (by exact h)];exact congrArg A.pure (z_ (λy=>(x.2 y).val false) x.1 0 (by omega))
abbrev ll (s:bb):Int:=s.1
abbrev py (s:bb):Int:=s.2.1
abbrev xO (s:bb):Int:=s.2.2.1
abbrev ei (s:bb):Int:=s.2.2.2.1
abbrev tW (s:bb):Int:=s.2.2.2.2.1
abbrev iJ (s:bb):Int:=s.2.2.2.2.2
def iN (c:a6):Prop:=c.1.length<2 ^ 63/\c.2.1.length<2 ^ 63/\c.2.2.1.length<2 ^ 63/\c.2.2.2.1.length<2 ^ 63
def b3 (n aZ M:Int):Bool:=decide (aZ<=n)&&decide (n<=M)
theorem oJ {n aZ M:Int}:b3 n aZ M=true<->aZ<=n/\n<=M:=by simp [b3]
def pz (t:pw):Bool:=b3 t.1 0 9999&&b3 t.2.1 1 9999&&b3 t.2.2.2.2.1 1 9999&&b3 t.2.2.1 0 100000&&b3 t.2.2.2.1 0 100000&&b3 t.2.2.2.2.2.1 0 100000&&b3 t.2.2.2.2.2.2 0 100000
def ln (n:Nat) (s:bb):Bool:=b3 (ll s) 0 99&&b3 (py s) 0 ((n:Int) - 1)&&b3 (xO s) 0 9999&&b3 (tW s) 0 9&&b3 (iJ s) 0 99&&(decide (ei s=1)||decide (ei s=2)&&decide (iJ s=0))
abbrev cp:aO:=⟨.aA bu (.aA bu bu),de,λ_=>True,λx=>b3 x.1 x.2.1 x.2.2⟩
theorem akc (x):A.le (V8 cp.sh x) (cp.sh x):=A.bx λ_=>by
 unfold V8;simp [aO.sh,cp]
theorem akd (x):A.le (ajH x) (cp.sh x):=A.bx λ_=>rfl
abbrev xP:aO:=⟨bu,de,λ_=>True,λx=>b3 x 0 9999⟩
theorem ake (x):A.le (VS cp.sh x) (xP.sh x):=A.bx λ_=>by
 unfold VS;simp [aO.sh,cp]
abbrev vp:aO:=⟨bu,de,λ_=>True,λx=>b3 x 0 99⟩
theorem akf (x):A.le (V2 cp.sh x) (vp.sh x):=A.bx λ_=>by
 unfold V2;simp [aO.sh,cp]
abbrev vq:aO:=⟨NP,de,λ_=>True,λx=>pz x⟩
theorem akg (x):A.le (Wg cp.sh x) (vq.sh x):=A.bx λ_=>by
 unfold Wg;show _=A.pure (pz x);unfold pz;simp only [aO.sh,cp,A.nz,A.aJ,A.kO];simp
theorem akh (x):A.le (Wc cp.sh x) (vq.sh x):=A.bx λ_=>by
 unfold Wc;rw [A.dK [x.2.2.1,x.2.2.2.1,x.2.2.2.2.2.1,x.2.2.2.2.2.2] (λi (_:Unit)=>(4,(i:Int),x,[x.2.2.1,x.2.2.2.1,x.2.2.2.2.2.1,x.2.2.2.2.2.2],())) (λy b=>if (!b3 y 0 100000)=true then .done (.done false) else .next b) (λ_=>.next (x,())) () ?_ ?_ ?_]
 ·rw [kP (q:=λy=>b3 y 0 100000) _ _ (λ_=>rfl)];show _=A.pure (pz x);unfold pz;simp only [List.all_cons,List.all_nil,Bool.and_true,aO.sh,cp,A.nz,A.aJ,A.kO];cases G:b3 x.1 0 9999<;>cases V:b3 x.2.1 1 9999<;>cases ah:b3 x.2.2.2.2.1 1 9999<;>cases b3 x.2.2.1 0 100000<;>cases b3 x.2.2.2.1 0 100000<;>cases b3 x.2.2.2.2.2.1 0 100000<;>cases b3 x.2.2.2.2.2.2 0 100000<;>simp [G,V,ah]
 ·rfl
 ·intro i M b;have dM:i<4:=by omega
  have hw:=bG (n:=(i:Int)+1) (by omega) (by omega);have G:decide ((i:Int)<4)=true:=by grind
  simp only [G,if_true,bZ,dm M,cJ M,A.bw,aO.sh,cp,A.nz,A.aJ,ct,hw];exact mW (mk:=λ(_:Unit)=>((4:Int),((i+1:Nat):Int),x,[x.2.2.1,x.2.2.2.1,x.2.2.2.2.2.1,x.2.2.2.2.2.2],()))
 simp
abbrev vr:aO:=⟨.aA jr hl,de,λx=>x.1.1.length<2 ^ 63,λx=>ln x.1.1.length x.2⟩
theorem aki (x):A.le (Wh cp.sh x) (vr.sh x):=A.bx λh=>by
 have hw:=bG (n:=(x.1.1.length:Int) - 1) (by omega) (by omega);unfold Wh;show _=A.pure (ln x.1.1.length x.2);unfold ln;simp only [aO.sh,cp,A.nz,A.aJ,A.kO,bZ,hw];grind
theorem akj (x):A.le (We cp.sh vp.sh x) (vr.sh x):=A.bx λh=>by
 have hw:=bG (n:=(x.1.1.length:Int) - 1) (by omega) (by omega);unfold We;show _=A.pure (ln x.1.1.length x.2);unfold ln;simp only [aO.sh,cp,vp,A.nz,A.aJ,A.kO,bZ,hw];grind
abbrev DF:aO:=⟨.aA hl (.bI jr),de,λx=>∃ c:a6,x.2=some c/\c.1.length<2 ^ 63,λx=>!ln (x.2.getD ([],[],[],[],0,0,0,0,0,0,0)).1.length x.1⟩
theorem akk (x):A.le (Wd vr.sh x) (DF.sh x):=A.bx λh=>by
 obtain ⟨s,o⟩:=x;obtain ⟨c,hc,h⟩:=h;change o=some c at hc;subst hc;unfold Wd;simp only [Option.getD_some,aO.sh,vr,A.dI];simp_all
abbrev Aa:aO:=⟨bu,de,λ_=>True,λx=>!b3 x 0 99⟩
theorem akl (x):A.le (Wf vp.sh x) (Aa.sh x):=A.bx λ_=>by
 unfold Wf;simp [aO.sh,vp]
theorem WA (a b:bb):(decide (a.1=b.1)&&(decide (a.2.1=b.2.1)&&(decide (a.2.2.1=b.2.2.1)&&(decide (a.2.2.2.1=b.2.2.2.1)&&(decide (a.2.2.2.2.1=b.2.2.2.2.1)&&decide (a.2.2.2.2.2=b.2.2.2.2.2))))))=decide (a=b):=by
 grind
def tX (a b:bb):Bool:=decide (ll a=ll b)&&!decide (a=b)
abbrev Hk:aO:=⟨.aA hl hl,de,λ_=>True,λx=>tX x.1 x.2⟩
theorem akm (x):A.le (V7 x) (Hk.sh x):=A.bx λ_=>by
 have h:=WA x.1 x.2;unfold V7;show _=A.pure (tX x.1 x.2);unfold tX;grind
abbrev oK:aO:=⟨.aA fS bu,de,λx=>x.1.length<2 ^ 63,λx=>x.1.contains x.2⟩
theorem akn (x):A.le (aj3 x) ((kU hl).sh x):=sv hl x
theorem ako (x):A.le (ajX (kU hl).sh x) ((iZ hl).sh x):=sw hl x
abbrev oL:aO:=⟨fS,fS,λx=>x.length<=3000000,λx=>x⟩
theorem hV {n:Nat} (h:n<65536):cn n:=by unfold cn;omega
theorem akp (x):A.le (Wj x) (oL.sh x):=A.sn λh=>by
 unfold Wj;rw [A.fT];refine ⟨⟨false,by simp⟩,λb aa=>?_⟩;change b=true->x=[] at aa;cases b with
 | true=>rw [aa rfl];exact A.ea.2 rfl
 | false=>
  simp only [Bool.false_eq_true,if_false];exact A.kF.2 ⟨by change List.length x<=3000000 at h;simp only [jn,cn];omega,A.ea.2 (by simp)⟩
abbrev akq (c:a6):Prop:=c.1.length<=20/\c.2.1.length<=40/\c.2.2.1.length<=60/\c.2.2.2.1.length<=40
abbrev Hl:aO:=⟨bu,de,λ_=>True,λ_=>false⟩
theorem akr (x):A.le (Wn x) (Hl.sh x):=A.bx λ_=>by simp [Wn]
abbrev Hm:aO:=⟨.aA bu bu,bu,λ_=>True,λx=>if x.1<x.2 then -1 else if x.1 > x.2 then 1 else 0⟩
theorem aks (x):A.le (Wl Hl.sh x) (Hm.sh x):=A.bx λ_=>by
 unfold Wl;simp only [aO.sh,Hl,A.nz,A.aJ,Bool.false_eq_true,if_false,decide_eq_true_eq];grind
abbrev lX:aO:=⟨.aA Hj Hj,bu,λ_=>True,λx=>if x.1.2<x.2.2 then -1 else if x.1.2 > x.2.2 then 1 else 0⟩
theorem akt (x):A.le (Wk Hm.sh x) (lX.sh x):=A.bx λ_=>by
 unfold Wk;simp only [aO.sh,Hm,A.nz,A.aJ]
abbrev NR:aO:=⟨.int .u64,bu,λx=>0<=x/\x<=12,λx=>(DB x).val 0⟩
theorem aku (x):A.le (DB x) (NR.sh x):=A.bx λh=>by
 have key:∃ v,DB x=A.pure v:=by
  change Int at x;change (0:Int)<=x/\x<=12 at h;unfold DB;have aF:¬(x>=4294967296):=by omega
  have bB:¬(x>=65536):=by omega
  have di:¬(x>=256):=by omega
  have gv:IntKind.wrap .u8 x=x:=by
   show (if (false&&decide (x % 2 ^ 8>=(2 ^ (8 - 1):Int)))=true then x % 2 ^ 8 - 2 ^ 8 else x % 2 ^ 8)=x;grind
  have mC:0<=x/\x<Int.ofNat 256:=⟨h.1,by grind⟩
  simp only [decide_eq_true_eq,aF,bB,di,if_false,A.aJ,A.b2,gv,A.bH mC];grind
 obtain ⟨v,af⟩:=key;simp_all
abbrev NS:aO:=⟨.int .u64,bu,λx=>0<=x/\x<=12,λx=>(DB x).val 0⟩
theorem akv (f) (x):A.le (Wi f NR.sh x) (NS.sh x):=A.bx λh=>by
 unfold Wi;simp only [aO.sh,A.dI];simp_all
end Go.Fer.H
namespace Go.Fer.H
open A (W)
set_option linter.unusedVariables false
set_option linter.unusedSimpArgs false
section
variable {al:Type} (d:al) (lt:al->al->Bool)
def vs (l:List al):Nat->List al
 | 0=>l
 | k+1=>if lt (l.getD (k+1) d) (l.getD k d)=true then vs ((l.set (k+1) (l.getD k d)).set k (l.getD (k+1) d)) k else l
def pA (e:al):List al->List al
 | []=>[e]
 | a::r=>if lt e a=true then a::pA e r else e::a::r
def tY (l:List al):List al:=l.foldl (λr e=>pA lt e r) []
def fq (l:List al):List al:=(tY lt l).reverse
theorem WB:∀ (r:List al) (e:al) (R:List al),vs d lt (r.reverse++e::R) r.length=(pA lt e r).reverse++R
 | [],e,R=>rfl
 | a::r,e,R=>by
  have aF:((a::r).reverse++e::R).getD (r.length+1) d=e:=by
   simp
  have bB:((a::r).reverse++e::R).getD r.length d=a:=by
   simp
  show vs d lt ((a::r).reverse++e::R) (r.length+1)=_;unfold vs;rw [aF,bB];unfold pA;split
  ·have di:(((a::r).reverse++e::R).set (r.length+1) a).set r.length e=r.reverse++e::(a::R):=by
    simp
   rw [di,WB r e (a::R)];simp
  ·simp
theorem NT (e:al):∀ r:List al,(pA lt e r).Perm (e::r)
 | []=>.refl _
 | a::r=>by
  unfold pA;split
  ·exact ((NT e r).cons a).trans (List.Perm.swap e a r)
  rfl
theorem WC:∀ (l r:List al),(l.foldl (λr e=>pA lt e r) r).Perm (l++r)
 | [],r=>.refl _
 | x::l,r=>by
  simp only [List.foldl_cons];refine (WC l _).trans ?_;refine ((NT lt x r).append_left l).trans ?_;simp
theorem WD (l:List al):(tY lt l).Perm l:=by
 have:=WC lt l [];rwa [List.append_nil] at this
theorem DG (l:List al):(fq lt l).Perm l:=(List.reverse_perm _).trans (WD lt l)
theorem WE (l:List al):(tY lt l).length=l.length:=(WD lt l).length_eq
theorem Hn (l:List al):(fq lt l).length=l.length:=(DG lt l).length_eq
theorem WG {l:List al} {x:al}:x∈fq lt l<->x∈l:=(DG lt l).mem_iff
theorem akw (l:List al) (e:al):tY lt (l++[e])=pA lt e (tY lt l):=by simp [tY]
def qt (l:List al) (n:Nat):List al:=(tY lt (l.take n)).reverse++l.drop n
theorem akx (l:List al):qt lt l 1=l:=by
 cases l with
 | nil=>rfl
 | cons x l=>rfl
theorem aky (l:List al):qt lt l l.length=fq lt l:=by simp [qt,fq]
theorem akz (l:List al) (n:Nat) (h:n<=l.length):(qt lt l n).length=l.length:=by
 simp [qt,WE,Nat.min_eq_left h];omega
theorem akA {l:List al} {n:Nat} (h:n<l.length):vs d lt (qt lt l n) n=qt lt l (n+1):=by
 have aF:(tY lt (l.take n)).length=n:=by rw [WE];grind
 have:=WB d lt (tY lt (l.take n)) l[n] (l.drop (n+1));rw [aF] at this;unfold qt;rw [List.drop_eq_getElem_cons h,this,List.take_add_one,List.getElem?_eq_getElem h,Option.toList_some,akw]
theorem NU (ch:∀ a b,lt a b=false->lt b a=true\/lt b a=false) (aW:∀ a b c:al,lt a b=false->lt b c=false->lt a c=false) (WH:∀ a b,lt a b=true->lt b a=false) (e:al):∀ r:List al,r.Pairwise (λa b=>lt a b=false)->(pA lt e r).Pairwise (λa b=>lt a b=false)
 | [],_=>by simp [pA]
 | a::r,h=>by
  rw [List.pairwise_cons] at h;unfold pA;split
  ·rename_i he;refine List.pairwise_cons.2 ⟨λx aj=>?_,NU ch aW WH e r h.2⟩;rcases List.mem_cons.1 ((NT lt e r).mem_iff.1 aj) with rfl | aj
   ·exact WH _ _ he
   ·exact h.1 x aj
  ·rename_i he;have he:lt e a=false:=by grind
   refine List.pairwise_cons.2 ⟨λx aj=>?_,List.pairwise_cons.2 h⟩;grind
end
def ho (a b:Int):Bool:=decide (a<b)
def hW (a b:bz):Bool:=decide (a.2<b.2)
theorem WI:∀ (l r:z1'),r.Pairwise (λa b=>ho a b=false)->(l.foldl (λr e=>pA ho e r) r).Pairwise (λa b=>ho a b=false)
 | [],r,h=>h
 | x::l,r,h=>WI l _ (NU ho (λa b _=>by simp) (λa b c G V=>by simp [ho] at *;omega) (λa b h=>by simp [ho] at *;omega) x r h)
theorem NV (l:z1'):(fq ho l).Pairwise (·<=·):=by
 have:=WI l [] .nil;unfold fq;rw [List.pairwise_reverse];exact this.imp λh=>by simp [ho] at h;exact h
theorem WJ:∀ (l r:List bz),r.Pairwise (λa b=>hW a b=false)->(l.foldl (λr e=>pA hW e r) r).Pairwise (λa b=>hW a b=false)
 | [],r,h=>h
 | x::l,r,h=>WJ l _ (NU hW (λa b _=>by simp) (λa b c G V=>by simp [hW] at *;omega) (λa b h=>by simp [hW] at *;omega) x r h)
theorem akB (l:List bz):(fq hW l).Pairwise λa b=>a.2<=b.2:=by
 have:=WJ l [] .nil;unfold fq;rw [List.pairwise_reverse];exact this.imp λh=>by simp [hW] at h;exact h
theorem Ab {l m:z1'} (h:m.Pairwise (·<=·)) (ar:l.Perm m):fq ho l=m:=
 List.Perm.eq_of_pairwise (λa b _ _ G V=>by omega) (NV l) h ((DG ho l).trans ar)
theorem WK {l m:z1'} (ar:l.Perm m):fq ho l=fq ho m:=Ab (NV m) (ar.trans (DG ho m).symm)
theorem akC {al:Type} {d:al} {lt:al->al->Bool} {D aK:Type} {body:D->A (W D aK)} {s0:D} (mk:Nat->List al->D) (fin:List al->aK) (hi:Nat) (fe:List al) (mU:s0=mk hi fe) (lM:hi<fe.length)
  (aG:∀ k l,l.length=fe.length->k<fe.length->body (mk k l)=A.pure (if 0<k/\lt (l.getD k d) (l.getD (k - 1) d)=true then .next (mk (k - 1) ((l.set k (l.getD (k - 1) d)).set (k - 1) (l.getD k d))) else .done (fin l))) :
  A.loop body s0=A.pure (fin (vs d lt fe hi)):=by
 subst mU;have key:∀ k l,l.length=fe.length->k<fe.length->A.loop body (mk k l)=A.pure (fin (vs d lt l k)):=by
  intro k;induction k with
  | zero=>
   intro l ak ao;exact A.s8 (by rw [aG 0 l ak ao,if_neg (by simp)];rfl)
  | succ k aM=>
   intro l ak ao;unfold vs;by_cases h:lt (l.getD (k+1) d) (l.getD k d)=true
   ·rw [if_pos h,A.Bm (s':=mk k ((l.set (k+1) (l.getD k d)).set k (l.getD (k+1) d)))]
    ·exact aM _ (by simpa using ak) (by omega)
    ·rw [aG (k+1) l ak ao,if_pos ⟨by omega,h⟩];rfl
   ·rw [if_neg h];exact A.s8 (by grind)
 grind
theorem NW {al:Type} {l:List al} {d:al} {k:Nat}:l.getD ((k:Int) - 1).toNat d=l.getD (k - 1) d:=by
 simp
theorem WL {al:Type} {l:List al} {d:al} {k:Nat}:l.getD ((k:Int)).toNat d=l.getD k d:=by rfl
theorem akD {D aK:Type} {c:Bool} {p:Prop} [Decidable p] (h:c=decide p) {x y:A (W D aK)} {a b:W D aK} (G:p->x=A.pure a) (V:¬p->y=A.pure b):(if c=true then x else y)=A.pure (if p then a else b):=by
 grind
def Ho (x:Int×Int×(bz×bb×Int->A Int)×List bz×Unit):A (List bz×Unit):=A.dR (x.1=0/\x.2.1=(x.2.2.2.1.length:Int)/\x.2.2.2.1.length<=12/\x.2.2.1=lX.sh) (fq hW x.2.2.2.1,())
theorem akE (x):A.le (Wr x) (Ho x):=A.bx λh=>by
 obtain ⟨a,b,f,l,u⟩:=x;obtain ⟨G,V,ah,a7⟩:=h;change a=0 at G;change b=(l.length:Int) at V;change l.length<=12 at ah;change f=lX.sh at a7;subst G;subst V;subst a7;unfold Wr;rw [A.dK (List.range (l.length - 1)) (λi (_:Unit)=>(0,(l.length:Int),lX.sh,((i+1:Nat):Int),qt hW l (i+1),())) (λ_ _=>.next ()) (λ_=>(fq hW l,())) () ?_ ?_ ?_]
 ·rw [er]
 ·show (0,(l.length:Int),lX.sh,IntKind.wrap .i64 (Add.add 0 1),l,())=(0,(l.length:Int),lX.sh,((0+1:Nat):Int),qt hW l (0+1),())
  rw [akx];rfl
 ·intro i M _;have M:i+1<l.length:=by grind
  have ak:=akz hW l (i+1) (by omega);have hw:=bG (n:=((i+1:Nat):Int)+1) (by omega) (by omega);have ay:decide (((i+1:Nat):Int)<(l.length:Int))=true:=by grind
  simp only [ay,if_true];rw [akC (d:=((0,0,0,0,0,0),0)) (lt:=hW) (λk m=>(0,(l.length:Int),lX.sh,((i+1:Nat):Int),(k:Int),m,())) (λm=>.next (0,(l.length:Int),lX.sh,((i+1:Nat):Int),m,())) (i+1) (qt hW l (i+1)) rfl (by omega) ?_]
  ·simp only [A.aJ,A.b2,ct,hw,akA ((0,0,0,0,0,0),0) hW M];rfl
  ·intro k m hm ao;have gR:0<k->IntKind.wrap .i64 ((k:Int) - 1)=(k:Int) - 1:=λ_=>bG (by omega) (by omega);by_cases lM:0<k
   ·have ar:decide ((k:Int) > 0)=true:=by grind
    have cf:(0:Int)<=(k:Int)/\(k:Int)<Int.ofNat m.length:=⟨by omega,by grind⟩
    have cF:(0:Int)<=(k:Int) - 1/\(k:Int) - 1<Int.ofNat m.length:=⟨by omega,by omega⟩
    have ep:(0:Int)<=(k:Int) - 1/\(k:Int) - 1<Int.ofNat (m.set k (m.getD (k - 1) ((0,0,0,0,0,0),0))).length:=⟨by omega,by grind⟩
    have Hp:((k:Int) - 1)=((k - 1:Nat):Int):=by omega
    simp only [ar,gR lM,cf,cF,forall_const,and_self,true_and,A.bw,aO.sh,lX,A.nz,A.kO,A.aJ,if_true,Bool.true_and,NW,WL,Int.toNat_natCast,ep];rw [show ((k:Int) - 1).toNat=k - 1 from by omega];refine akD (p:=0<k/\hW (m.getD k ((0,0,0,0,0,0),0)) (m.getD (k - 1) ((0,0,0,0,0,0),0))=true) ?_ (λ_=>?_) (λ_=>rfl)
    ·rw [Bool.eq_iff_iff];simp only [hW,lM,true_and,decide_eq_true_eq];grind
    rw [Hp]
   ·have WM:k=0:=by omega
    subst WM;simp [cg]
 ·intro _;have e:qt hW l (l.length - 1+1)=fq hW l:=by
   cases l with
   | nil=>rfl
   | cons x r=>exact aky hW (x::r)
  have ay:decide (((l.length - 1+1:Nat):Int)<(l.length:Int))=false:=by grind
  simp only [List.length_range,ay,Bool.false_eq_true,if_false,e,A.aJ]
def Hq (x:Int×Int×Int×(bz×bb×Int->A Int)×List bz×Unit):A (List bz×Unit):=A.dR (x.1=0/\x.2.1=(x.2.2.2.2.1.length:Int)/\x.2.2.2.2.1.length<=12/\x.2.2.2.1=lX.sh) (fq hW x.2.2.2.2.1,())
theorem akF (x):A.le (Wx Ho x) (Hq x):=A.bx λh=>by
 obtain ⟨a,b,c,f,l,u⟩:=x;obtain ⟨G,V,ah,a7⟩:=h;change a=0 at G;change b=(l.length:Int) at V;change l.length<=12 at ah;change f=lX.sh at a7;subst G;subst V;subst a7;unfold Wx;refine A.s8 ?_;have hw:=bG (n:=(l.length:Int) - 0) (by omega) (by omega);have ay:decide ((l.length:Int) - 0<=12)=true:=by grind
 simp only [hw,ay,if_true];unfold Ho;simp_all
theorem akG {n:Int} (h:0<=n) (V:n<=12):IntKind.wrap .u64 n=n:=by
 show (if (false&&decide (n % 2 ^ 64>=(2 ^ (64 - 1):Int)))=true then n % 2 ^ 64 - 2 ^ 64 else n % 2 ^ 64)=n;grind
def xQ (x:z1'×Unit):A (z1'×Unit):=A.dR (x.1.length<4611686018427387904) (fq ho x.1,())
def Ac (x:(bz×bb×Int->A Int)×List bz×Unit):A (List bz×Unit):=A.dR (x.2.1.length<=12/\x.1=lX.sh) (fq hW x.2.1,())
theorem akH (x):A.le (Wz NS.sh Hq x) (Ac x):=A.bx λh=>by
 obtain ⟨f,l,u⟩:=x;obtain ⟨h,a7⟩:=h;change l.length<=12 at h;change f=lX.sh at a7;subst a7;unfold Wz;have hw:=akG (n:=(l.length:Int)) (by omega) (by omega);show A.bind (A.dR (0<=IntKind.wrap .u64 (l.length:Int)/\IntKind.wrap .u64 (l.length:Int)<=12) _) _=_;rw [A.dI,A.bH (by omega)];unfold Hq;simp_all
def Ad (x:(z1'->Prop)×Unit):A (z1'×Unit):=⟨(∃ L,x.1 L)/\∀ L,x.1 L->L.length<60000,λy=>x.1 y.1⟩
theorem WN:∀ (L acc:z1'),L.length+acc.length<60000->jK (λ(D:z1'×Unit) (y:Int)=>A.bind (A.ae (cn (Add.add (List.length D.1) (Add.add 0 1))) (A.pure (dd.normal,D.1++[y],()))) λp=>A.pure (p.1,p.2.1,())) L (acc,())=A.pure (.normal,acc++L,())
 | [],acc,_=>by simp [jK]
 | x::L,acc,h=>by
  simp only [List.length_cons] at h;unfold jK;rw [A.bH (hV (by grind))];simp only [A.aJ];rw [WN L (acc++[x]) (by grind)];simp
theorem akI (x):A.le (Wo x) (Ad x):=λh=>by
 obtain ⟨S,u⟩:=x;obtain ⟨G,V⟩:=h;show A.cv _ _;unfold Wo;rw [A.fT];refine ⟨G,λL iG=>?_⟩;have iG:S L:=iG;show A.cv (A.bind (jK _ L ([],())) _) _;rw [WN L [] (by grind)];simp only [A.aJ,r7,List.nil_append];exact A.ea.2 iG
theorem akJ (x):A.le (Wp Ad x) (Ad x):=λh=>by
 obtain ⟨S,u⟩:=x;show A.cv _ _;unfold Wp;rw [A.fT];exact ⟨h,λy aS=>A.ea.2 aS⟩
open Classical in
def Ae (S:z1'->Prop):z1':=if h:∃ L,S L then fq ho h.choose else []
abbrev sx:aO:=⟨.cq bu,fS,λS=>(∃ L,S L)/\(∀ L e2,S L->S e2->L.Perm e2)/\∀ L,S L->L.length<60000,λS=>Ae S⟩
theorem akK (x):A.le (VU xQ Ad x) (sx.sh x):=A.sn λh=>by
 obtain ⟨G,V,ah⟩:=h;unfold VU;rw [A.fT];refine ⟨⟨G,λL iG=>by grind⟩,λy aS=>?_⟩;have aS:x y.1:=aS;unfold xQ;show A.cv (A.bind (A.dR _ _) _) _;rw [A.dI,A.kF];refine ⟨Nat.lt_trans (ah _ aS) (by decide),A.ea.2 ?_⟩;show fq ho y.1=Ae x;unfold Ae;rw [dif_pos G];exact WK (V _ _ aS G.choose_spec)
theorem akL {S:z1'->Prop} {L:z1'} (h:S L) (V:∀ L e2,S L->S e2->L.Perm e2):Ae S=fq ho L:=by
 have G:∃ L,S L:=⟨L,h⟩
 unfold Ae;rw [dif_pos G];exact WK (V _ _ G.choose_spec h)
def jQ {al:Type} (x:Option (List (Int×al))) (L:z1'):Prop:=∃ m,x=some m/\(m.map (·.1)).Perm L
abbrev Hr:aO:=⟨.map bu bu,.cq bu,λ_=>True,λx=>jQ (some x)⟩
theorem akM (x):A.le (ajJ jQ x) (Hr.sh x):=A.bx λ_=>rfl
abbrev xR:aO:=⟨.map bu hl,.cq bu,λ_=>True,λx=>jQ (some x)⟩
theorem akN (x):A.le (aj0 jQ x) (xR.sh x):=A.bx λ_=>rfl
theorem tZ {al:Type} {m:List (Int×al)} {L:z1'}:jQ (some m) L<->(m.map (·.1)).Perm L:=⟨λ⟨dw,h,k⟩=>by grind,λh=>⟨m,rfl,h⟩⟩
theorem WO {al:Type} {m:List (Int×al)} (h:m.length<60000):sx.pre (jQ (some m)):=
 ⟨⟨_,tZ.2 (.refl _)⟩,λL e2 G V=>(tZ.1 G).symm.trans (tZ.1 V),λL iG=>by rw [<-(tZ.1 iG).length_eq];grind⟩
theorem WQ {al:Type} {m:List (Int×al)}:Ae (jQ (some m))=fq ho (m.map (·.1)):=
 akL (tZ.2 (.refl _)) λL e2 G V=>(tZ.1 G).symm.trans (tZ.1 V)
end Go.Fer.H
namespace Go.Fer.H
open A (W)
set_option linter.unusedVariables false
set_option linter.unusedSimpArgs false
def sy (s:Int×Int):Bool:=b3 s.1 (-30) s.2&&!decide (s.2 > 30)
def iK (l:z4') (i:Nat):Bool:=b3 (l.getD i (0,0)).1 0 (l.getD i (0,0)).2&&!decide ((l.getD i (0,0)).2 > 9999)&&!(decide (0<i)&&decide ((l.getD i (0,0)).1<=(l.getD (i - 1) (0,0)).2))
def Af (l:z4'):Bool:=(List.range l.length).all (iK l)
def sz (c:a6):Bool:=!(decide ((c.1.length:Int) > 3)||decide ((c.2.1.length:Int) > 12)||decide ((c.2.2.1.length:Int) > 12)||decide ((c.2.2.2.1.length:Int) > 4))&&pz c.2.2.2.2
def jR (c:a6):Bool:=sz c&&c.1.all sy&&c.2.1.all (ln c.1.length)&&c.2.2.1.all (λn=>b3 n 0 99)&&Af c.2.2.2.1
abbrev vt:aO:=⟨jr,de,iN,λc=>jR c⟩
theorem Hs {D aK β:Type} {mk:β->D} {b:β} {q:Bool} {r:aK} {m:A (W D aK)} (G:q=true->m=A.pure (.next (mk b))) (V:q=false->m=A.pure (.done r)):m=A.pure (W.hj mk (if (!q)=true then .done r else .next b)):=by
 cases q
 ·exact V rfl
 ·exact G rfl
theorem WR {al:Type} {a t:Bool} {m n:al}:(if (a||!(if (!a)=true then t else false))=true then m else n)=if (!a&&t)=true then n else m:=by grind
theorem akO (x):A.le (V5 cp.sh vq.sh vr.sh x) (vt.sh x):=A.bx λh=>by
 obtain ⟨aU,aX,bP,gx⟩:=h;unfold V5;show _=A.pure (jR x);simp only [aO.sh,vq,A.nz,A.kO,A.aJ,bZ,WR];unfold jR;rw [show (!(decide ((x.1.length:Int) > 3)||decide ((x.2.1.length:Int) > 12)||decide ((x.2.2.1.length:Int) > 12)||decide ((x.2.2.2.1.length:Int) > 4))&&pz x.2.2.2.2)=sz x from rfl];cases aa:sz x with
 | false=>rfl
 | true=>
  rw [if_pos rfl];rw [A.dK x.1 (λi (_:Unit)=>((i:Int),x,())) (λy b=>if (!sy y)=true then .done (.done false) else .next b) (λ_=>.next (x,())) () ?_ ?_ ?_]
  ·rw [kP (q:=sy) _ _ (λ_=>rfl)];cases hc:x.1.all sy with
   | false=>simp
   | true=>
    simp only [if_true,A.aJ,A.b2];rw [A.dK x.2.1 (λi (_:Unit)=>((i:Int),x,())) (λy b=>if (!ln x.1.length y)=true then .done (.done false) else .next b) (λ_=>.next (x,())) () ?_ ?_ ?_]
    ·rw [kP (q:=ln x.1.length) _ _ (λ_=>rfl)];cases ay:x.2.1.all (ln x.1.length) with
     | false=>simp
     | true=>
      simp only [if_true,A.aJ,A.b2];rw [A.dK x.2.2.1 (λi (_:Unit)=>((i:Int),x,())) (λy b=>if (!b3 y 0 99)=true then .done (.done false) else .next b) (λ_=>.next (x,())) () ?_ ?_ ?_]
      ·rw [kP (q:=λn=>b3 n 0 99) _ _ (λ_=>rfl)];cases he:x.2.2.1.all (λn=>b3 n 0 99) with
       | false=>simp
       | true=>
        simp only [if_true,A.aJ,A.b2];rw [A.dK (List.range x.2.2.2.1.length) (λi (_:Unit)=>((i:Int),x,())) (λy b=>if (!iK x.2.2.2.1 y)=true then .done (.done false) else .next b) (λ_=>.next ()) () ?_ ?_ ?_]
        ·rw [kP (q:=iK x.2.2.2.1) _ _ (λ_=>rfl)];unfold Af;cases (List.range x.2.2.2.1.length).all (iK x.2.2.2.1)<;>simp
        ·rfl
        ·intro i M b;have M:i<x.2.2.2.1.length:=by grind
         have hw:=bG (n:=(i:Int)+1) (by omega) (by omega);have gR:=bG (n:=(i:Int) - 1) (by omega) (by omega);have js:x.2.2.2.1.getD i (0,0)=x.2.2.2.1[i]:=by grind
         have sA:(decide ((i:Int) > 0))=decide (0<i):=by simp
         have U:decide (0<i)=true->((0:Int)<=(i:Int) - 1/\(i:Int) - 1<(x.2.2.2.1.length:Int)):=λh=>by grind
         refine Hs (mk:=λ(_:Unit)=>(((i+1:Nat):Int),x,())) (b:=b) ?_ ?_<;>intro br<;>
         ·simp only [List.getElem_range,iK,js] at br;simp only [bZ,cY M,if_true,dm M,cJ M,A.bw,aO.sh,cp,A.nz,A.jc,A.fE,ct,hw,gR,sA,NW,List.getElem_range];revert br;generalize b3 x.2.2.2.1[i].1 0 x.2.2.2.1[i].2=dB;generalize decide (x.2.2.2.1[i].2 > 9999)=eu;generalize decide (x.2.2.2.1[i].1<=(x.2.2.2.1.getD (i - 1) (0,0)).2)=kj;revert U;generalize decide (0<i)=nx;intro U;cases nx
          ·cases dB<;>cases eu<;>cases kj<;>simp
          ·have U:=U rfl;cases dB<;>cases eu<;>cases kj<;>simp [U,(by omega:(1:Int)<=(i:Int))]
        simp
      ·rfl
      ·intro i M b;have hw:=bG (n:=(i:Int)+1) (by omega) (by omega);simp only [bZ,cY M,if_true,dm M,cJ M,A.bw,aO.sh,cp,A.nz,A.aJ,ct,hw];exact mW (mk:=λ(_:Unit)=>(((i+1:Nat):Int),x,()))
      simp
    ·rfl
    ·intro i M b;have hw:=bG (n:=(i:Int)+1) (by omega) (by omega);simp only [bZ,cY M,if_true,dm M,cJ M,A.bw,aO.sh,vr,A.nW,A.gI,A.aJ,ct,hw];rw [A.bH aU];exact mW (mk:=λ(_:Unit)=>(((i+1:Nat):Int),x,()))
    simp
  ·rfl
  ·intro i M b;have hw:=bG (n:=(i:Int)+1) (by omega) (by omega);refine Hs (mk:=λ(_:Unit)=>(((i+1:Nat):Int),x,())) (b:=b) ?_ ?_<;>intro br<;>
   ·simp only [sy] at br;simp only [bZ,cY M,if_true,dm M,cJ M,A.bw,aO.sh,cp,A.nz,A.jc,A.fE,ct,hw];revert br;generalize b3 x.1[i].1 (-30) x.1[i].2=dB;generalize decide (x.1[i].2 > 30)=eu;simp_all
  simp
theorem WS {al:Type} {p:al->Bool} (l:List al):(l.any λy=>!p y)=!l.all p:=by grind
theorem akP (x):A.le (V4 cp.sh (iZ hl).sh vq.sh (iZ bu).sh DF.sh Aa.sh x) (vt.sh x):=A.bx λh=>by
 obtain ⟨aU,aX,bP,gx⟩:=h;unfold V4;show _=A.pure (jR x);simp only [show vq.sh x.2.2.2.2=A.pure (pz x.2.2.2.2) from rfl,A.kO,A.aJ,bZ,WR];unfold jR;rw [show (!(decide ((x.1.length:Int) > 3)||decide ((x.2.1.length:Int) > 12)||decide ((x.2.2.1.length:Int) > 12)||decide ((x.2.2.2.1.length:Int) > 4))&&pz x.2.2.2.2)=sz x from rfl];cases aa:sz x with
 | false=>rfl
 | true=>
  rw [if_pos rfl];rw [A.dK x.1 (λi (_:Unit)=>(x.1,(x.1.length:Int),(i:Int),x,())) (λy b=>if (!sy y)=true then .done (.done false) else .next b) (λ_=>.next (x,())) () ?_ ?_ ?_]
  ·rw [kP (q:=sy) _ _ (λ_=>rfl)];cases hc:x.1.all sy with
   | false=>simp
   | true=>
    simp only [if_true,A.aJ,A.b2];rw [A.dK (List.range x.2.2.2.1.length) (λi (_:Unit)=>(x.2.2.2.1,(x.2.2.2.1.length:Int),(i:Int),x,())) (λy b=>if (!iK x.2.2.2.1 y)=true then .done (.done false) else .next b) (λ_=>.next (x,())) () ?_ ?_ ?_]
    ·rw [kP (q:=iK x.2.2.2.1) _ _ (λ_=>rfl)];unfold Af;cases ay:(List.range x.2.2.2.1.length).all (iK x.2.2.2.1) with
     | false=>simp
     | true=>
      simp only [if_true,A.aJ,A.b2];have aF:(iZ hl).sh (x.2.1,λy=>DF.sh (y,some x))=A.pure (!x.2.1.all (ln x.1.length)):=by
       have aw:∀ y,DF.sh (y,some x)=A.pure (!ln x.1.length y):=λy=>A.bU ⟨x,rfl,aU⟩ _;refine (A.bU ⟨aX,λy _=>⟨_,aw y⟩⟩ _).trans ?_;refine congrArg A.pure ?_;rw [<-WS];simp_all
      have bB:(iZ bu).sh (x.2.2.1,Aa.sh)=A.pure (!x.2.2.1.all (λn=>b3 n 0 99)):=by
       refine (A.bU ⟨bP,λy _=>⟨_,rfl⟩⟩ _).trans ?_;refine congrArg A.pure ?_;rw [<-WS];show (x.2.2.1.any λy=>(Aa.sh y).val false)=_;simp only [show ∀ y,Aa.sh y=A.pure (!b3 y 0 99) from λ_=>rfl,A.fE]
      rw [aF,bB];simp only [A.aJ,A.kO];grind
    ·rfl
    ·intro i M b;have M:i<x.2.2.2.1.length:=by grind
     have hw:=bG (n:=(i:Int)+1) (by omega) (by omega);have gR:=bG (n:=(i:Int) - 1) (by omega) (by omega);have js:x.2.2.2.1.getD i (0,0)=x.2.2.2.1[i]:=by grind
     have sA:(decide ((i:Int) > 0))=decide (0<i):=by simp
     have U:decide (0<i)=true->((0:Int)<=(i:Int) - 1/\(i:Int) - 1<(x.2.2.2.1.length:Int)):=λh=>by grind
     refine Hs (mk:=λ(_:Unit)=>(x.2.2.2.1,(x.2.2.2.1.length:Int),((i+1:Nat):Int),x,())) (b:=b) ?_ ?_<;>intro br<;>
     ·simp only [List.getElem_range,iK,js] at br;simp only [bZ,cY M,if_true,dm M,cJ M,A.bw,aO.sh,cp,A.nz,A.jc,A.fE,ct,hw,gR,sA,NW,List.getElem_range];revert br;generalize b3 x.2.2.2.1[i].1 0 x.2.2.2.1[i].2=dB;generalize decide (x.2.2.2.1[i].2 > 9999)=eu;generalize decide (x.2.2.2.1[i].1<=(x.2.2.2.1.getD (i - 1) (0,0)).2)=kj;revert U;generalize decide (0<i)=nx;intro U;cases nx
      ·cases dB<;>cases eu<;>cases kj<;>simp
      ·have U:=U rfl;cases dB<;>cases eu<;>cases kj<;>simp [U,(by omega:(1:Int)<=(i:Int))]
    simp
  ·rfl
  ·intro i M b;have hw:=bG (n:=(i:Int)+1) (by omega) (by omega);refine Hs (mk:=λ(_:Unit)=>(x.1,(x.1.length:Int),((i+1:Nat):Int),x,())) (b:=b) ?_ ?_<;>intro br<;>
   ·simp only [sy] at br;simp only [bZ,cY M,if_true,dm M,cJ M,A.bw,aO.sh,cp,A.nz,A.aJ,ct,hw];grind
  simp
end Go.Fer.H
namespace Go.Fer.H
open A (W)
set_option linter.unusedVariables false
set_option linter.unusedSimpArgs false
abbrev jt:bb:=(0,0,0,0,0,0)
def kV (l:List bb):Bool:=(List.range l.length).any λi=>(List.range i).any λk=>tX (l.getD k jt) (l.getD i jt)
def cL (c:a6):Int:=if jR c=true then (if kV c.2.1=true then 91 else 0) else 90
abbrev hX:aO:=⟨jr,bu,iN,λc=>cL c⟩
theorem sB {al:Type} {l:List al} {i:Nat} {d:al} (h:i<l.length):l.getD i d=l[i]:=by grind
theorem akQ (x):A.le (VN vt.sh Hk.sh x) (hX.sh x):=A.bx λh=>by
 obtain ⟨aU,aX,bP,gx⟩:=id h;unfold VN;show _=A.pure (cL x);rw [show vt.sh x=A.pure (jR x) from A.bU h _];unfold cL;cases jR x with
 | false=>simp
 | true=>
  simp only [A.aJ,Bool.not_true,Bool.false_eq_true,if_false,if_true];rw [A.dK (List.range x.2.1.length) (λi (_:Unit)=>((i:Int),x,())) (λi b=>if ((List.range i).any λk=>tX (x.2.1.getD k jt) (x.2.1.getD i jt))=true then .done (.done 91) else .next b) (λ_=>.next ()) () ?_ ?_ ?_]
  ·rw [rj];unfold kV;cases (List.range x.2.1.length).any λi=>(List.range i).any λk=>tX (x.2.1.getD k jt) (x.2.1.getD i jt)<;>simp
  ·rfl
  ·intro i M b;have M:i<x.2.1.length:=by grind
   have hw:=bG (n:=(i:Int)+1) (by omega) (by omega);have ay:decide ((i:Int)<Int.ofNat x.2.1.length)=true:=cY M;simp only [ay,if_true,List.getElem_range];rw [A.dK (List.range i) (λk (_:Unit)=>((i:Int),(k:Int),x,())) (λk b=>if tX (x.2.1.getD k jt) (x.2.1.getD i jt)=true then .done (.done (.done (.done 91))) else .next b) (λ_=>(.next ((i:Int),x,()):W (Int×a6×Unit) (W (Int×a6×Unit) (W Unit Int)))) () ?_ ?_ ?_]
   ·rw [rj];cases (List.range i).any λk=>tX (x.2.1.getD k jt) (x.2.1.getD i jt)<;>simp [hw]
   ·rfl
   ·intro k ao b;have ao:k<i:=by grind
    have vu:k<x.2.1.length:=by omega
    have hw:=bG (n:=(k:Int)+1) (by omega) (by omega);have ay:decide ((k:Int)<(i:Int))=true:=by grind
    simp only [ay,if_true,bZ,cJ vu,cJ M,A.bw,aO.sh,Hk,A.nz,A.jc,A.fE,A.aJ,ct,hw,List.getElem_range,WL];exact mW (mk:=λ(_:Unit)=>((i:Int),((k+1:Nat):Int),x,()))
   simp
  simp
def gS (l:List bb):List bb:=(et 0 99).filterMap λid=>l.find? λs=>s.1 == id
def fr (c:a6):List bb:=(gS c.2.1).filter λs=>!c.2.2.1.contains s.1
theorem akR (l:List bb):(gS l).length<=100:=by
 refine Nat.le_trans (List.length_filterMap_le _ _) ?_;rw [show (et 0 99).length=100 from by decide];omega
end Go.Fer.H
namespace Go.Fer.H
open A (W)
set_option linter.unusedVariables false
set_option linter.unusedSimpArgs false
def ju (m:List (Int×bb)) (k:Int):Option bb:=(m.find? λp=>decide (k=p.1)).map (·.2)
def i_ (m:List (Int×bb)):z1':=m.map (·.1)
theorem NX (p:Int×bb) (m:List (Int×bb)) (k:Int) (v:bb):kR (p::m) k v=if decide (k=p.1)=true then (p.1,v)::m else p::kR m k v:=rfl
theorem NY (k:Int) (v:bb):kR [] k v=[(k,v)]:=rfl
theorem WT (k:Int) (v:bb):∀ m:List (Int×bb),(kR m k v).length<=m.length+1
 | []=>by rw [NY];simp
 | p::m=>by
  rw [NX];split
  ·simp
  ·simp;exact WT k v m
theorem NZ (k:Int) (v:bb) (x:Int):∀ m:List (Int×bb),ju (kR m k v) x=if x=k then some v else ju m x
 | []=>by
  rw [NY];by_cases h:x=k<;>simp [ju,h]
 | p::m=>by
  rw [NX];have aM:=NZ k v x m;unfold ju at aM ⊢;grind
theorem DH (k:Int) (v:bb):∀ m:List (Int×bb),((i_ m).Nodup->(i_ (kR m k v)).Nodup)/\∀ x,x∈i_ (kR m k v)<->x∈i_ m\/x=k
 | []=>by rw [NY];simp [i_]
 | p::m=>by
  obtain ⟨G,V⟩:=DH k v m;rw [NX];by_cases h:k=p.1
  ·subst h;simp only [decide_true,if_true];refine ⟨λh=>h,λx=>?_⟩;show x∈p.1::i_ m<->x∈p.1::i_ m\/x=p.1;grind
  ·simp only [h,decide_false,Bool.false_eq_true,if_false];refine ⟨λaD=>?_,λx=>?_⟩
   ·show (p.1::i_ (kR m k v)).Nodup;have B':(p.1::i_ m).Nodup:=aD;grind
   ·show x∈p.1::i_ (kR m k v)<->x∈p.1::i_ m\/x=k;grind
theorem WU {m:List (Int×bb)} {k:Int}:k∈i_ m<->(ju m k).isSome=true:=by
 unfold ju i_;simp
def Ag (l:List bb):Prop:=∀ a∈l,∀ b∈l,a.1=b.1->a=b
def qu (l:List bb) (k:Int):Option bb:=l.find? λs=>s.1 == k
def rm:List bb->List (Int×bb)->Option (List (Int×bb))
 | [],m=>some m
 | s::l,m=>if ((ju m s.1).isSome&&!decide ((ju m s.1).getD jt=s))=true then none else rm l (kR m s.1 s)
structure t_ (P:List bb) (m:List (Int×bb)):Prop where
 oF:∀ k,ju m k=qu P k
 mj:(i_ m).Nodup
 Ah:Ag P
 DI:m.length<=P.length
theorem WV {l:List bb} {k:Int} {s:bb} (h:qu l k=some s):s∈l/\s.1=k:=by
 unfold qu at h;grind
theorem akS {l:List bb} {k:Int} (h:qu l k=none):∀ s∈l,s.1≠k:=by
 unfold qu at h;grind
theorem t_.nil:t_ [] []:=⟨λ_=>rfl,.nil,λa h=>by simp,Nat.le_refl _⟩
theorem Ai:∀ (l P:List bb) (m:List (Int×bb)),t_ P m->(Ag (P++l)->∃ dw,rm l m=some dw/\t_ (P++l) dw)/\(¬Ag (P++l)->rm l m=none)
 | [],P,m,h=>by simp only [List.append_nil];exact ⟨λ_=>⟨m,rfl,h⟩,λaD=>absurd h.Ah aD⟩
 | s::l,P,m,h=>by
  unfold rm;rw [h.oF];cases aw:qu P s.1 with
  | some o=>
   obtain ⟨ag,M⟩:=WV aw;by_cases he:o=s
   ·subst he;simp only [Option.isSome_some,Option.getD_some,decide_true,Bool.not_true,Bool.and_false,Bool.false_eq_true,if_false];have:=Ai l (P++[o]) (kR m o.1 o) ⟨λk=>?_,(DH _ _ _).1 h.mj,?_,?_⟩
    ·grind
    ·rw [NZ,h.oF];unfold qu at aw ⊢;grind
    ·intro a ba b aa vv;simp only [List.mem_append,List.mem_singleton] at ba aa;exact h.Ah a (ba.elim id λe=>e ▸ ag) b (aa.elim id λe=>e ▸ ag) vv
    ·have hm:o.1∈i_ m:=WU.2 (by rw [h.oF,aw];rfl);have ak:(i_ (kR m o.1 o)).length<=(i_ m).length:=by
      have G:=(DH o.1 o m).1 h.mj;have V:i_ (kR m o.1 o) ⊆ i_ m:=λx aj=>by
       rcases ((DH o.1 o m).2 x).1 aj with aj | aj
       ·exact aj
       ·exact aj ▸ hm
      exact G.length_le_of_subset V
     have:=h.DI;simp only [i_,List.length_map] at ak;grind
   ·simp only [Option.isSome_some,Option.getD_some,he,decide_false,Bool.not_false,Bool.and_self,if_true];refine ⟨λaD=>absurd (aD o (by grind) s (by simp) M) he,λ_=>trivial⟩
  | none=>
   simp only [Option.isSome_none,Bool.false_and,Bool.false_eq_true,if_false];have:=Ai l (P++[s]) (kR m s.1 s) ⟨λk=>?_,(DH _ _ _).1 h.mj,?_,?_⟩
   ·grind
   ·rw [NZ,h.oF];have q8:=aw;unfold qu at aw ⊢;grind
   ·have aw:=akS aw;intro a ba b aa vv;simp only [List.mem_append,List.mem_singleton] at ba aa;rcases ba with ba | rfl<;>rcases aa with aa | rfl
    ·exact h.Ah a ba b aa vv
    ·exact absurd vv (aw a ba)
    ·exact absurd vv.symm (aw b aa)
    ·rfl
   ·have:=WT s.1 s m;have:=h.DI;grind
theorem Aj (l:List bb):kV l=false<->Ag l:=by
 unfold kV tX;rw [<-Bool.not_eq_true,List.any_eq_true];constructor
 ·intro h a ba b aa vv;obtain ⟨i,M,rfl⟩:=List.mem_iff_getElem.1 ba;obtain ⟨k,ao,rfl⟩:=List.mem_iff_getElem.1 aa;by_cases he:l[i]=l[k]
  ·exact he
  ·exfalso;have ez:i≠k:=λe=>he (by grind);rcases Nat.lt_or_gt_of_ne ez with ch | ch
   ·refine h ⟨k,by grind,List.any_eq_true.2 ⟨i,by grind,?_⟩⟩;grind
   ·refine h ⟨i,by grind,List.any_eq_true.2 ⟨k,by grind,?_⟩⟩;grind
 ·rintro h ⟨i,M,ao⟩;obtain ⟨k,ao,hc⟩:=List.any_eq_true.1 ao;simp only [List.mem_range] at M ao;rw [sB M,sB (by omega:k<l.length)] at hc;simp only [Bool.and_eq_true,decide_eq_true_eq,Bool.not_eq_true',decide_eq_false_iff_not] at hc;exact hc.2 (h _ (List.getElem_mem _) _ (List.getElem_mem _) hc.1)
theorem akT {l:List bb}:kV l=true<->¬Ag l:=by rw [<-Aj];simp
theorem WW {l:List bb} {m:List (Int×bb)} (h:t_ l m) (hid:∀ s∈l,b3 s.1 0 99=true):(fq ho (i_ m)).map (λk=>(ju m k).getD jt)=gS l:=by
 have aF:fq ho (i_ m)=(et 0 99).filter λk=>(qu l k).isSome:=by
  refine Ab ?_ ?_
  ·refine List.Pairwise.filter _ ?_;unfold et;rw [List.pairwise_map];exact (List.pairwise_lt_range).imp λh=>by omega
  ·refine (List.perm_ext_iff_of_nodup h.mj ?_).2 λk=>?_
   ·refine List.Pairwise.filter _ ?_;unfold et;rw [List.pairwise_map];exact (List.pairwise_lt_range).imp λh=>by omega
   ·rw [WU,h.oF,List.mem_filter,so];refine ⟨λaG=>⟨?_,aG⟩,λaG=>aG.2⟩;obtain ⟨s,aG⟩:=Option.isSome_iff_exists.1 aG;obtain ⟨G,V⟩:=WV aG;exact V ▸ oJ.1 (hid s G)
 rw [aF];unfold gS;have:∀ L:z1',(L.filter λk=>(qu l k).isSome).map (λk=>(ju m k).getD jt)=L.filterMap λid=>l.find? λs=>s.1 == id:=by
  intro L;induction L with
  | nil=>rfl
  | cons k L aM=>
   rw [List.filter_cons,List.filterMap_cons];have e:(l.find? λs=>s.1 == k)=qu l k:=rfl;rw [e];cases aw:qu l k with
   | none=>grind
   | some s=>
    have ia:(ju m k).getD jt=s:=by rw [h.oF,aw];rfl
    grind
 grind
theorem akU {l:List bb} {m:List (Int×bb)} (h:t_ l m) (hid:∀ s∈l,b3 s.1 0 99=true):(gS l).length<=l.length:=by
 rw [<-WW h hid,List.length_map,Hn,i_,List.length_map];exact h.DI
theorem WX {aK:Type} {r:aK} {fin:List (Int×bb)->aK}:∀ (l:List bb) (m:List (Int×bb)),eX (λs m=>if ((ju m s.1).isSome&&!decide ((ju m s.1).getD jt=s))=true then .done r else .next (kR m s.1 s)) fin l m=match rm l m with | none=>r | some dw=>fin dw
 | [],m=>rfl
 | s::l,m=>by
  simp only [eX,rm];by_cases h:((ju m s.1).isSome&&!decide ((ju m s.1).getD jt=s))=true
  ·grind
  ·simp only [h,Bool.false_eq_true,if_false];exact WX l _
def vw (l:List bb):Prop:=l.length<=24/\∀ s∈l,b3 s.1 0 99=true
abbrev Ak:aO:=⟨.slice hl,.aA (.slice hl) .bool,vw,λl=>if kV l=true then ([],false) else (gS l,true)⟩
theorem akV {m:List (Int×bb)} {xS:z1'} {aK:Type} (h:xS.length<=24) :
 A.loop (λ(D:z1'×Int×Int×List bb×List (Int×bb)×Unit)=>if decide (D.2.2.1<D.2.1)=true then A.ae (0<=D.2.2.1/\D.2.2.1<Int.ofNat (List.length D.1)) (A.ae (cn
 (Add.add (List.length D.2.2.2.1) (Add.add 0 1))) (A.pure (W.next (D.1,D.2.1,IntKind.wrap .i64 (Add.add D.2.2.1 1),D.2.2.2.1++[Option.getD
 (Option.map (λx=>x.2) (List.find? (λp=>decide (List.getD D.1 (Int.toNat D.2.2.1) 0=p.1)) D.2.2.2.2.1)) (0,0,0,0,0,0)],D.2.2.2.2.1,())))) else A.bind (A.pure (W.next (D.2.2.2.1,()))) λr=>A.pure (W.done r)) (xS,Int.ofNat (List.length xS),0,[],m,())=A.pure (W.next (xS.map (λk=>(ju m k).getD jt),()):W (List bb×Unit) aK):=by
 rw [A.gA xS (λi (b:List bb)=>(xS,(xS.length:Int),(i:Int),b,m,())) (λk b=>.next (b++[(ju m k).getD jt])) (λb=>.next (b,())) (λi b=>b.length=i) [] ?_ ?_ ?_ ?_]
 ·rw [er,xE];rfl
 ·rfl
 ·rfl
 ·intro i M b aa;have hw:=bG (n:=(i:Int)+1) (by omega) (by omega);refine ⟨?_,λbf dh=>?_⟩
  ·simp only [bZ,cY M,if_true,dm M,cJ M,A.bw,ct,hw];rw [A.bH (hV (by grind))];rfl
  grind
 simp
def sC {gq:Type} (R:A gq):List bb×Int×Int×List (Int×bb)×Unit->A (W (List bb×Int×Int×List (Int×bb)×Unit) (W (List (Int×bb)×Unit) gq)):=λ(D:List bb×Int×Int×List (Int×bb)×Unit)=>if decide (D.2.2.1<D.2.1)=true then A.ae (0<=D.2.2.1/\D.2.2.1 <
 Int.ofNat (List.length D.1)) (if (Option.isSome (Option.map (λx=>x.2) (List.find? (λp=>decide ((List.getD D.1 (Int.toNat D.2.2.1) (0,0,0,0,0,0)).1=p.1)) D.2.2.2.1))&&!(decide ((Option.getD (Option.map (λx=>x.2) (List.find? (λp=>decide ((List.getD D.1 (Int.toNat D.2.2.1)
 (0,0,0,0,0,0)).1=p.1)) D.2.2.2.1)) (0,0,0,0,0,0)).1=(List.getD D.1 (Int.toNat D.2.2.1) (0,0,0,0,0,0)).1)&&(decide ((Option.getD
 (Option.map (λx=>x.2) (List.find? (λp=>decide ((List.getD D.1 (Int.toNat D.2.2.1) (0,0,0,0,0,0)).1=p.1)) D.2.2.2.1)) (0,0,0,0,0,0)).2.1=(List.getD D.1 (Int.toNat D.2.2.1) (0,0,0,0,0,0)).2.1)&&(decide ((Option.getD (Option.map (λx=>x.2) (List.find? (λp=>
 decide ((List.getD D.1 (Int.toNat D.2.2.1) (0,0,0,0,0,0)).1=p.1)) D.2.2.2.1)) (0,0,0,0,0,0)).2.2.1=(List.getD D.1 (Int.toNat D.2.2.1)
 (0,0,0,0,0,0)).2.2.1)&&(decide ((Option.getD (Option.map (λx=>x.2) (List.find? (λp=>decide ((List.getD D.1 (Int.toNat D.2.2.1) (0,0,0,0,0,0)).1=p.1)) D.2.2.2.1)) (0,0,0,0,0,0)).2.2.2.1=(List.getD D.1 (Int.toNat D.2.2.1) (0,0,0,0,0,0)).2.2.2.1)&&(decide
 ((Option.getD (Option.map (λx=>x.2) (List.find? (λp=>decide ((List.getD D.1 (Int.toNat D.2.2.1) (0,0,0,0,0,0)).1=p.1)) D.2.2.2.1))
 (0,0,0,0,0,0)).2.2.2.2.1=(List.getD D.1 (Int.toNat D.2.2.1) (0,0,0,0,0,0)).2.2.2.2.1)&&decide ((Option.getD (Option.map (λx=>x.2)
 (List.find? (λp=>decide ((List.getD D.1 (Int.toNat D.2.2.1) (0,0,0,0,0,0)).1=p.1)) D.2.2.2.1)) (0,0,0,0,0,0)).2.2.2.2.2=(List.getD
 D.1 (Int.toNat D.2.2.1) (0,0,0,0,0,0)).2.2.2.2.2)))))))=true then A.bind (A.bind R λr=>A.pure (W.done r)) λr=>
 A.pure (W.done r) else A.pure (W.next (D.1,D.2.1,IntKind.wrap .i64 (Add.add D.2.2.1 1),kR D.2.2.2.1 (List.getD D.1 (Int.toNat D.2.2.1)
 (0,0,0,0,0,0)).1 (List.getD D.1 (Int.toNat D.2.2.1) (0,0,0,0,0,0)),()))) else A.bind (A.pure (W.next (D.2.2.2.1,()))) λr=>A.pure
 (W.done r)
theorem WY {gq:Type} {R:A gq} {l:List bb} (ak:l.length<=24) {i:Nat} (M:i<l.length) (m:List (Int×bb)):sC R (l,(l.length:Int),(i:Int),m,())=if ((ju m l[i].1).isSome&&!decide ((ju m l[i].1).getD jt=l[i]))=true then A.bind (A.bind R λr=>A.pure (W.done r)) λr=>A.pure (W.done r) else A.pure (.next (l,(l.length:Int),((i+1:Nat):Int),kR m l[i].1 l[i],())):=by
 have hw:=bG (n:=(i:Int)+1) (by omega) (by omega);have es:=WA ((ju m l[i].1).getD jt) l[i];unfold sC;simp only [bZ,cY M,if_true,dm M,cJ M,A.bw,ct,hw];rw [show (Option.map (λx=>x.2) (List.find? (λp=>decide (l[i].1=p.1)) m))=ju m l[i].1 from rfl];grind
theorem WZ {gq:Type} {R:A gq} {l:List bb} (m:List (Int×bb)):sC R (l,(l.length:Int),(l.length:Int),m,())=A.pure (.done (.next (m,()))):=by
 unfold sC;simp
def Al {gq:Type} (k:List bb->A gq):List (Int×bb)×Unit->A gq:=λ(D:List (Int×bb)×Unit)=>A.bind (A.bind
 (xR.sh D.1) λy=>A.bind (sx.sh y) λy=>A.loop (λ(D:z1'×Int×Int×List bb×
 List (Int×bb)×Unit)=>if decide (D.2.2.1<D.2.1)=true then A.ae (0<=D.2.2.1/\D.2.2.1<Int.ofNat (List.length D.1)) (A.ae (cn
 (Add.add (List.length D.2.2.2.1) (Add.add 0 1))) (A.pure (W.next (D.1,D.2.1,IntKind.wrap .i64 (Add.add D.2.2.1 1),D.2.2.2.1++[Option.getD
 (Option.map (λx=>x.2) (List.find? (λp=>decide (List.getD D.1 (Int.toNat D.2.2.1) 0=p.1)) D.2.2.2.2.1)) (0,0,0,0,0,0)],D.2.2.2.2.1,())))) else A.bind (A.pure (W.next (D.2.2.2.1,()))) λr=>A.pure (W.done r)) (y,Int.ofNat (List.length y),0,[],D.1,())) (W.bC λ(D
 : List bb×Unit)=>k D.1)
theorem akW {l:List bb} {m:List (Int×bb)} (eF:t_ l m) (hid:vw l) {gq:Type} (k:List bb->A gq):Al k (m,())=k (gS l):=by
 obtain ⟨ak,hid⟩:=hid;have ar:sx.pre (jQ (some m)):=WO (by have:=eF.DI;omega);have e:sx.sh (jQ (some m))=A.pure (fq ho (i_ m)):=by
  refine (A.bU ar _).trans (congrArg A.pure ?_);exact WQ
 unfold Al;show A.bind (A.bind (xR.sh m) _) _=_;rw [show xR.sh m=A.pure (jQ (some m)) from rfl,A.aJ,e,A.aJ,akV (by rw [Hn,i_,List.length_map];have:=eF.DI;omega),A.aJ,A.b2,WW eF hid]
theorem W0 (l:List bb) (h:vw l) (hc:kV l=false) {gq:Type} (k:List bb->A gq) (R:A gq) :
  A.bind (A.loop (sC R) (l,Int.ofNat (List.length l),0,[],())) (W.bC (Al k))=k (gS l):=by
 have aD:=(Aj l).1 hc;obtain ⟨G,_⟩:=Ai l [] [] .nil;rw [List.nil_append] at G;obtain ⟨m,hm,eF⟩:=G aD;have key:A.loop (sC R) (l,Int.ofNat (List.length l),0,[],())=A.pure (.next (m,())):=by
  have gen:∀ (k:Nat) (i:Nat) (dw:List (Int×bb)),l.length - i=k->i<=l.length->rm (l.drop i) dw=some m->t_ (l.take i) dw->A.loop (sC R) (l,(l.length:Int),(i:Int),dw,())=A.pure (.next (m,())):=by
   intro k;induction k with
   | zero=>
    intro i dw ao M ag _;have:i=l.length:=by omega
    subst this;rw [List.drop_length] at ag;simp only [rm,Option.some.injEq] at ag;subst ag;exact A.s8 (WZ _)
   | succ k aM=>
    intro i dw ao M ag MG;have M:i<l.length:=by omega
    rw [List.drop_eq_getElem_cons M] at ag;unfold rm at ag;split at ag
    ·cases ag
    ·rename_i Fp;refine (A.Bm ((WY h.1 M dw).trans (if_neg Fp))).trans ?_;refine aM (i+1) _ (by omega) M ag ?_;obtain ⟨g1,_⟩:=Ai [l[i]] (l.take i) dw MG;have pB:l.take i++[l[i]]=l.take (i+1):=by simp
     rw [pB] at g1;obtain ⟨axa,aF,bB⟩:=g1 λa ba b aa=>aD a (List.mem_of_mem_take ba) b (List.mem_of_mem_take aa);unfold rm at aF;rw [if_neg Fp] at aF;simp only [rm,Option.some.injEq] at aF;grind
  exact gen l.length 0 [] rfl (Nat.zero_le _) hm .nil
 rw [key,A.aJ,A.b2,akW eF h]
theorem akX (l:List bb) (h:vw l) (hc:kV l=true) {gq:Type} (k:List bb->A gq) (r:gq) :
  A.bind (A.loop (sC (A.pure r)) (l,Int.ofNat (List.length l),0,[],())) (W.bC (Al k))=A.pure r:=by
 rw [A.dK l (λi (m:List (Int×bb))=>(l,(l.length:Int),(i:Int),m,())) (λs m=>if ((ju m s.1).isSome&&!decide ((ju m s.1).getD jt=s))=true then (.done (.done r):W (List (Int×bb)) (W (List (Int×bb)×Unit) _)) else .next (kR m s.1 s)) (λm=>.next (m,())) [] ?_ ?_ ?_]
 ·rw [WX];obtain ⟨_,V⟩:=Ai l [] [] .nil;rw [V (akT.1 hc)];simp
 ·rfl
 ·intro i M m;rw [WY h.1 M m,A.aJ,A.aJ];exact UX (mk:=λ(m:List (Int×bb))=>(l,(l.length:Int),((i+1:Nat):Int),m,()))
 ·intro m;exact WZ m
theorem akY (x):A.le (ajT sx.sh xR.sh x) (Ak.sh x):=A.bx λh=>by
 show A.bind (A.loop (sC (A.pure ([],false))) (x,Int.ofNat (List.length x),0,[],())) (W.bC (Al λa=>A.pure (a,true)))=A.pure (if kV x=true then ([],false) else (gS x,true));cases hc:kV x with
 | true=>exact akX x h hc _ _
 | false=>exact W0 x h hc _ _
def Ht (x:List bb×Unit):A (Bool×List bb×Unit):=A.dR (vw x.1/\kV x.1=false) (true,gS x.1,())
theorem akZ (x):A.le (aj6 sx.sh xR.sh x) (Ht x):=A.bx λh=>by
 show A.bind (A.loop (sC (A.pure (false,[],()))) (x.1,Int.ofNat (List.length x.1),0,[],())) (W.bC (Al λa=>A.pure (true,a,())))=_;exact W0 x.1 h.1 h.2 _ _
theorem Hu {c:a6} (h:jR c=true):vw c.2.1:=by
 unfold jR sz at h;simp only [Bool.and_eq_true,List.all_eq_true,Bool.not_eq_true',Bool.or_eq_false_iff,decide_eq_false_iff_not] at h;obtain ⟨⟨⟨⟨⟨bl,_⟩,_⟩,V⟩,_⟩,_⟩:=h;refine ⟨by omega,λs aG=>?_⟩;have:=V s aG;unfold ln at this;grind
theorem ak0 (x):A.le (VM vt.sh Ak.sh x) (hX.sh x):=A.bx λh=>by
 unfold VM;show _=A.pure (cL x);rw [show vt.sh x=A.pure (jR x) from A.bU h _];unfold cL;cases hc:jR x with
 | false=>simp
 | true=>
  simp only [A.aJ,Bool.not_true,Bool.false_eq_true,if_false,if_true];rw [show Ak.sh x.2.1=A.pure (if kV x.2.1=true then ([],false) else (gS x.2.1,true)) from A.bU (Hu hc) _];cases kV x.2.1<;>simp
def Hv (x:(bb->A Bool)×List bb×Unit):A ((Nat×Nat)×List bb×Unit):=A.dR (x.2.1.length<2 ^ 63/\∀ y∈x.2.1,∃ b,x.1 y=A.pure b)
 ((0,(x.2.1.filter λs=>!(x.1 s).val false).length),(x.2.1.filter λs=>!(x.1 s).val false)++List.replicate (x.2.1.length - (x.2.1.filter λs=>!(x.1 s).val false).length) jt,())
theorem W1 {al:Type} (p:al->Bool):∀ (l:List al) (i:Int),(l.any p=true->∃ k:Nat,∃ h:k<l.length,hL p l i=i+k/\p l[k]=true/\(∀ y∈l.take k,p y=false))
 | [],i,h=>by grind
 | x::l,i,h=>by
  unfold hL;by_cases aj:p x=true
  ·grind
  ·have nF:p x=false:=by grind
   simp only [List.any_cons,nF,Bool.false_or] at h;obtain ⟨k,ao,G,V,ah⟩:=W1 p l (i+1) h;refine ⟨k+1,by grind,by grind,by grind,?_⟩;grind
theorem ak1 (x):A.le (Wq (kU hl).sh x) (Hv x):=A.bx λh=>by
 obtain ⟨f,l,u⟩:=x;obtain ⟨G,V⟩:=h;change l.length<2 ^ 63 at G;change ∀ y∈l,∃ b,f y=A.pure b at V;unfold Wq;rw [show (kU hl).sh (l,f)=A.pure (hL (λy=>(f y).val false) l 0) from A.bU ⟨G,V⟩ _];rw [A.aJ];by_cases ba:(l.any λy=>(f y).val false)=true
 ·obtain ⟨k,ao,aF,bB,di⟩:=W1 (λy=>(f y).val false) l 0 ba;have hw:=bG (n:=(k:Int)+1) (by omega) (by omega);have ez:¬(decide ((0:Int)+k=-1)=true):=by simp
  rw [aF,if_neg ez];generalize br:(λs=>!(f s).val false)=q at *
  have ak2:∀ s,(!(f s).val false)=q s:=λs=>by grind
  have pB:l.take k=(l.take k).filter q:=by
   rw [List.filter_eq_self.2];grind
  have Hp:(l.take (k+1)).filter q=l.take k:=by
   rw [List.take_add_one,List.getElem?_eq_getElem ao,Option.toList_some,List.filter_append,<-pB];grind
  rw [A.dK (l.drop (k+1)) (λi (_:Unit)=>(f,(((l.take (k+1+i)).filter q).length:Int),((k+1+i:Nat):Int),(l.take (k+1+i)).filter q++l.drop ((l.take (k+1+i)).filter q).length,())) (λ_ u=>.next u) (λ_=>.next (((l.filter q).length:Int),l.filter q++l.drop (l.filter q).length,())) () ?_ ?_ ?_]
  ·rw [er];have hlen:(l.filter q).length<=l.length:=List.length_filter_le _ _;have gh:(l.filter q++l.drop (l.filter q).length).length=l.length:=by grind
   simp only [A.aJ,A.b2,bZ,gh];rw [A.bH (by omega)];simp only [A.bw,Int.toNat_natCast];have DJ:List.take (l.filter q).length (l.filter q++l.drop (l.filter q).length)=l.filter q:=List.take_left;rw [DJ];refine (A.bH ⟨by omega,by omega,by grind⟩ _).trans ?_;refine congrArg A.pure (Prod.ext rfl (Prod.ext ?_ rfl));show (_++_++_:List bb)=_;exact (congrArg (λz=>_++z) (List.drop_eq_nil_iff.2 (by simp))).trans (List.append_nil _)
  ·show (f,(0:Int)+k,IntKind.wrap .i64 (Add.add ((0:Int)+k) 1),l,())=_;rw [Int.zero_add,ct,hw];refine Prod.ext rfl (Prod.ext ?_ (Prod.ext ?_ (Prod.ext ?_ rfl)))
   ·grind
   ·rfl
   ·show l=(l.take (k+1+0)).filter q++l.drop ((l.take (k+1+0)).filter q).length;rw [Nat.add_zero,Hp,List.length_take,Nat.min_eq_left (by omega),List.take_append_drop]
  ·intro i M _;have M:k+1+i<l.length:=by grind
   have hle:((l.take (k+1+i)).filter q).length<=k+i:=by
    have G:=List.length_filter_le q (l.drop (k+1) |>.take i);rw [List.take_add,List.filter_append,List.length_append,Hp];grind
   have ch:((l.take (k+1+i)).filter q).length<l.length:=by omega
   have lJ:((l.take (k+1+i)).filter q++l.drop ((l.take (k+1+i)).filter q).length).length=l.length:=by grind
   have hw:=bG (n:=((k+1+i:Nat):Int)+1) (by omega) (by omega);have gR:=bG (n:=(((l.take (k+1+i)).filter q).length:Int)+1) (by omega) (by omega);have dt:k+1+i<((l.take (k+1+i)).filter q++l.drop ((l.take (k+1+i)).filter q).length).length:=by omega
   have BU:((l.take (k+1+i)).filter q).length<((l.take (k+1+i)).filter q++l.drop ((l.take (k+1+i)).filter q).length).length:=by omega
   have js:((l.take (k+1+i)).filter q++l.drop ((l.take (k+1+i)).filter q).length)[k+1+i]=l[k+1+i]:=by
    rw [List.getElem_append_right (by omega),List.getElem_drop];congr 1;omega
   obtain ⟨b,aa⟩:=V _ (List.getElem_mem M);have af:q l[k+1+i]=!b:=by rw [<-ak2,aa,A.fE]
   have pB:(l.take (k+1+(i+1))).filter q=(l.take (k+1+i)).filter q++(if (!b)=true then [l[k+1+i]] else []):=by
    rw [show k+1+(i+1)=k+1+i+1 from rfl,List.take_add_one,List.getElem?_eq_getElem M,Option.toList_some,List.filter_append,List.filter_cons,af,List.filter_nil]
   simp only [bZ,cY dt,if_true,dm dt,cJ dt,cJ BU,A.bw,js,aa,A.aJ,ct,gR];simp only [Int.toNat_natCast];cases b with
   | true=>
    simp only [Bool.not_true,Bool.false_eq_true,if_false,A.aJ,A.b2,hw,W.hj,List.append_nil] at pB ⊢;grind
   | false=>
    simp only [Bool.not_false,if_true,A.aJ,A.b2,hw,W.hj] at pB ⊢;have es:(List.filter q (List.take (k+1+i) l)++List.drop (List.filter q (List.take (k+1+i) l)).length l).set (List.filter q (List.take (k+1+i) l)).length l[k+1+i]=(l.take (k+1+(i+1))).filter q++l.drop ((l.take (k+1+(i+1))).filter q).length:=by
     rw [pB,List.set_append_right _ _ (Nat.le_refl _),Nat.sub_self,List.drop_eq_getElem_cons ch,List.set_cons_zero];simp
    rw [es];have L_:(((l.take (k+1+i)).filter q).length:Int)+1=(((l.take (k+1+(i+1))).filter q).length:Int):=by grind
    grind
  ·intro _;have ak:(l.drop (k+1)).length=l.length - (k+1):=by simp
   have cX:k+1+(l.drop (k+1)).length=l.length:=by omega
   have hle:(l.filter q).length<=l.length:=List.length_filter_le _ _;simp only [cX,List.take_length];rw [if_neg (by grind),A.aJ]
 ·rw [DE _ _ ba];have:(l.filter λs=>!(f s).val false)=l:=by
   simp_all
  simp only [decide_true,if_true,this,Nat.sub_self,List.replicate_zero,List.append_nil]
end Go.Fer.H
namespace Go.Fer.H
open A (W)
set_option linter.unusedVariables false
set_option linter.unusedSimpArgs false
abbrev cX:bz:=((0,0,0,0,0,0),0)
def oM (c:a6) (w:z1') (u:Int):List bz:=((fr c).filter λs=>decide (tW s=u)).map λs=>(s,xO s+w.getD (py s).toNat 0)
def b6 (c:a6) (w:z1') (u:Int):List bz:=fq hW (oM c w u)
def qv (l:List bz) (i:Nat):Bool:=!(decide (0<i)&&decide ((l.getD i cX).2=(l.getD (i - 1) cX).2))&&decide (ei (l.getD i cX).1=1+((i % 2:Nat):Int))
def eB (l:List bz):Bool:=(List.range l.length).all (qv l)
structure gT (c:a6):Prop where
 N0:cL c=0
 ec:c.1.length<=3
 ef:c.2.1.length<=12
 jF:c.2.2.1.length<=12
 n4:c.2.2.2.1.length<=4
 iU:jR c=true
 Ah:Ag c.2.1
 N1:pz c.2.2.2.2=true
 clk:∀ s∈c.1,-30<=s.1/\s.1<=s.2/\s.2<=30
 i':∀ s∈c.2.1,ln c.1.length s=true
 iu:Af c.2.2.2.1=true
theorem oN {c:a6} (h:cL c=0):gT c:=by
 have aY:=h;unfold cL at h;split at h
 ·rename_i hc;split at h
  ·omega
  ·rename_i aD;have lN:=hc;unfold jR sz at hc;simp only [Bool.and_eq_true,List.all_eq_true,Bool.not_eq_true',Bool.or_eq_false_iff,decide_eq_false_iff_not] at hc;obtain ⟨⟨⟨⟨⟨⟨⟨⟨ca,a2⟩,a3⟩,a4⟩,a5⟩,gn⟩,gp⟩,hY⟩,a9⟩:=hc;refine ⟨aY,by omega,by omega,by omega,by omega,lN,(Aj _).1 (by grind),a5,λs aG=>?_,gp,a9⟩;have:=gn s aG;unfold sy at this;simp only [Bool.and_eq_true,Bool.not_eq_true',decide_eq_false_iff_not,oJ] at this;omega
 omega
theorem Am {n:Nat} {s:bb}:ln n s=true<->(0<=ll s/\ll s<=99)/\(0<=py s/\py s<=(n:Int) - 1)/\(0<=xO s/\xO s<=9999)/\(0<=tW s/\tW s<=9)/\(0<=iJ s/\iJ s<=99)/\(ei s=1\/ei s=2/\iJ s=0):=by
 unfold ln;simp only [Bool.and_eq_true,oJ,Bool.or_eq_true,decide_eq_true_eq,and_assoc]
theorem gT.ak3 {c:a6} (h:gT c):∃ m,t_ c.2.1 m:=by
 obtain ⟨G,_⟩:=Ai c.2.1 [] [] .nil;rw [List.nil_append] at G;obtain ⟨m,_,eF⟩:=G h.Ah;grind
theorem gT.N2 {c:a6} (h:gT c):(fr c).length<=12:=by
 obtain ⟨m,eF⟩:=h.ak3;have G:=akU eF (Hu h.iU).2;have V:=List.length_filter_le (λs:bb=>!c.2.2.1.contains s.1) (gS c.2.1);have:=h.ef;unfold fr;omega
theorem DK {l:List bb} {s:bb} (h:s∈gS l):s∈l:=by
 unfold gS at h;grind
theorem ak4 {c:a6} {s:bb} (h:s∈fr c):s∈c.2.1:=DK (List.mem_filter.1 h).1
theorem gT.An {c:a6} (h:gT c) {s:bb} (aG:s∈fr c):ln c.1.length s=true:=h.i' s (ak4 aG)
def pC (c:a6) (w:z1'):Prop:=w.length=c.1.length/\∀ n∈w,-30<=n/\n<=30
theorem pC.at {c:a6} {w:z1'} (h:pC c w) (aC:gT c) {s:bb} (aG:s∈fr c):0<=py s/\py s<(w.length:Int)/\-30<=w.getD (py s).toNat 0/\w.getD (py s).toNat 0<=30:=by
 have G:=(Am.1 (aC.An aG)).2.1;have ak:py s<(w.length:Int):=by rw [h.1];omega
 exact ⟨G.1,ak,h.2 _ (xF G.1 ak)⟩
theorem DL {c:a6} (h:gT c) (w:z1') (u:Int):(b6 c w u).length<=12:=by
 unfold b6 oM;rw [Hn,List.length_map];exact Nat.le_trans (List.length_filter_le _ _) h.N2
theorem DM {c:a6} {w:z1'} {u:Int} {e:bz} (h:e∈b6 c w u):e.1∈fr c/\tW e.1=u/\e.2=xO e.1+w.getD (py e.1).toNat 0:=by
 unfold b6 at h;rw [WG] at h;unfold oM at h;grind
theorem W2 (i:Nat):Int.tmod (i:Int) 2=((i % 2:Nat):Int):=by
 rfl
theorem ak5 (l:List bz) (i:Nat):(decide ((i:Int) > 0)&&decide ((l.getD i cX).2=(l.getD (i - 1) cX).2)||decide (ei (l.getD i cX).1≠1+((i % 2:Nat):Int)))=!qv l i:=by
 unfold qv;simp
end Go.Fer.H
namespace Go.Fer.H
open A (W)
set_option linter.unusedVariables false
set_option linter.unusedSimpArgs false
def kf (a b:Int) (s:Int×Int):Int:=max 0 (min (b - 1) s.2 - max a s.1+1)
def lY (cl:z4') (a b:Int):Int:=cl.foldl (λn s=>n - kf a b s) (b - a)
def W3 (cl:z4'):Prop:=cl.length<=4/\∀ s∈cl,0<=s.1/\s.1<=s.2/\s.2<=9999
theorem gT.N3 {c:a6} (h:gT c):W3 c.2.2.2.1:=by
 refine ⟨h.n4,λs aG=>?_⟩;have:=h.iu;unfold Af at this;rw [List.all_eq_true] at this;obtain ⟨i,M,rfl⟩:=List.mem_iff_getElem.1 aG;have:=this i (by grind);unfold iK at this;rw [sB M] at this;simp only [Bool.and_eq_true,oJ,Bool.not_eq_true',decide_eq_false_iff_not] at this;omega
abbrev Ao (x:a6×Int×Int):Prop:=W3 x.1.2.2.2.1/\-100<=x.2.1/\x.2.1<=x.2.2/\x.2.2<=11000
theorem ak6 {a b:Int} {s:Int×Int} (ba:-100<=a) (aa:b<=11000) (aG:0<=s.1/\s.1<=s.2/\s.2<=9999):0<=kf a b s/\kf a b s<=20000:=by
 unfold kf;omega
theorem W4 {n:Int}:(if n > 0 then n else 0)=max 0 n:=by omega
theorem W5 {a b:Int}:(if a<b then a else b)=min b a:=by omega
theorem ak7 {a b:Int}:(if a<b then a else b)=min a b:=by omega
theorem ak8 {a b:Int}:(if a > b then a else b)=max b a:=by omega
theorem ak9 {a b:Int}:(if a > b then a else b)=max a b:=by omega
abbrev vx:aO:=⟨.aA jr (.aA bu bu),bu,Ao,λx=>lY x.1.2.2.2.1 x.2.1 x.2.2⟩
theorem ak_ (x):A.le (V9 x) (vx.sh x):=A.bx λh=>by
 obtain ⟨c,a,b⟩:=x;obtain ⟨⟨G,V⟩,ah,a7,bM⟩:=h;change -100<=a at ah;change a<=b at a7;change b<=11000 at bM;change c.2.2.2.1.length<=4 at G;change ∀ s∈c.2.2.2.1,_ at V;unfold V9;have zP:=bG (n:=b - a) (by omega) (by omega);rw [A.gA c.2.2.2.1 (λi (n:Int)=>(a,b,n,c.2.2.2.1,(c.2.2.2.1.length:Int),(i:Int),())) (λs n=>.next (n - kf a b s)) (λn=>.next (n,())) (λi n=>-(20000*(i:Int))<=n/\n<=20000) (b - a) ?_ ?_ ?_ ?_]
 ·rw [er,A.aJ];rfl
 ·grind
 ·omega
 ·intro i M n aD;have aG:=V _ (List.getElem_mem M);have hc:=ak6 (a:=a) (b:=b) ah bM aG;have hw:=bG (n:=(i:Int)+1) (by omega) (by omega);refine ⟨?_,λbf dh=>?_⟩
  ·simp only [Prod.c8,bZ,cY M,if_true,dm M,cJ M,A.bw,ct,hw];have cj:=bG (n:=b - 1) (by omega) (by omega);have c6:=bG (n:=min (b - 1) c.2.2.2.1[i].2 - max a c.2.2.2.1[i].1) (by omega) (by omega);have eV:=bG (n:=min (b - 1) c.2.2.2.1[i].2 - max a c.2.2.2.1[i].1+1) (by omega) (by omega);have Ap:=bG (n:=n - kf a b c.2.2.2.1[i]) (by omega) (by omega);simp only [cj,ak7,ak9,c6,eV,W4];rw [show max (min (b - 1) c.2.2.2.1[i].2 - max a c.2.2.2.1[i].1+1) 0=kf a b c.2.2.2.1[i] from Int.max_comm _ _,Ap];rfl
  grind
 simp
def lo (t:pw) (m:Int):Int:=if m>=t.2.2.2.2.1 then t.2.2.2.2.2.1 else min t.2.2.2.1 ((max 0 (m - t.1)+t.2.1 - 1) / t.2.1*t.2.2.1)
abbrev xT (x:pw×Int):Prop:=pz x.1=true/\-100000<=x.2/\x.2<=20000
abbrev vy:aO:=⟨.aA NP bu,bu,xT,λx=>lo x.1 x.2⟩
theorem Hw {t:pw}:pz t=true<->(0<=t.1/\t.1<=9999)/\(1<=t.2.1/\t.2.1<=9999)/\(1<=t.2.2.2.2.1/\t.2.2.2.2.1<=9999)/\(0<=t.2.2.1/\t.2.2.1<=100000)/\(0<=t.2.2.2.1/\t.2.2.2.1<=100000)/\(0<=t.2.2.2.2.2.1/\t.2.2.2.2.2.1<=100000)/\(0<=t.2.2.2.2.2.2/\t.2.2.2.2.2.2<=100000):=by
 unfold pz;simp only [Bool.and_eq_true,oJ,and_assoc]
theorem W6 {t:pw} {m:Int} (h:xT (t,m)):0<=(max 0 (m - t.1)+t.2.1 - 1) / t.2.1/\(max 0 (m - t.1)+t.2.1 - 1) / t.2.1<=30000/\0<=(max 0 (m - t.1)+t.2.1 - 1) / t.2.1*t.2.2.1/\(max 0 (m - t.1)+t.2.1 - 1) / t.2.1*t.2.2.1<=3000000000:=by
 obtain ⟨G,V,ah⟩:=h;change -100000<=m at V;change m<=20000 at ah;obtain ⟨ca,a2,a3,a4,a5,gn,gp⟩:=(Hw (t:=t)).1 G;have dB:0<=(max 0 (m - t.1)+t.2.1 - 1) / t.2.1:=Int.ediv_nonneg (by omega) (by omega);have eu:(max 0 (m - t.1)+t.2.1 - 1) / t.2.1<=max 0 (m - t.1)+t.2.1 - 1:=Int.ediv_le_self _ (by omega);have kj:(max 0 (m - t.1)+t.2.1 - 1) / t.2.1<=30000:=by omega
 refine ⟨dB,kj,Int.mul_nonneg dB a4.1,?_⟩;calc (max 0 (m - t.1)+t.2.1 - 1) / t.2.1*t.2.2.1<=30000*100000:=Int.mul_le_mul kj a4.2 a4.1 (by omega)
  _=3000000000:=by decide
theorem ak' {t:pw} {m:Int} (h:xT (t,m)):0<=lo t m/\lo t m<=100000:=by
 have:=W6 h;obtain ⟨G,V,ah⟩:=h;obtain ⟨ca,a2,a3,a4,a5,gn,gp⟩:=(Hw (t:=t)).1 G;unfold lo;omega
theorem ala (x):A.le (VX x) (vy.sh x):=A.bx λh=>by
 obtain ⟨t,m⟩:=x;have hu:=W6 h;obtain ⟨G,V,ah⟩:=h;change -100000<=m at V;change m<=20000 at ah;obtain ⟨ca,a2,a3,a4,a5,gn,gp⟩:=(Hw (t:=t)).1 G;have cj:=bG (n:=m - t.1) (by omega) (by omega);have c6:=bG (n:=max 0 (m - t.1)+t.2.1) (by omega) (by omega);have eV:=bG (n:=max 0 (m - t.1)+t.2.1 - 1) (by omega) (by omega);have Ap:=bG (n:=(max 0 (m - t.1)+t.2.1 - 1) / t.2.1) (by omega) (by omega);have alb:=bG (n:=(max 0 (m - t.1)+t.2.1 - 1) / t.2.1*t.2.2.1) (by omega) (by omega);have W7:Int.tdiv (max 0 (m - t.1)+t.2.1 - 1) t.2.1=(max 0 (m - t.1)+t.2.1 - 1) / t.2.1:=Int.tdiv_eq_ediv_of_nonneg (by omega);unfold VX;show _=A.pure (lo t m);unfold lo;simp only [Prod.c8,cj,W4,ct,c6,eV,W7,Ap,Int.mul_comm t.2.2.1,alb,W5,decide_eq_true_eq];rw [A.bH (show t.2.1≠0 from by omega)];grind
def gU (c:a6) (w:z1') (u:Int):List bz:=if eB (b6 c w u)=true then b6 c w u else []
def mZ (l:List bz) (minute:Int):Int×Int:=l.foldl (λb e=>if e.2<=minute then (if ei e.1=2 then (-1,e.2) else (iJ e.1,e.2)) else b) (-1,0)
def Hx (c:a6) (w:z1') (minute:Int):Int:=((et 0 9).foldl (λn u=>if (mZ (gU c w u) minute).1>=0 then n+1 else n) (0:Int))
def t' (l:List bz):List (bz×bz):=l.zip (l.drop 1)
def DN (cl:z4') (i':Int) (l:List bz):Option Int:=((t' l).find? λp=>ll p.1.1 == i'&&ei p.1.1 == 1).map λp=>lY cl p.1.2 p.2.2
def jS (c:a6) (w:z1') (i':Int):Option Int:=(et 0 9).findSome? λu=>DN c.2.2.2.1 i' (gU c w u)
theorem alc {l:List bz} {i:Nat} (h:i+1<(fq hW l).length):(fq hW l)[i].2<=(fq hW l)[i+1].2:=by
 have:=List.pairwise_iff_getElem.1 (akB l) i (i+1) (by omega) h (by omega);omega
theorem DO {c:a6} (aC:gT c) {w:z1'} (V:pC c w) {u:Int} {e:bz} (he:e∈b6 c w u):-30<=e.2/\e.2<=10029:=by
 obtain ⟨G,_,ah⟩:=DM he;have aU:=(V.at aC G).2.2;have aX:=(Am.1 (aC.An G)).2.2.1;omega
theorem Aq {c:a6} {w:z1'} {u:Int} {e:bz} (he:e∈gU c w u):e∈b6 c w u:=by
 unfold gU at he;grind
theorem ald {c:a6} {w:z1'} {u:Int} {i:Nat} (h:i+1<(gU c w u).length):(gU c w u)[i].2<=(gU c w u)[i+1].2:=by
 have key:∀ l,gU c w u=l->∀ (h:i+1<l.length),l[i].2<=l[i+1].2:=by
  intro l ak h;unfold gU at ak;split at ak
  ·subst ak;exact alc h
  grind
 grind
theorem W8 {c:a6} (aC:gT c) {w:z1'} (V:pC c w) {u:Int} {i:Nat} (h:i+1<(gU c w u).length):Ao (c,(gU c w u)[i].2,(gU c w u)[i+1].2):=by
 have ah:=DO aC V (Aq (List.getElem_mem (by omega:i<(gU c w u).length)));have a7:=DO aC V (Aq (List.getElem_mem h));exact ⟨aC.N3,show -100<=(gU c w u)[i].2 by omega,ald h,show (gU c w u)[i+1].2<=11000 by omega⟩
theorem ale {l:List bz} {i:Nat} (h:i<(t' l).length):∃ V:i+1<l.length,(t' l)[i]=(l[i],l[i+1]):=by
 unfold t' at h ⊢;grind
end Go.Fer.H
namespace Go.Fer.H
open A (W)
set_option linter.unusedVariables false
set_option linter.unusedSimpArgs false
theorem alf {a b:Int} {s:Int×Int} (h:b<=s.1):kf a b s=0:=by unfold kf;omega
def rn:z4'->Prop
 | []=>True
 | s::r=>s.1<=s.2/\(∀ t∈r,s.2<t.1)/\rn r
theorem N4:∀ (cl:z4') (a b n:Int),cl.foldl (λn s=>n - kf a b s) n=n - (cl.map (kf a b)).sum
 | [],a,b,n=>by simp
 | s::r,a,b,n=>by simp only [List.foldl_cons,List.map_cons,List.sum_cons];rw [N4 r];omega
theorem W9:∀ (cl:z4') (a b:Int),rn cl->a<=b->(cl.map (kf a b)).sum<=b - a
 | [],a,b,_,h=>by grind
 | s::r,a,b,⟨G,V,ah⟩,h=>by
  simp only [List.map_cons,List.sum_cons];by_cases aa:s.2+1<=b
  ·have aM:=W9 r (max a (s.2+1)) b ah (by omega);have e:r.map (kf a b)=r.map (kf (max a (s.2+1)) b):=by
    refine List.map_congr_left λt aL=>?_;have:=V t aL;unfold kf;omega
   rw [e];have:kf a b s<=max a (s.2+1) - a:=by unfold kf;omega
   omega
  ·have e:∀ l:z4',(∀ t∈l,b<=t.1)->(l.map (kf a b)).sum=0:=by
    intro l;induction l with
    | nil=>simp
    | cons t l aM=>
     intro ak;simp only [List.map_cons,List.sum_cons];rw [alf (ak t (by simp)),aM λx aj=>ak x (by grind)];rfl
   rw [e r λt aL=>by grind];unfold kf;omega
theorem W_:∀ (cl:z4'),(∀ i,(h:i+1<cl.length)->cl[i].2<cl[i+1].1)->(∀ s∈cl,s.1<=s.2)->rn cl
 | [],_,_=>trivial
 | s::r,h,V=>by
  have U:rn r:=W_ r (λi M=>by have:=h (i+1) (by grind);grind) λt aL=>V t (by grind);refine ⟨V s (by simp),?_,U⟩;cases r with
  | nil=>simp
  | cons t r=>
   have aY:=h 0 (by simp);simp at aY;intro u hu;rcases List.mem_cons.1 hu with rfl | hu
   ·exact aY
   ·have:=U.2.1 u hu;grind
theorem gT.alg {c:a6} (h:gT c):rn c.2.2.2.1:=by
 have hc:=h.iu;unfold Af at hc;rw [List.all_eq_true] at hc;refine W_ _ (λi M=>?_) λs aG=>(h.N3.2 s aG).2.1;have:=hc (i+1) (by grind);unfold iK at this;grind
theorem alh {cl:z4'} {a b:Int} (h:rn cl) (vv:a<=b):0<=lY cl a b:=by
 unfold lY;rw [N4];have:=W9 cl a b h vv;omega
theorem W':∀ (cl:z4') (a b:Int),0<=(cl.map (kf a b)).sum
 | [],_,_=>by simp
 | s::r,a,b=>by
  simp only [List.map_cons,List.sum_cons];have:=W' r a b;have:0<=kf a b s:=by unfold kf;omega
  omega
theorem ali {cl:z4'} {a b:Int}:lY cl a b<=b - a:=by
 unfold lY;rw [N4];have:=W' cl a b;omega
theorem alj {cl:z4'} {i':Int} {l:List bz} {m:Int} (h:DN cl i' l=some m):∃ i,∃ M:i+1<l.length,l[i].1.1=i'/\ei l[i].1=1/\m=lY cl l[i].2 l[i+1].2:=by
 unfold DN at h;rw [Option.map_eq_some_iff] at h;obtain ⟨p,ar,rfl⟩:=h;have V:=List.find?_some ar;obtain ⟨i,M,rfl⟩:=List.mem_iff_getElem.1 (List.mem_of_find?_eq_some ar);obtain ⟨dt,e⟩:=ale M;grind
theorem Xa {c:a6} (aC:gT c) {w:z1'} (V:pC c w) {i' m:Int} (h:jS c w i'=some m):0<=m/\m<=11000:=by
 unfold jS at h;obtain ⟨u,_,hu⟩:=List.exists_of_findSome?_eq_some h;obtain ⟨i,M,_,_,rfl⟩:=alj hu;have ar:=W8 aC V M;have hm:=alh aC.alg ar.2.2.1;have ah:=DO aC V (Aq (List.getElem_mem (by omega:i<(gU c w u).length)));have a7:=DO aC V (Aq (List.getElem_mem M));have bM:=@ali c.2.2.2.1 (gU c w u)[i].2 (gU c w u)[i+1].2;grind
def Hy (c:a6) (w:z1') (alk:Int):Int:=(fr c).foldl (λn s=>if (ei s=1/\iJ s=alk)/\(jS c w (ll s)).isSome=true then n+lo c.2.2.2.2 ((jS c w (ll s)).getD 0) else n) 0
def Ar (c:a6) (i':Int):Bool:=(fr c).any λs=>ll s == i'&&ei s == 1
def sD (c:a6) (w:z1'):Bool:=(List.range w.length).all λi=>b3 (w.getD i 0) (c.1.getD i (0,0)).1 (c.1.getD i (0,0)).2
def iL (c:a6) (w:z1'):Bool:=decide (w.length=c.1.length)&&sD c w&&(et 0 9).all λu=>eB (b6 c w u)
theorem Xb {c:a6} (aC:gT c) {w:z1'} (ak:w.length=c.1.length) (h:sD c w=true):pC c w:=by
 refine ⟨ak,λn aD=>?_⟩;obtain ⟨i,M,rfl⟩:=List.mem_iff_getElem.1 aD;unfold sD at h;rw [List.all_eq_true] at h;have G:=h i (by grind);rw [sB M,sB (by omega:i<c.1.length),oJ] at G;have:=aC.clk _ (List.getElem_mem (by omega:i<c.1.length));omega
def kg:z4'->Nat
 | []=>1
 | s::r=>(s.2 - s.1+1).toNat*kg r
def m_ (c:a6):z4'->z1'->List (z1')
 | [],w=>if iL c w=true then [w] else []
 | s::r,w=>(et s.1 s.2).flatMap λn=>m_ c r (w++[n])
theorem N5 {al β:Type} (f:al->List β) (k:Nat):∀ (l:List al),(∀ x∈l,(f x).length<=k)->(l.flatMap f).length<=l.length*k
 | [],_=>by simp
 | x::l,h=>by
  simp only [List.flatMap_cons,List.length_append,List.length_cons];have:=N5 f k l λy aS=>h y (by grind);grind
theorem N6 (c:a6):∀ (r:z4') (w:z1'),(m_ c r w).length<=kg r
 | [],w=>by unfold m_ kg;grind
 | s::r,w=>by
  unfold m_ kg;have:=N5 (λn=>m_ c r (w++[n])) (kg r) (et s.1 s.2) λn _=>N6 c r _;rw [xG] at this;omega
theorem Xc {al β:Type} (f:al->List β):∀ (l:List al) (b:List β),l.foldl (λb x=>b++f x) b=b++l.flatMap f
 | [],b=>by simp
 | x::l,b=>by simp only [List.foldl_cons,List.flatMap_cons];rw [Xc f l,List.append_assoc]
abbrev cM (c:a6):List (z1'):=m_ c c.1 []
def alm (c:a6):Prop:=cL c=0->kg c.1<=60
def gL (c:a6):Prop:=akq c/\alm c
theorem gL.hd {c:a6} (h:gL c):iN c:=by
 obtain ⟨⟨G,V,ah,a7⟩,_⟩:=h;exact ⟨by omega,by omega,by omega,by omega⟩
def eI (c:a6) (b:Bool):List (z1')×Int:=if cL c≠0 then ([],cL c) else if b=false then ([],1) else if cM c=[] then ([],3) else (cM c,0)
theorem N7 (c:a6):∀ (r:z4') (w x:z1'),x∈m_ c r w->iL c x=true
 | [],w,x,h=>by
  unfold m_ at h;grind
 | s::r,w,x,h=>by
  unfold m_ at h;rw [List.mem_flatMap] at h;obtain ⟨n,_,aD⟩:=h;exact N7 c r _ x aD
theorem DP {c:a6} (h:cL c=0) {w:z1'} (hw:iL c w=true):pC c w:=by
 unfold iL at hw;simp only [Bool.and_eq_true,decide_eq_true_eq] at hw;exact Xb (oN h) hw.1.1 hw.1.2
theorem Hz {c:a6} {w:z1'} (hw:iL c w=true) {u:Int} (hu:0<=u/\u<=9):eB (b6 c w u)=true:=by
 unfold iL at hw;simp only [Bool.and_eq_true,List.all_eq_true] at hw;exact hw.2 u (so.2 hu)
theorem aln {c:a6} {b:Bool} {w:z1'} (h:w∈(eI c b).1):cL c=0/\w∈cM c/\iL c w=true/\pC c w:=by
 unfold eI at h;split at h
 ·grind
 ·rename_i hc;have hc:cL c=0:=by omega
  split at h
  ·grind
  ·split at h
   ·grind
   ·have:=N7 c _ _ _ h;exact ⟨hc,h,this,DP hc this⟩
end Go.Fer.H
namespace Go.Fer.H
open A (W)
set_option linter.unusedVariables false
set_option linter.unusedSimpArgs false
def HA:Option (Int×Int)->Int->Int×Int
 | none,n=>(n,n)
 | some s,n=>(min s.1 n,max s.2 n)
def xU (l:z1'):Option (Int×Int):=l.foldl (λo n=>some (HA o n)) none
def ua (l:z1'):Int×Int:=(xU l).getD (0,0)
theorem alo (a b c:Int):cp.sh (a,b,c)=A.pure (b3 a b c):=rfl
def lp (c:a6) (i':Int):z1'×Int:=if (eI c (Ar c i')).2≠0 then ([],(eI c (Ar c i')).2) else if (eI c (Ar c i')).1.filterMap (λw=>jS c w i')=[] then ([],3) else ((eI c (Ar c i')).1.filterMap (λw=>jS c w i'),0)
def HB (c:a6) (n:Int):(Int×Int)×Int:=(ua (lp c n).1,(lp c n).2)
abbrev HC:aO:=⟨.aA jr bu,.aA mr bu,λx=>gL x.1,λx=>HB x.1 x.2⟩
def HD (c:a6) (n:Int):(Int×Int)×Int:=(ua ((lp c n).1.map λm=>lo c.2.2.2.2 m),(lp c n).2)
abbrev HE:aO:=⟨.aA jr bu,.aA mr bu,λx=>gL x.1,λx=>HD x.1 x.2⟩
def HF (c:a6) (g:Int):(Int×Int)×Int:=(ua ((eI c (b3 g 0 99)).1.map λw=>Hy c w g),(eI c (b3 g 0 99)).2)
abbrev HG:aO:=⟨.aA jr bu,.aA mr bu,λx=>gL x.1,λx=>HF x.1 x.2⟩
def HH (c:a6) (t:Int):(Int×Int)×Int:=(ua ((eI c (b3 t 0 9999)).1.map λw=>Hx c w t*c.2.2.2.2.2.2.2.2.2.2),(eI c (b3 t 0 9999)).2)
abbrev HI:aO:=⟨.aA jr bu,.aA mr bu,λx=>gL x.1,λx=>HH x.1 x.2⟩
def vz (u t:Int):Bool:=b3 u 0 9&&b3 t 0 9999
def N8 (c:a6) (u t:Int):z1':=(eI c (vz u t)).1.map λw=>(mZ (gU c w u) t).1
def rp (c:a6) (u t:Int):z1'×Int:=((et (-1) 99).filter λg=>(N8 c u t).contains g,(eI c (vz u t)).2)
abbrev HJ:aO:=⟨.aA jr (.aA bu bu),.aA fS bu,λx=>gL x.1,λx=>rp x.1 x.2.1 x.2.2⟩
def DQ (c:a6) (w:z1') (u t:Int):Bool:=decide ((mZ (gU c w u) t).1>=0)&&decide (lY c.2.2.2.1 (mZ (gU c w u) t).2 t>=c.2.2.2.2.2.2.2.2.1)
def oO (c:a6) (l:List (z1')) (u t:Int):Nat:=(l.filter λw=>DQ c w u t).length
def sE (c:a6) (t:Int):z1'×z1'×Int:=
 if (eI c (b3 t 0 9999)).2≠0 then ([],[],(eI c (b3 t 0 9999)).2)
 else ((et 0 9).filter (λu=>decide (oO c (eI c (b3 t 0 9999)).1 u t=(eI c (b3 t 0 9999)).1.length)),(et 0 9).filter (λu=>decide (oO c (eI c (b3 t 0 9999)).1 u t > 0)),0)
abbrev HK:aO:=⟨.aA jr bu,.aA fS (.aA fS bu),λx=>gL x.1,λx=>sE x.1 x.2⟩
theorem N9:∀ (l:List bz) (t:Int) (b:Int×Int),(∀ e∈l,(0<=iJ e.1))->(l.foldl (λb e=>if e.2<=t then (if ei e.1=2 then (-1,e.2) else (iJ e.1,e.2)) else b) b=b\/∃ e∈l,e.2<=t/\l.foldl (λb e=>if e.2<=t then (if ei e.1=2 then (-1,e.2) else (iJ e.1,e.2)) else b) b=(if ei e.1=2 then (-1,e.2) else (iJ e.1,e.2)))
 | [],t,b,_=>.inl rfl
 | x::l,t,b,h=>by
  simp only [List.foldl_cons];by_cases aj:x.2<=t
  ·rw [if_pos aj];rcases N9 l t (if ei x.1=2 then (-1,x.2) else (iJ x.1,x.2)) λe he=>h e (by grind) with G | ⟨e,he,G,V⟩
   ·exact .inr ⟨x,by simp,aj,G⟩
   ·exact .inr ⟨e,by simp [he],G,V⟩
  ·rw [if_neg aj];rcases N9 l t b λe he=>h e (by grind) with G | ⟨e,he,G,V⟩
   ·exact .inl G
   ·exact .inr ⟨e,by simp [he],G,V⟩
theorem alp {c:a6} (aC:gT c) {w:z1'} (V:pC c w) {u t:Int} (aL:t<=9999) (h:(mZ (gU c w u) t).1>=0):Ao (c,(mZ (gU c w u) t).2,t):=by
 rcases N9 (gU c w u) t (-1,0) (λe he=>((Am.1 (aC.An (DM (Aq he)).1)).2.2.2.2.1).1) with G | ⟨e,he,G,ah⟩
 ·unfold mZ at h;grind
 ·have:=DO aC V (Aq he);have bB:(mZ (gU c w u) t).2=e.2:=by
   unfold mZ;grind
  exact ⟨aC.N3,by grind,by grind,show t<=11000 by omega⟩
end Go.Fer.H
namespace Go.Fer.H
open A (W)
set_option linter.unusedVariables false
set_option linter.unusedSimpArgs false
abbrev kB (z:hk):a6:=(z.1,z.2.1,z.2.2.1,z.2.2.2.1,z.2.2.2.2.1,z.c8,z.fp,z.gJ,z.iq,z.jP,z.kS)
abbrev N_ (z:hk):List bb:=z.hK
abbrev Xd (z:hk):List (Option dQ):=z.mX
abbrev DR (c:a6) (l:List bb) (t:List (Option dQ)):hk:=(c.1,c.2.1,c.2.2.1,c.2.2.2.1,c.2.2.2.2.1,c.2.2.2.2.2.1,c.2.2.2.2.2.2.1,c.2.2.2.2.2.2.2.1,c.2.2.2.2.2.2.2.2.1,c.2.2.2.2.2.2.2.2.2.1,c.2.2.2.2.2.2.2.2.2.2,l,t,())
def ub (l:List bb) (w:z1') (u:Int):List bz:=(l.filter λs=>decide (tW s=u)).map λs=>(s,xO s+w.getD (py s).toNat 0)
theorem alq {l:List bb} {w:z1'} {i:Nat} (h:i<l.length) (u:Int):ub (l.take (i+1)) w u=if l[i].2.2.2.2.1=u then ub (l.take i) w u++[(l[i],xO l[i]+w.getD (py l[i]).toNat 0)] else ub (l.take i) w u:=by
 unfold ub;rw [List.take_add_one,List.getElem?_eq_getElem h,Option.toList_some,List.filter_append,List.map_append];grind
theorem Xe (l:List bb) (w:z1') (u:Int):(ub l w u).length<=l.length:=by
 unfold ub;grind
abbrev m' (c:a6) (w:z1'):List (List bz):=[b6 c w 0,b6 c w 1,b6 c w 2,b6 c w 3,b6 c w 4,b6 c w 5,b6 c w 6,b6 c w 7,b6 c w 8,b6 c w 9]
def sF (c:a6) (w:z1'):Bool:=(et 0 9).all λu=>eB (b6 c w u)
theorem alr (c:a6) (w:z1'):sF c w=(eB (b6 c w 0)&&(eB (b6 c w 1)&&(eB (b6 c w 2)&&(eB (b6 c w 3)&&(eB (b6 c w 4)&&(eB (b6 c w 5)&&(eB (b6 c w 6)&&(eB (b6 c w 7)&&(eB (b6 c w 8)&&eB (b6 c w 9)))))))))):=by
 unfold sF;rw [show et 0 9=[0,1,2,3,4,5,6,7,8,9] from by decide];simp
abbrev als (x:z1'×hk):Prop:=cL (kB x.2)=0/\pC (kB x.2) x.1/\N_ x.2=fr (kB x.2)
def uc (x:z1'×hk):A (Option dQ×Bool×hk):=A.dR (als x) (if sF (kB x.2) x.1=true then (some (x.1,m' (kB x.2) x.1),true,x.2) else (none,false,x.2))
theorem alu {bn aK:Type} {body:Int×Int×Int×bn->A (W (Int×Int×Int×bn) aK)} (l:List bz) {a n:Int} {z:bn} (bad sG:aK)
  (aa:∀ i,i<l.length->body (a,n,(i:Int),z)=A.pure (if (!qv l i)=true then .done bad else .next (a,n,((i+1:Nat):Int),z)))
  (he:body (a,n,(l.length:Int),z)=A.pure (.done sG)):A.loop body (a,n,0,z)=A.pure (if eB l=true then sG else bad):=by
 rw [A.dK (List.range l.length) (λi (_:Unit)=>(a,n,(i:Int),z)) (λi b=>if (!qv l i)=true then .done bad else .next b) (λ_=>sG) () ?_ ?_ ?_]
 ·rw [kP (q:=qv l) _ _ (λ_=>rfl)];rfl
 ·rfl
 ·intro i M b;have M:i<l.length:=by grind
  rw [aa i M,List.getElem_range];cases qv l i<;>rfl
 grind
theorem Xf {X:Type} {l:List bz} (ak:l.length<=12) {i:Nat} (M:i<l.length) {k:Int} (ao:k=1+((i % 2:Nat):Int)) (aN B:A X):NO l l[i] i k aN B=if (!qv l i)=true then aN else B:=by
 unfold NO;have za:=ak5 l i;rw [Bool.or_comm,sB M] at za;have aF:(decide (l[i].1.2.2.2.1≠k)||decide ((i:Int) > 0)&&decide (l[i].2=(List.getD l (Int.toNat (IntKind.wrap .i64 ((i:Int) - 1))) ((0,0,0,0,0,0),0)).2))=!qv l i:=by
  rw [<-za,ao];rcases Nat.eq_zero_or_pos i with aY | aY
  ·simp_all
  ·rw [bG (n:=(i:Int) - 1) (by omega) (by omega),show ((i:Int) - 1).toNat=i - 1 from by omega]
 rw [aF];have bM:decide ((i:Int) > 0)=true->(0<=IntKind.wrap .i64 ((i:Int) - 1)/\IntKind.wrap .i64 ((i:Int) - 1)<Int.ofNat (List.length l)):=λh=>by
  have h:=of_decide_eq_true h;rw [bG (n:=(i:Int) - 1) (by omega) (by omega),bZ];omega
 simp_all
theorem alv {l:List bz} (h:l.length<=12):Ac (lX.sh,l,())=A.pure (fq hW l,()):=A.bU ⟨h,rfl⟩ _
theorem alw {l:List bb} {w:z1'} {c:a6} (ak:l.length<=12) (aG:∀ s∈l,ln c.1.length s=true) (hw:pC c w) {i:Nat} (M:i<l.length):0<=l[i].2.2.2.2.1/\l[i].2.2.2.2.1<=9/\(0<=l[i].2.1/\l[i].2.1<(w.length:Int))/\IntKind.wrap .i64 (l[i].2.2.1+w.getD l[i].2.1.toNat 0)=l[i].2.2.1+w.getD l[i].2.1.toNat 0:=by
 have h:=Am.1 (aG _ (List.getElem_mem M));have G:py l[i]<(w.length:Int):=by rw [hw.1];omega
 have V:=hw.2 _ (xF (d:=0) h.2.1.1 G);have ah:=h.2.2.1;have a7:=h.2.2.2.1;exact ⟨a7.1,a7.2,⟨h.2.1.1,G⟩,bG (by grind) (by grind)⟩
abbrev nY (f:Nat->List bz) (c:hk):lk:=(f 0,f 1,f 2,f 3,f 4,f 5,f 6,f 7,f 8,f 9,c)
theorem N' {f g:Nat->List bz} (h:∀ u,u<10->f u=g u) (c:hk):nY f c=nY g c:=by
 simp only [nY,h 0 (by decide),h 1 (by decide),h 2 (by decide),h 3 (by decide),h 4 (by decide),h 5 (by decide),h 6 (by decide),h 7 (by decide),h 8 (by decide),h 9 (by decide)]
theorem Oa (f:Nat->List bz) (c:hk):∀ k,k<10->mq k (nY f c)=f k
 | 0,_ | 1,_ | 2,_ | 3,_ | 4,_ | 5,_ | 6,_ | 7,_ | 8,_ | 9,_=>rfl
 | k+10,h=>by omega
theorem Xg (f:Nat->List bz) (c:hk) (v:List bz):∀ k,k<10->Hg k v (nY f c)=nY (λj=>if j=k then v else f j) c
 | 0,_ | 1,_ | 2,_ | 3,_ | 4,_ | 5,_ | 6,_ | 7,_ | 8,_ | 9,_=>rfl
 | k+10,h=>by omega
theorem Xh {X:Type} (f:Nat->A X) {v:Int} {u:Nat} (h:v=(u:Int)):∀ {n:Nat},u<=n->Hi f v n=f u
 | 0,hu=>by
  obtain rfl:u=0:=by omega
  rfl
 | n+1,hu=>by
  unfold Hi;simp only [jn,bZ,h];by_cases e:u=n+1
  ·rw [if_pos (by omega),e]
  ·rw [if_neg (by omega)];exact Xh f rfl (by omega)
theorem alx {c:a6} {w:z1'} (j_:∀ u,(b6 c w u).length<=12) {z:hk} {g:Nat->List bz} {k:Nat} (ao:k<10) (aC:g k=b6 c w k) :
  A.loop (Hh k) (Int.ofNat k,Int.ofNat (List.length (b6 c w k)),0,w,nY g z)=A.pure (if eB (b6 c w k)=true then .next (Int.ofNat k,w,nY g z) else .done (.done (none,false,z))):=by
 have aF:mq k (nY g z)=b6 c w k:=(Oa g z k ao).trans aC;refine alu (b6 c w k) _ _ (λi M=>?_) ?_
 ·have hw:=bG (n:=(i:Int)+1) (by omega) (by have:=j_ k;omega);unfold Hh;simp only [bZ,cY M,if_true,aF,cJ M,dm M,A.bw];rcases Nat.mod_two_eq_zero_or_one i with hm | hm
  ·have ay:decide (Int.tmod (i:Int) 2=1)=false:=by rw [W2,hm];rfl
   simp only [ay,Bool.false_eq_true,if_false,A.EM,A.aJ,A.b2];rw [A.bH (by decide),aF];refine (Xf (j_ k) M (by rw [hm];rfl) _ _).trans ?_;simp only [ct,hw];cases qv (b6 c w k) i<;>rfl
  ·have ay:decide (Int.tmod (i:Int) 2=1)=true:=by rw [W2,hm];rfl
   simp only [ay,if_true,A.EM,A.aJ,A.b2];rw [A.bH (by decide),aF];refine (Xf (j_ k) M (by rw [hm];rfl) _ _).trans ?_;simp only [ct,hw];cases qv (b6 c w k) i<;>rfl
 ·unfold Hh;simp
theorem Xi {c:a6} {w:z1'} (hlen:∀ u,(oM c w u).length<=12) (j_:∀ u,(b6 c w u).length<=12) {z:hk}:∀ n k,k+n=10->
  DC Ac lX.sh n k (w,nY (λu=>if u<k then b6 c w u else oM c w u) z)=A.pure (if ((List.range' k n).all λu=>eB (b6 c w u))=true then .next (w,nY (λu=>b6 c w u) z) else .done (none,false,z))
 | 0,k,h=>by
  unfold DC;rw [N' (g:=λu=>b6 c w u) λu hu=>if_pos (by omega)];rfl
 | n+1,k,h=>by
  have ao:k<10:=by omega
  have aG:Ac (lX.sh,oM c w k,())=A.pure (b6 c w k,()):=alv (hlen k);have hw:=bG (n:=(k:Int)+1) (by omega) (by omega);have bB:Hg k (b6 c w k) (nY (λu=>if u<k then b6 c w u else oM c w u) z)=nY (λu=>if u<k+1 then b6 c w u else oM c w u) z:=by
   rw [Xg _ _ _ _ ao];exact N' (λu hu=>by
    by_cases e:u=k
    ·subst e;simp
    ·by_cases bB:u<k
     ·simp [e,bB,show u<k+1 by omega]
     ·simp [e,bB,show ¬u<k+1 by omega]) _
  unfold DC;dsimp only;rw [A.bH (by simp only [bZ];omega),Oa _ _ _ ao,if_neg (Nat.lt_irrefl k),aG,A.aJ];simp only [bB];rw [alx j_ ao (if_pos (Nat.lt_succ_self k)),A.aJ,List.range'_succ,List.all_cons];cases eB (b6 c w k) with
  | false=>rfl
  | true=>
   simp only [if_true,Bool.true_and,A.b2];rw [A.bH (by simp only [bZ,ct,hw];omega)];exact Xi hlen j_ n (k+1) (by omega)
theorem Ob (x):A.le (Ww oL.sh Ac lX.sh x) (uc x):=A.bx λh=>by
 obtain ⟨w,z⟩:=x;obtain ⟨G,V,ah⟩:=h;change cL (kB z)=0 at G;change pC (kB z) w at V;change z.hK=fr (kB z) at ah;show _=A.pure (if sF (kB z) w=true then (some (w,m' (kB z) w),true,z) else (none,false,z));generalize tJ:kB z=c at *
 have aC:=oN G;have ak:=aC.N2;have o5:∀ s∈fr c,ln c.1.length s=true:=λs aG=>aC.An aG;have aD:=aC.ec;have hlen:∀ u,(oM c w u).length<=12:=λu=>Nat.le_trans (Xe (fr c) w u) ak;have j_:∀ u,(b6 c w u).length<=12:=λu=>DL aC w u;have pD:∀ u,ub z.hK w u=oM c w u:=λu=>by rw [ah];rfl
 rw [<-ah] at ak o5;clear ah;unfold Ww;rw [show oL.sh w=A.pure w from A.bU (show w.length<=3000000 by have:=V.1;omega) _];simp only [A.aJ,A.b2,A.bw];refine (congrArg (λm=>A.bind m _) (A.dK z.hK (λi (_:Unit)=>(w,z.hK,(z.hK.length:Int),(i:Int),w,nY (λu=>ub (z.hK.take i) w u) z)) (λ_ b=>.next b) (λ_=>.next (w,nY (λu=>oM c w u) z)) () ?_ ?_ ?_)).trans ?_
 ·simp only [bZ,List.take_zero];rfl
 ·intro i M b;obtain ⟨aU,aX,bP,gx⟩:=alw (c:=c) ak o5 V M;have hw:=bG (n:=(i:Int)+1) (by omega) (by omega);have iz:∀ u,cn (Add.add (ub (z.hK.take i) w u).length (Add.add 0 1)):=λu=>hV (by have:=Xe (z.hK.take i) w u;rw [List.length_take] at this;simp only [jn];omega);obtain ⟨u,hu⟩:∃ u:Nat,z.hK[i].2.2.2.2.1=(u:Int):=⟨z.hK[i].2.2.2.2.1.toNat,by omega⟩
  have aly:u<=9:=by omega
  simp only [bZ,cY M,if_true,dm M,cJ M,A.bw];rw [A.bH (show (0<=z.hK[i].2.2.2.2.1/\z.hK[i].2.2.2.2.1<((10:Nat):Int)) from ⟨aU,by omega⟩),Xh _ hu aly];unfold Wv;simp only [dm M,bZ,Oa _ _ u (show u<10 by omega),Xg _ _ _ u (show u<10 by omega)];rw [A.bH trivial,A.bH (by omega),A.bH bP,A.bH (iz _),A.bH trivial,A.bH (by omega),A.aJ,A.b2];simp only [ct,hw,gx];refine congrArg (λq=>A.pure (W.next (w,z.hK,(z.hK.length:Int),((i:Int)+1),w,q))) ?_;refine N' (λj aH=>?_) _;rw [alq M,hu];by_cases e:j=u
  ·subst e;rw [if_pos rfl,if_pos rfl,<-hu]
  ·rw [if_neg e,if_neg (by omega)]
 ·intro b;simp only [List.take_length,pD];simp
 ·rw [er,A.aJ,A.b2];have cX:=Xi (c:=c) (w:=w) hlen j_ (z:=z) 10 0 rfl;rw [A.bH (by decide)];rw [show (λu:Nat=>if u<0 then b6 c w u else oM c w u)=λu:Nat=>oM c w u from funext λu=>if_neg (Nat.not_lt_zero u)] at cX;rw [cX,A.aJ];have aF:((List.range' 0 10).all λu=>eB (b6 c w u))=sF c w:=by
   rw [alr];simp [List.range']
  rw [aF];cases sF c w<;>rfl
end Go.Fer.H
namespace Go.Fer.H
open A (W)
set_option linter.unusedVariables false
set_option linter.unusedSimpArgs false
abbrev ir (c:a6) (w:z1'):Option dQ:=some (w,m' c w)
abbrev alz (f:Nat) (x:z1'×hk):Prop:=cL (kB x.2)=0/\N_ x.2=fr (kB x.2)/\x.1.length<=(kB x.2).1.length/\(kB x.2).1.length<x.1.length+f/\sD (kB x.2) x.1=true/\(Xd x.2).length+kg ((kB x.2).1.drop x.1.length)<=60
def xV (f:Nat) (x:z1'×hk):A hk:=A.dR (alz f x) (DR (kB x.2) (N_ x.2) (Xd x.2++(m_ (kB x.2) ((kB x.2).1.drop x.1.length) x.1).map (ir (kB x.2))))
theorem alA (x):¬(xV 0 x).cr:=λh=>by have G:=h.2.2.1;have V:=h.2.2.2.1;omega
theorem alB {c:a6} {w:z1'} {n:Int}:sD c (w++[n])=(sD c w&&b3 n (c.1.getD w.length (0,0)).1 (c.1.getD w.length (0,0)).2):=by
 unfold sD;grind
theorem alC {c:a6} {w:z1'} (ak:w.length=c.1.length) (h:sD c w=true):iL c w=sF c w:=by
 unfold iL sF;grind
set_option maxHeartbeats 1000000 in
theorem alD (f:Nat) (x):A.le (Wy (xV f) uc x) (xV (f+1) x):=A.bx λh=>by
 obtain ⟨w,a0,ca,a2,a3,a4,a5,gn,gp,hY,a9,hx,l,t,u⟩:=x;obtain ⟨G,V,ah,a7,bM,dr⟩:=h;change cL (a0,ca,a2,a3,a4,a5,gn,gp,hY,a9,hx)=0 at G;change l=fr (a0,ca,a2,a3,a4,a5,gn,gp,hY,a9,hx) at V;change w.length<=a0.length at ah;change a0.length<w.length+(f+1) at a7;change sD (a0,ca,a2,a3,a4,a5,gn,gp,hY,a9,hx) w=true at bM;change t.length+kg (a0.drop w.length)<=60 at dr;show _=A.pure (DR (a0,ca,a2,a3,a4,a5,gn,gp,hY,a9,hx) l (t++(m_ (a0,ca,a2,a3,a4,a5,gn,gp,hY,a9,hx) (a0.drop w.length) w).map (ir (a0,ca,a2,a3,a4,a5,gn,gp,hY,a9,hx))));have aC:=oN G;have aD:a0.length<=3:=aC.ec;unfold Wy;simp only [Prod.c8,Prod.fp,Prod.gJ,Prod.iq,Prod.jP,Prod.kS,Prod.hK,Prod.mX,Prod.px,Prod.sr,Prod.xL,Prod.Nx,Prod.Ny,Prod.Nz,Prod.NA,bZ,A.bw];by_cases ak:w.length=a0.length
 ·rw [if_pos (by simp only [decide_eq_true_eq];omega)];have alE:pC (a0,ca,a2,a3,a4,a5,gn,gp,hY,a9,hx) w:=Xb aC ak bM;have ag:uc (w,a0,ca,a2,a3,a4,a5,gn,gp,hY,a9,hx,l,t,())=A.pure (if sF (a0,ca,a2,a3,a4,a5,gn,gp,hY,a9,hx) w=true then (ir (a0,ca,a2,a3,a4,a5,gn,gp,hY,a9,hx) w,true,a0,ca,a2,a3,a4,a5,gn,gp,hY,a9,hx,l,t,()) else (none,false,a0,ca,a2,a3,a4,a5,gn,gp,hY,a9,hx,l,t,())):=A.bU ⟨G,alE,V⟩ _;rw [ag,A.aJ,ak,List.drop_length];unfold m_;rw [alC ak bM];cases ao:sF (a0,ca,a2,a3,a4,a5,gn,gp,hY,a9,hx) w with
  | true=>
   rw [if_pos rfl,if_pos rfl,A.bH (hV (by simp only [jn];omega)),A.aJ,A.b2];rfl
  | false=>
   simp only [Bool.false_eq_true,if_false,A.aJ,A.b2,List.map_nil,List.append_nil]
 ·have ch:w.length<a0.length:=by omega
  rw [if_neg (by simp only [decide_eq_true_eq];omega),A.bH (show (0:Int)<=(w.length:Int)/\(w.length:Int)<(a0.length:Int) by omega)];rw [List.drop_eq_getElem_cons ch] at dr ⊢;simp only [Int.toNat_natCast,sB ch];have aG:=aC.clk _ (List.getElem_mem ch);change -30<=a0[w.length].1/\a0[w.length].1<=a0[w.length].2/\a0[w.length].2<=30 at aG;have na:a0.getD w.length (0,0)=a0[w.length]:=sB ch;generalize a0[w.length]=s at *
  unfold kg at dr;have DS:∀ n (ts:List (Option dQ)),s.1<=n->n<=s.2->ts.length+kg (a0.drop (w.length+1))<=60->xV f (w++[n],a0,ca,a2,a3,a4,a5,gn,gp,hY,a9,hx,l,ts,())=A.pure (DR (a0,ca,a2,a3,a4,a5,gn,gp,hY,a9,hx) l (ts++(m_ (a0,ca,a2,a3,a4,a5,gn,gp,hY,a9,hx) (a0.drop (w.length+1)) (w++[n])).map (ir (a0,ca,a2,a3,a4,a5,gn,gp,hY,a9,hx)))):=by
   intro n ts aU aX bP;refine (A.bU ⟨G,V,?_,?_,?_,?_⟩ _).trans (congrArg A.pure ?_)
   ·show DR (a0,ca,a2,a3,a4,a5,gn,gp,hY,a9,hx) l (ts++(m_ (a0,ca,a2,a3,a4,a5,gn,gp,hY,a9,hx) (a0.drop (w++[n]).length) (w++[n])).map (ir (a0,ca,a2,a3,a4,a5,gn,gp,hY,a9,hx)))=_;rw [List.length_append,List.length_singleton]
   ·show (w++[n]).length<=a0.length;simp;omega
   ·show a0.length<(w++[n]).length+f;simp;omega
   ·show sD (a0,ca,a2,a3,a4,a5,gn,gp,hY,a9,hx) (w++[n])=true;rw [alB,bM];show (true&&b3 n (a0.getD w.length (0,0)).1 (a0.getD w.length (0,0)).2)=true;rw [na,Bool.true_and];exact oJ.2 ⟨aU,aX⟩
   ·show ts.length+kg (a0.drop (w++[n]).length)<=60;rw [List.length_append,List.length_singleton];exact bP
  rw [A.gA (et s.1 s.2) (λi (ts:List (Option dQ))=>(w,(w.length:Int),s.1+(i:Int),a0,ca,a2,a3,a4,a5,gn,gp,hY,a9,hx,l,ts,())) (λn ts=>.next (ts++(m_ (a0,ca,a2,a3,a4,a5,gn,gp,hY,a9,hx) (a0.drop (w.length+1)) (w++[n])).map (ir (a0,ca,a2,a3,a4,a5,gn,gp,hY,a9,hx)))) (λts=>(a0,ca,a2,a3,a4,a5,gn,gp,hY,a9,hx,l,ts,())) (λi ts=>ts.length<=t.length+i*kg (a0.drop (w.length+1))) t ?_ ?_ ?_ ?_]
  ·rw [er,Xc (f:=λn=>(m_ (a0,ca,a2,a3,a4,a5,gn,gp,hY,a9,hx) (a0.drop (w.length+1)) (w++[n])).map (ir (a0,ca,a2,a3,a4,a5,gn,gp,hY,a9,hx)))];rw [<-List.map_flatMap];rfl
  ·rw [Int.natCast_zero,Int.add_zero]
  ·simp
  ·intro i M ts ag;rw [xG] at M;have hw:=bG (n:=s.1+(i:Int)+1) (by omega) (by omega);have ay:decide (s.1+(i:Int)<=s.2)=true:=by simpa using (by omega:s.1+(i:Int)<=s.2)
   have hle:=N6 (a0,ca,a2,a3,a4,a5,gn,gp,hY,a9,hx) (a0.drop (w.length+1)) (w++[s.1+(i:Int)]);have alF:ts.length+kg (a0.drop (w.length+1))<=60:=by
    have:(i+1)*kg (a0.drop (w.length+1))<=(s.2 - s.1+1).toNat*kg (a0.drop (w.length+1)):=Nat.mul_le_mul_right _ (by omega);rw [Nat.succ_mul] at this;omega
   refine ⟨?_,λbf dh=>?_⟩
   ·simp only [Int.toNat_natCast,na,ay,if_true,ct,hw,Dj,List.take_length];rw [A.bH (by omega),A.bH ⟨by omega,by omega,trivial,by omega⟩,A.bH ⟨by simp only [jn];omega,hV (by simp only [jn];omega)⟩,DS _ ts (by omega) (by omega) alF,A.aJ];simp only [W.hj];rw [show s.1+((i+1:Nat):Int)=s.1+(i:Int)+1 from by omega]
   ·simp only [W.next.injEq,Dj] at dh;subst dh;rw [List.length_append,List.length_map,Nat.succ_mul];omega
  ·intro ts ag;rw [xG];have ay:decide (s.1+(((s.2 - s.1+1).toNat:Nat):Int)<=s.2)=false:=by simpa using (by omega:s.2<s.1+(((s.2 - s.1+1).toNat:Nat):Int))
   simp only [Int.toNat_natCast,na,ay,Bool.false_eq_true,if_false,A.aJ];rw [A.bH (by omega)]
abbrev ud:a6:=([],[],[],[],0,0,0,0,0,0,0)
abbrev As:aO:=⟨.aA hl (.bI jr),de,λx=>∃ c:a6,x.2=some c/\c.2.2.1.length<2 ^ 63,λx=>(x.2.getD ud).2.2.1.contains (ll x.1)⟩
theorem Oc (x):A.le (V' oK.sh x) (As.sh x):=A.bx λh=>by
 obtain ⟨s,o⟩:=x;obtain ⟨c,hc,h⟩:=h;change o=some c at hc;subst hc;unfold V';simp only [Option.getD_some];rw [show oK.sh (c.2.2.1,s.1)=A.pure (c.2.2.1.contains s.1) from A.bU h _,A.aJ]
abbrev ue (c:a6):d':=(c,fr c,(cM c).map (ir c))
def DT (c:a6) (f:Option d'->A Bool):Bool:=(f (some (c,fr c,[]))).val false
def sH (c:a6) (b:Bool):Option d'×Int:=if cL c≠0 then (none,cL c) else if b=false then (none,1) else if cM c=[] then (none,3) else (some (ue c),0)
abbrev vA:aO:=⟨.aA jr (.fn (.bI su) .bool),.aA (.bI su) bu,λx=>gL x.1/\(cL x.1=0->∃ b,x.2 (some (x.1,fr x.1,[]))=A.pure b),λx=>sH x.1 (DT x.1 x.2)⟩
theorem alG {c:a6} (aC:gT c):Hv ((λs=>As.sh (s,some c)),gS c.2.1,())=A.pure ((0,(fr c).length),fr c++List.replicate ((gS c.2.1).length - (fr c).length) jt,()):=by
 have af:∀ s,As.sh (s,some c)=A.pure (c.2.2.1.contains s.1):=λs=>A.bU ⟨c,rfl,by have:=aC.jF;omega⟩ _;have e:((gS c.2.1).filter λs=>!(As.sh (s,some c)).val false)=fr c:=by
  unfold fr;simp_all
 have:=akR c.2.1;refine (A.bU ⟨show (gS c.2.1).length<2 ^ 63 by omega,λs _=>⟨_,af s⟩⟩ _).trans (congrArg A.pure ?_);grind
set_option maxHeartbeats 1000000 in
theorem alH (x):A.le (VQ hX.sh Ht Hv (xV 5) As.sh x) (vA.sh x):=A.bx λh=>by
 obtain ⟨c,f⟩:=x;obtain ⟨h,aw⟩:=h;change gL c at h;change cL c=0->∃ b,f (some (c,fr c,[]))=A.pure b at aw;unfold VQ;show _=A.pure (sH c (DT c f));unfold sH;rw [show hX.sh c=A.pure (cL c) from A.bU h.hd _];simp only [A.aJ,decide_eq_true_eq];by_cases hc:cL c=0
 ·simp only [hc,ne_eq,not_true_eq_false,if_false];have aC:=oN hc;obtain ⟨b,aa⟩:=aw hc;have G:=aC.ec;have hid:=Hu aC.iU;rw [show Ht (c.2.1,())=A.pure (true,gS c.2.1,()) from A.bU ⟨hid,(Aj _).2 aC.Ah⟩ _,A.aJ];simp only [A.bw];rw [alG aC,A.aJ];have pB:List.drop 0 (List.take (fr c).length (fr c++List.replicate ((gS c.2.1).length - (fr c).length) jt))=fr c:=by
   rw [List.drop_zero,List.take_left]
  simp only [pB];unfold DT;simp only [aa,A.fE,A.aJ];cases b with
  | false=>simp
  | true=>
   simp only [Bool.not_true,Bool.false_eq_true,if_false,A.aJ,A.b2,reduceCtorEq];simp only [Prod.c8,Prod.fp,Prod.gJ,Prod.iq,Prod.jP,Prod.kS,Prod.hK,Prod.mX,Prod.px,Prod.sr,Prod.xL,Prod.Nx,Prod.Ny,Prod.Nz,Prod.NA,pB];have na:xV 5 ([],c.1,c.2.1,c.2.2.1,c.2.2.2.1,c.2.2.2.2.1,c.2.2.2.2.2.1,c.2.2.2.2.2.2.1,c.2.2.2.2.2.2.2.1,c.2.2.2.2.2.2.2.2.1,c.2.2.2.2.2.2.2.2.2.1,c.2.2.2.2.2.2.2.2.2.2,fr c,[],())=A.pure (DR c (fr c) ((cM c).map (ir c))):=A.bU ⟨hc,rfl,Nat.zero_le _,show c.1.length<0+5 by omega,rfl,show 0+kg c.1<=60 by have:=h.2 hc;omega⟩ _;rw [na,A.aJ];simp only [bZ,List.length_map];by_cases aL:cM c=[]
   ·simp [aL]
   ·have:¬((cM c).length:Int)=0:=λe=>aL (List.eq_nil_of_length_eq_zero (by omega));simp only [this,aL,if_false]
 ·simp only [hc,ne_eq,not_false_eq_true,if_true]
def vC (l:List (Option dQ)) (f:Option dQ->A (Int×Bool)):Option (Int×Int):=xU (l.filterMap λt=>if ((f t).val (0,false)).2=true then some ((f t).val (0,false)).1 else none)
abbrev Au:aO:=⟨.aA (.bI su) (.fn (.bI xM) (.aA bu .bool)),.aA mr .bool,λx=>∃ b:d',x.1=some b/\b.2.2.length<=60/\∀ t∈b.2.2,∃ r,x.2 t=A.pure r,λx=>((vC (x.1.getD (ud,[],[])).2.2 x.2).getD (0,0),(vC (x.1.getD (ud,[],[])).2.2 x.2).isSome)⟩
theorem Xj {al β gq:Type} (g:al->Option β) (h:gq->β->gq):∀ (l:List al) (b:gq),l.foldl (λb x=>(g x).elim b λy=>h b y) b=(l.filterMap g).foldl h b
 | [],b=>rfl
 | x::l,b=>by
  simp only [List.foldl_cons,List.filterMap_cons];rw [Xj g h l];grind
theorem alI (x):A.le (VZ x) (Au.sh x):=A.bx λh=>by
 obtain ⟨o,f⟩:=x;obtain ⟨b,aa,ak,aw⟩:=h;change o=some b at aa;subst aa;unfold VZ;show _=A.pure ((vC b.2.2 f).getD (0,0),(vC b.2.2 f).isSome);simp only [Option.isSome_some,A.bw,Option.getD_some];change b.2.2.length<=60 at ak;change ∀ t∈b.2.2,∃ r,f t=A.pure r at aw;generalize b.2.2=l at *
 rw [A.dK l (λi (o:Option (Int×Int))=>(f,o.isSome,l,(l.length:Int),(i:Int),o.getD (0,0),())) (λt o=>.next ((if ((f t).val (0,false)).2=true then some ((f t).val (0,false)).1 else none).elim o λn=>some (HA o n))) (λo=>.next (o.isSome,o.getD (0,0),())) none ?_ ?_ ?_]
 ·rw [er,Xj (λt=>if ((f t).val (0,false)).2=true then some ((f t).val (0,false)).1 else none) (λo n=>some (HA o n)),A.aJ];rfl
 ·rfl
 ·intro i M o;have hw:=bG (n:=(i:Int)+1) (by omega) (by omega);obtain ⟨r,U⟩:=aw _ (List.getElem_mem M);simp only [Prod.c8,bZ,cY M,if_true,dm M,cJ M,A.bw,ct,hw,U,A.aJ,A.fE,W.hj];obtain ⟨n,b_⟩:=r;cases b_ with
  | false=>simp_all
  | true=>
   cases o with
   | none=>simp only [Bool.not_true,Bool.false_eq_true,if_false,if_true,Option.isSome_none,Bool.not_false,A.aJ,A.b2,hw,Option.elim];rfl
   | some s=>
    simp only [Bool.not_true,Bool.false_eq_true,if_false,if_true,Option.isSome_some,A.aJ,A.b2,hw,Option.elim,Option.getD_some];rw [W5,ak8];rfl
 simp
end Go.Fer.H
namespace Go.Fer.H
open A (W)
set_option linter.unusedVariables false
set_option linter.unusedSimpArgs false
section
variable {al:Type}
def Xk (x:Nat×List (Int×al)×(Nat×(z1'->Prop)×z1'×Bool)×Unit):A ((Nat×(z1'->Prop)×z1'×Bool)×Unit):=
 A.bind (A.pure ()) λy=>A.loop (λ(D:Nat×(Nat×(z1'->Prop)×z1'×Bool)×(Option (Int×al)×List (Int×al))×Unit)=>
 A.bind (FO D.2.2.1.2) λy=>if Option.isSome y=true then A.bind (A.ae (Option.isSome (nL D.2.2.1.1 D.2.2.1.2 y)=true) (A.pure ())) λbV
 =>A.bind (A.ae (D.1=D.2.1.1/\D.2.1.2.2.2=false/\∃ (T:z1'),D.2.1.2.1 (D.2.1.2.2.1++Option.getD (Option.map (λx=>x.1) (nL
 D.2.2.1.1 D.2.2.1.2 y)) 0::T)) (A.any λx=>True)) λdL=>if (!dL)=true then A.bind (A.pure ((D.2.1.1,D.2.1.2.1,D.2.1.2.2.1++
 [Option.getD (Option.map (λx=>x.1) (nL D.2.2.1.1 D.2.2.1.2 y)) 0],!dL),())) λr=>A.pure (W.done r) else A.pure (W.next (D.1,(D.2.1.1,D.2.1.2.1,D.2.1.2.2.1++[Option.getD (Option.map (λx=>x.1) (nL D.2.2.1.1 D.2.2.1.2 y)) 0],!dL),(nL D.2.2.1.1 D.2.2.1.2 y,Co D.2.2.1.2 y),())) else A.bind (A.pure (D.2.1,())) λr=>A.pure (W.done r)) (x.1,x.2.2.1,(none,x.2.1),())
theorem Xl {β:Type}:∀ (l:List β) (i:Nat) (h:i<l.length),(l[i]::l.eraseIdx i).Perm l
 | x::l,0,_=>.refl _
 | x::l,i+1,h=>by
  simp only [List.getElem_cons_succ,List.eraseIdx_cons_succ];exact (List.Perm.swap x _ _).trans ((Xl l i (by grind)).cons x)
theorem Xm (l:Nat) (m:List (Int×al)):A.cv (Xk (l,m,(l,jQ (some m),[],false),())) λy=>y.1.2.2.2=false->jQ (some m) y.1.2.2.1:=by
 unfold Xk;rw [A.aJ];refine A.Bn (λD=>∃ p c cm,D=(l,(l,jQ (some m),p,false),(c,cm),())/\(m.map (·.1)).Perm (p++cm.map (·.1))) (λD=>D.2.2.1.2.length) ?_ _ ⟨[],none,m,rfl,.refl _⟩;rintro D ⟨p,c,cm,rfl,ar⟩;simp only;rw [A.fT];refine ⟨trivial,λy aS=>?_⟩;cases y with
 | none=>
  have U:cm=[]:=aS;subst U;simp only [Option.isSome_none,Bool.false_eq_true,if_false,A.aJ];refine A.ea.2 λ_=>tZ.2 (by grind)
 | some i=>
  have M:i<cm.length:=aS;have aD:nL c cm (some i)=some cm[i]:=List.getElem?_eq_getElem M;have U:Co cm (some i)=cm.eraseIdx i:=rfl;have DU:(m.map (·.1)).Perm (p++cm[i].1::(cm.eraseIdx i).map (·.1)):=ar.trans (List.Perm.append_left p ((Xl cm i M).symm.map (·.1)));simp only [Option.isSome_some,if_true,aD,U,A.bw,A.aJ,Option.map_some,Option.getD_some];rw [A.fT,A.kF];refine ⟨⟨trivial,trivial,(cm.eraseIdx i).map (·.1),tZ.2 DU⟩,⟨true,trivial⟩,λb _=>?_⟩;cases b with
  | false=>
   simp only [Bool.not_false,if_true,A.aJ];exact A.ea.2 λh=>by cases h
  | true=>
   simp only [Bool.not_true,Bool.false_eq_true,if_false];refine A.ea.2 ⟨⟨p++[cm[i].1],some cm[i],cm.eraseIdx i,rfl,by grind⟩,?_⟩;grind
end
theorem alJ (l:Nat) (m:z4'):A.cv (NM (l,m,(l,jQ (some m),[],false),())) λy=>y.1.2.2.2=false->jQ (some m) y.1.2.2.1:=Xm l m
theorem alK (l:Nat) (m:List (Int×bb)):A.cv (NN (l,m,(l,jQ (some m),[],false),())) λy=>y.1.2.2.2=false->jQ (some m) y.1.2.2.1:=Xm l m
def dt (cl:z4'):List bz->List bz
 | a::b::r=>(a.1,lY cl a.2 b.2)::dt cl r
 | _=>[]
def DV (c:a6) (fP:List (List bz)):Prop:=fP.length=10/\∀ l∈fP,l.length<=12/\∀ i,(h:i+1<l.length)->Ao (c,l[i].2,l[i+1].2)
def pE (c:a6) (fP:List (List bz)):List bz:=fP.flatMap (dt c.2.2.2.1)
def sI (x:Option (Option dQ)×Option (Option d')) (L:List bz):Prop:=∃ t b,x.1=some (some t)/\x.2=some (some b)/\DV b.1 t.2/\L=pE b.1 t.2
theorem alL {cl:z4'} {l:List bz} {i:Nat} (h:i+1<l.length):dt cl (l.drop i)=(l[i].1,lY cl l[i].2 l[i+1].2)::dt cl (l.drop (i+2)):=by
 rw [List.drop_eq_getElem_cons (by omega:i<l.length),List.drop_eq_getElem_cons h];rfl
theorem alM {cl:z4'} {l:List bz} {i:Nat} (h:¬i+1<l.length):dt cl (l.drop i)=[]:=by
 have:(l.drop i).length<=1:=by grind
 match h:l.drop i with
 | []=>rfl
 | [_]=>rfl
 | _::_::_=>grind
set_option maxHeartbeats 1000000 in
theorem alN (fe:Nat) (t:dQ) (b:d') (h:DV b.1 t.2):A.cv (Hf vx.sh (fe,some t,some b,(fe,sI (some (some t),some (some b)),[],false),())) λy=>y.1.2.2.2=false->sI (some (some t),some (some b)) y.1.2.2.1:=by
 obtain ⟨G,V⟩:=h;have Gx:∀ L,sI (some (some t),some (some b)) L<->L=pE b.1 t.2:=λL=>⟨λ⟨cU,bf,aF,bB,_,e⟩=>by cases aF;cases bB;exact e,λe=>⟨t,b,rfl,rfl,⟨G,V⟩,e⟩⟩
 generalize sI (some (some t),some (some b))=S at *
 unfold Hf;simp only [Option.isSome_some,A.bw,Option.getD_some];refine A.Bn (λD=>∃ (u:Nat),u<=10/\D=(fe,some b,t.2,(u:Int),(fe,S,(t.2.take u).flatMap (dt b.1.2.2.2.1),false),())) (λD=>(10 - D.2.2.2.1).toNat) ?_ _ ⟨0,by omega,rfl⟩;rintro D ⟨u,hu,rfl⟩;by_cases Lz:u<10
 ·have ay:decide ((u:Int)<10)=true:=by simpa using (by omega:(u:Int)<10)
  have sg:u<t.2.length:=by omega
  have alO:=bG (n:=(u:Int)+1) (by omega) (by omega);have hm:=List.getElem_mem sg;obtain ⟨ah,a7⟩:=V _ hm;simp only [ay,if_true,dm sg];rw [A.bH (show (0:Int)<=(u:Int)/\(u:Int)<Int.ofNat 10 by rw [bZ];omega)];have fB:pE b.1 t.2=(t.2.take u).flatMap (dt b.1.2.2.2.1)++(dt b.1.2.2.2.1 t.2[u]++(t.2.drop (u+1)).flatMap (dt b.1.2.2.2.1)):=by
   unfold pE;conv=>lhs;rw [<-List.take_append_drop u t.2,List.drop_eq_getElem_cons sg]
   simp only [List.flatMap_append,List.flatMap_cons]
  generalize alP:t.2[u]=jT at *
  generalize (t.2.drop (u+1)).flatMap (dt b.1.2.2.2.1)=R at *
  generalize jk:(t.2.take u).flatMap (dt b.1.2.2.2.1)=P at *
  have alQ:(t.2.take (u+1)).flatMap (dt b.1.2.2.2.1)=P++dt b.1.2.2.2.1 jT:=by
   rw [List.take_add_one,List.getElem?_eq_getElem sg,Option.toList_some,List.flatMap_append,jk,alP];simp
  rw [A.fT];refine (A.Bn (p:=λz=>match z with | .next z=>z=(fe,some b,t.2,(u:Int),(fe,S,P++dt b.1.2.2.2.1 jT,false),()) | .done z=>(match z with | .next _=>False | .done y=>y.1.2.2.2=true)) (λD=>∃ (i:Nat) (Q:List bz),i<=jT.length+1/\Q++dt b.1.2.2.2.1 (jT.drop i)=dt b.1.2.2.2.1 jT/\D=(fe,some b,jT,(i:Int),t.2,(u:Int),(fe,S,P++Q,false),())) (λD=>(20 - D.2.2.2.1).toNat) ?_ _ ⟨0,[],by omega,by simp,by simp⟩).mono λz bl=>?_
  ·rintro D ⟨i,Q,om,tM,rfl⟩;have hw:=bG (n:=(i:Int)+1) (by omega) (by omega);have gR:=bG (n:=(i:Int)+2) (by omega) (by omega);by_cases M:i+1<jT.length
   ·have u6:i<jT.length:=by omega
    have ay:decide ((i:Int)+1<(jT.length:Int))=true:=by simpa using (by omega:(i:Int)+1<(jT.length:Int))
    have cF:(0:Int)<=(i:Int)+1/\(i:Int)+1<(jT.length:Int):=⟨by omega,by omega⟩
    have js:jT.getD ((i:Int)+1).toNat ((0,0,0,0,0,0),0)=jT[i+1]:=by
     rw [show ((i:Int)+1).toNat=i+1 from by omega,sB M]
    have em:vx.sh (b.1,jT[i].2,jT[i+1].2)=A.pure (lY b.1.2.2.2.1 jT[i].2 jT[i+1].2):=A.bU (a7 i M) _;simp only [Prod.c8,Prod.fp,bZ,ct,hw,ay,if_true,dm u6,cJ u6,cF,js,Option.isSome_some,Option.getD_some,em,A.jc,A.fE,and_self,A.bw,decide_true];rw [A.fT,A.kF];have cR:=alL (cl:=b.1.2.2.2.1) M;refine ⟨⟨trivial,trivial,dt b.1.2.2.2.1 (jT.drop (i+2))++R,(Gx _).2 ?_⟩,⟨true,trivial⟩,λy _=>?_⟩
    ·rw [fB,<-tM,cR];simp
    ·cases y with
     | false=>
      simp only [Bool.not_false,if_true,A.aJ];exact A.ea.2 rfl
     | true=>
      simp only [Bool.not_true,Bool.false_eq_true,if_false,gR];refine A.ea.2 ⟨⟨i+2,Q++[(jT[i].1,lY b.1.2.2.2.1 jT[i].2 jT[i+1].2)],by omega,?_,?_⟩,?_⟩
      ·rw [<-tM,cR];simp
      ·rw [List.append_assoc];rfl
      ·show (20 - ((i:Int)+2)).toNat<(20 - (i:Int)).toNat;omega
   ·have ay:decide ((i:Int)+1<(jT.length:Int))=false:=by simpa using (by omega:(jT.length:Int)<=(i:Int)+1)
    simp only [bZ,ct,hw,ay,Bool.false_eq_true,if_false,A.aJ];refine A.ea.2 ?_;rw [alM M,List.append_nil] at tM;show (fe,some b,t.2,(u:Int),(fe,S,P++Q,false),())=_;rw [tM]
  ·cases z with
   | next z=>
    have bl:z=_:=bl;subst bl;simp only [A.b2,ct,alO];refine A.ea.2 ⟨⟨u+1,by omega,?_⟩,?_⟩
    ·rw [alQ];rfl
    ·show (10 - ((u:Int)+1)).toNat<(10 - (u:Int)).toNat;omega
   | done z=>
    cases z with
    | next z=>exact absurd bl id
    | done y=>
     have bl:y.1.2.2.2=true:=bl;simp only [A.pr];refine A.ea.2 λh=>?_;rw [bl] at h;cases h
 ·have MY:u=10:=by omega
  subst MY;simp only [show decide (((10:Nat):Int)<10)=false from by decide,Bool.false_eq_true,if_false,A.aJ];refine A.ea.2 λ_=>(Gx _).2 ?_;show (t.2.take 10).flatMap _=_;rw [<-G,List.take_length];rfl
abbrev Av:aO:=⟨.aA (.bI su) (.bI xM),.cq (.aA hl bu),λ_=>True,λx=>sI (some x.2,some x.1)⟩
theorem alR (x):A.le (ajO sI x) (Av.sh x):=A.bx λ_=>rfl
end Go.Fer.H
namespace Go.Fer.H
open A (W)
set_option linter.unusedVariables false
set_option linter.unusedSimpArgs false
theorem Aw {al β:Type} {f:al->β}:∀ {l:List al},(l.map f).Nodup->∀ {a b:al},a∈l->b∈l->f a=f b->a=b
 | [],_,a,b,ba,_,_=>by grind
 | x::l,aD,a,b,ba,aa,e=>by
  rw [List.map_cons,List.nodup_cons] at aD;rcases List.mem_cons.1 ba with G | G<;>rcases List.mem_cons.1 aa with V | V
  ·grind
  ·grind
  ·grind
  ·exact Aw aD.2 G V e
theorem alS {l m:z1'} (h:l.Perm m):l.sum=m.sum:=by
 induction h with
 | nil=>rfl
 | cons x _ aM=>grind
 | swap x y l=>grind
 | trans _ _ G V=>omega
theorem Od {l:List bz} (h:eB l=true) {i:Nat} (M:i<l.length):ei l[i].1=1+((i % 2:Nat):Int)/\(0<i->l[i].2≠(l.getD (i - 1) cX).2):=by
 unfold eB at h;rw [List.all_eq_true] at h;have:=h i (by grind);unfold qv at this;grind
theorem Xn (cl:z4'):∀ l:List bz,(∀ i,(h:i<l.length)->ei l[i].1=1+((i % 2:Nat):Int))->dt cl l=((t' l).filter λp=>ei p.1.1 == 1).map λp=>(p.1.1,lY cl p.1.2 p.2.2)
 | [],_=>rfl
 | [_],_=>rfl
 | [a,b],h=>by
  have ba:ei a.1=1:=h 0 (by simp);simp [dt,t',ba]
 | a::b::c::r,h=>by
  have ba:ei a.1=1:=h 0 (by simp);have aa:ei b.1=2:=h 1 (by simp);have aM:=Xn cl (c::r) λi M=>by
   have:=h (i+2) (by grind);grind
  have e:t' (a::b::c::r)=(a,b)::(b,c)::t' (c::r):=rfl;rw [e,List.filter_cons_of_pos (by grind),List.filter_cons_of_neg (by grind),List.map_cons,<-aM];rfl
abbrev nb (c:a6) (w:z1'):List bz:=pE c (m' c w)
theorem HL (c:a6) (w:z1'):nb c w=(et 0 9).flatMap λu=>dt c.2.2.2.1 (b6 c w u):=by
 rfl
theorem Oe {c:a6} {w:z1'} (hw:iL c w=true) {u:Int} (hu:0<=u/\u<=9):gU c w u=b6 c w u:=by
 unfold gU;rw [if_pos (Hz hw hu)]
theorem alT {cl:z4'} {l:List bz} (h:eB l=true) (i':Int):DN cl i' l=((dt cl l).find? λp=>p.1.1 == i').map (·.2):=by
 rw [Xn cl l λi M=>(Od h M).1];unfold DN;rw [List.find?_map,List.find?_filter,Option.map_map];refine congrArg _ (congrArg (λf=>(t' l).find? f) ?_);grind
theorem Xo {al β:Type} {f g:al->Option β}:∀ {l:List al},(∀ x∈l,f x=g x)->l.findSome? f=l.findSome? g
 | [],_=>rfl
 | x::l,h=>by
  rw [List.findSome?_cons,List.findSome?_cons,h x (by simp),Xo λy aS=>h y (by grind)]
theorem Of {c:a6} {w:z1'} (hw:iL c w=true) (i':Int):jS c w i'=((nb c w).find? λp=>p.1.1 == i').map (·.2):=by
 unfold jS;rw [HL,List.find?_flatMap,List.map_findSome?];refine Xo λu hu=>?_;have hu:=so.1 hu;rw [Oe hw hu,alT (Hz hw hu)];rfl
theorem Xp {c:a6} (aC:gT c) {w:z1'} (hw:iL c w=true):DV c (m' c w):=by
 have V:=DP aC.N0 hw;have key:∀ u:Int,0<=u/\u<=9->(b6 c w u).length<=12/\∀ i,(h:i+1<(b6 c w u).length)->Ao (c,(b6 c w u)[i].2,(b6 c w u)[i+1].2):=by
  intro u hu;have:=Oe hw hu;refine ⟨DL aC w u,?_⟩;have k:=λi=>@W8 c aC w V u i;simp only [this] at k;exact k
 refine ⟨rfl,λl ak=>?_⟩;simp only [m',List.mem_cons,List.not_mem_nil,or_false] at ak;rcases ak with rfl | rfl | rfl | rfl | rfl | rfl | rfl | rfl | rfl | rfl<;>exact key _ (by omega)
theorem Xq {cl:z4'}:∀ {l:List bz} {p:bz},p∈dt cl l->∃ i,∃ h:i+1<l.length,i % 2=0/\p=(l[i].1,lY cl l[i].2 l[i+1].2)
 | [],_,h=>by simp [dt] at h
 | [_],_,h=>by simp [dt] at h
 | a::b::r,p,h=>by
  unfold dt at h;rcases List.mem_cons.1 h with rfl | h
  ·exact ⟨0,by simp,rfl,rfl⟩
  ·obtain ⟨i,M,V,e⟩:=Xq h;exact ⟨i+2,by grind,by omega,e⟩
theorem Xr (cl:z4'):∀ l:List bz,((dt cl l).map (·.1)).Sublist (l.map (·.1))
 | []=>.slnil
 | [_]=>List.nil_sublist _
 | a::b::r=>by
  unfold dt;simp only [List.map_cons];exact ((Xr cl r).cons _).cons_cons _
theorem Xs (l:List bb):((gS l).map (·.1)).Nodup:=by
 unfold gS;have key:∀ L:z1',L.Nodup->((L.filterMap λid=>l.find? λs=>s.1 == id).map (·.1)).Nodup/\∀ k∈(L.filterMap λid=>l.find? λs=>s.1 == id).map (·.1),k∈L:=by
  grind
 refine (key _ ?_).1;unfold et;show List.Pairwise _ _;rw [List.pairwise_map];exact (List.pairwise_lt_range).imp λh=>by omega
theorem Og (c:a6):((fr c).map (·.1)).Nodup:=by
 unfold fr;exact (Xs c.2.1).sublist (List.filter_sublist.map _)
theorem Oh {c:a6} {a b:bb} (ba:a∈fr c) (aa:b∈fr c) (h:a.1=b.1):a=b:=by
 exact Aw (Og c) ba aa h
theorem Oi (c:a6) (w:z1') (u:Int):((b6 c w u).map (·.1)).Perm ((fr c).filter λs=>decide (tW s=u)):=by
 unfold b6 oM;refine ((DG hW _).map _).trans ?_;rw [List.map_map];exact List.Perm.of_eq (List.map_id' _)
theorem Xt {c:a6} {w:z1'} {p:bz} (h:p∈nb c w):∃ u,0<=u/\u<=9/\∃ i,∃ M:i+1<(b6 c w u).length,i % 2=0/\p=((b6 c w u)[i].1,lY c.2.2.2.1 (b6 c w u)[i].2 (b6 c w u)[i+1].2):=by
 rw [HL,List.mem_flatMap] at h;obtain ⟨u,hu,ar⟩:=h;obtain ⟨i,M,V,e⟩:=Xq ar;exact ⟨u,(so.1 hu).1,(so.1 hu).2,i,M,V,e⟩
theorem Ax {c:a6} {w:z1'} {p:bz} (h:p∈nb c w):p.1∈fr c:=by
 obtain ⟨u,_,_,i,M,_,rfl⟩:=Xt h;exact (DM (List.getElem_mem (by omega:i<(b6 c w u).length))).1
theorem alU {c:a6} {w:z1'} (hw:iL c w=true) {p:bz} (h:p∈nb c w):ei p.1=1:=by
 obtain ⟨u,G,V,i,M,ah,rfl⟩:=Xt h;have:=(Od (Hz hw ⟨G,V⟩) (by omega:i<(b6 c w u).length)).1;grind
theorem Oj (c:a6) (w:z1'):((nb c w).map (·.1)).Nodup:=by
 have hc:(fr c).Nodup:=by
  have:=Og c;exact List.Pairwise.of_map _ (λa b h e=>h (by rw [e])) this
 have hu:∀ u,((dt c.2.2.2.1 (b6 c w u)).map (·.1)).Nodup/\∀ s∈(dt c.2.2.2.1 (b6 c w u)).map (·.1),tW s=u:=by
  intro u;have aG:=Xr c.2.2.2.1 (b6 c w u);have ar:=Oi c w u;grind
 rw [HL,List.map_flatMap];have key:∀ L:z1',L.Nodup->(L.flatMap λu=>(dt c.2.2.2.1 (b6 c w u)).map (·.1)).Nodup/\∀ s∈(L.flatMap λu=>(dt c.2.2.2.1 (b6 c w u)).map (·.1)),tW s∈L:=by
  grind
 refine (key _ ?_).1;unfold et;show List.Pairwise _ _;rw [List.pairwise_map];exact (List.pairwise_lt_range).imp λh=>by omega
theorem Xu {al:Type} (xW:al->Int):∀ (l:List al) (n:Int),l.foldl (λn x=>n+xW x) n=n+(l.map xW).sum
 | [],n=>by simp
 | x::l,n=>by simp only [List.foldl_cons,List.map_cons,List.sum_cons];rw [Xu xW l];omega
theorem alV {al:Type} {f g:al->Int} {l:List al} (h:∀ x∈l,f x=g x):(l.map f).sum=(l.map g).sum:=by rw [List.map_congr_left h]
theorem alW {ψ:bz->Int}:∀ (C:List bb) (H:List bz),(C.map (·.1)).Nodup->(H.map (·.1)).Nodup->(∀ p∈H,p.1∈C)->(C.map λs=>(((H.find? λp=>p.1.1 == s.1).map ψ).getD 0)).sum=(H.map ψ).sum:=by
 intro C H ji mJ qW;have e:(H.map ψ).sum=((C.filterMap λs=>H.find? λp=>p.1.1 == s.1).map ψ).sum:=by
  refine alS (List.Perm.map ψ ?_);have alX:H.Nodup:=List.Pairwise.of_map _ (λa b h e=>h (by rw [e])) mJ;refine (List.perm_ext_iff_of_nodup alX ?_).2 λp=>?_
  ·have:∀ C:List bb,(C.map (·.1)).Nodup->(C.filterMap λs=>H.find? λp=>p.1.1 == s.1).Nodup/\∀ q∈(C.filterMap λs=>H.find? λp=>p.1.1 == s.1),q.1.1∈C.map (·.1):=by
    grind
   grind
  ·rw [List.mem_filterMap];constructor
   ·intro ar;refine ⟨p.1,qW p ar,?_⟩;have hex:(H.find? λq=>q.1.1 == p.1.1).isSome=true:=List.find?_isSome.2 ⟨p,ar,by simp⟩;obtain ⟨q,br⟩:=Option.isSome_iff_exists.1 hex;have DW:q.1.1=p.1.1:=by grind
    have vD:=List.mem_of_find?_eq_some br;have alY:q.1=p.1:=Aw ji (qW q vD) (qW p ar) DW;have:q=p:=Aw mJ vD ar alY;grind
   grind
 rw [e];have:∀ C:List bb,(C.map λs=>(((H.find? λp=>p.1.1 == s.1).map ψ).getD 0)).sum=((C.filterMap λs=>H.find? λp=>p.1.1 == s.1).map ψ).sum:=by
  intro C;induction C with
  | nil=>rfl
  | cons s C aM=>
   grind
 grind
def uf (c:a6) (g:Int) (p:bz):Int:=if iJ p.1=g then lo c.2.2.2.2 p.2 else 0
theorem alZ {c:a6} {w:z1'} (hw:iL c w=true) (g:Int):Hy c w g=((nb c w).map (uf c g)).sum:=by
 rw [<-alW (ψ:=uf c g) (fr c) (nb c w) (Og c) (Oj c w) λp ar=>Ax ar];unfold Hy;have e:(λ(n:Int) (s:bb)=>if (ei s=1/\iJ s=g)/\(jS c w (ll s)).isSome=true then n+lo c.2.2.2.2 ((jS c w (ll s)).getD 0) else n)=λn s=>n+(if (ei s=1/\iJ s=g)/\(jS c w (ll s)).isSome=true then lo c.2.2.2.2 ((jS c w (ll s)).getD 0) else 0):=by
  grind
 rw [e,Xu,Int.zero_add];refine alV λs aG=>?_;rw [Of hw];cases aw:(nb c w).find? λp=>p.1.1 == ll s with
 | none=>simp
 | some p=>
  have ar:=List.mem_of_find?_eq_some aw;have G:p.1.1=s.1:=by grind
  have V:p.1=s:=Oh (Ax ar) aG G;have ah:=alU hw ar;rw [V] at ah;simp only [Option.map_some,Option.getD_some,Option.isSome_some,and_true,ah,true_and,uf,V]
end Go.Fer.H
namespace Go.Fer.H
open A (W)
set_option linter.unusedVariables false
set_option linter.unusedSimpArgs false
theorem Ay (c:a6) (b:Bool):((eI c b).2≠0/\(eI c b).1=[]/\sH c b=(none,(eI c b).2))\/(eI c b=(cM c,0)/\cL c=0/\b=true/\sH c b=(some (ue c),0)):=by
 unfold eI sH;by_cases hc:cL c=0
 ·cases b with
  | false=>left;simp [hc]
  | true=>
   by_cases aL:cM c=[]
   ·left;simp [hc,aL]
   ·right;simp [hc,aL]
 ·left;simp [hc]
theorem Ol {al β:Type} {f g:al->Option β}:∀ {l:List al},(∀ x∈l,f x=g x)->l.filterMap f=l.filterMap g
 | [],_=>rfl
 | x::l,h=>by
  rw [List.filterMap_cons,List.filterMap_cons,h x (by simp),Ol λy aS=>h y (by simp [aS])]
theorem Xv:ua []=(0,0):=rfl
theorem al0 {al:Type} (L:List al) (P:al->Option dQ) (f:Option dQ->A (Int×Bool)) (v:al->Int×Bool) (h:∀ w∈L,f (P w)=A.pure (v w)):vC (L.map P) f=xU (L.filterMap λw=>if (v w).2=true then some (v w).1 else none):=by
 unfold vC;rw [List.filterMap_map];refine congrArg xU (Ol λw hw=>?_);simp only [Function.comp,h w hw,A.fE]
theorem Xw {al:Type} (xW:al->Int) (L:List al):(L.filterMap λw=>if ((xW w,true):Int×Bool).2=true then some ((xW w,true):Int×Bool).1 else none)=L.map xW:=by
 simp only [if_true];rw [<-List.filterMap_eq_map']
theorem Om {c:a6} (ak:(cM c).length<=60) {f:Option dQ->A (Int×Bool)} {v:z1'->Int×Bool} (h:∀ w∈cM c,f (ir c w)=A.pure (v w)):Au.sh (some (ue c),f)=A.pure ((xU ((cM c).filterMap λw=>if (v w).2=true then some (v w).1 else none)).getD (0,0),(xU ((cM c).filterMap λw=>if (v w).2=true then some (v w).1 else none)).isSome):=by
 refine (A.bU ⟨ue c,rfl,show ((cM c).map (ir c)).length<=60 by simpa using ak,λt aL=>?_⟩ _).trans (congrArg A.pure ?_)
 ·show ((vC ((cM c).map (ir c)) f).getD (0,0),(vC ((cM c).map (ir c)) f).isSome)=_;rw [al0 _ _ f v h]
 ·obtain ⟨w,hw,rfl⟩:=List.mem_map.1 aL;exact ⟨_,h w hw⟩
theorem al1:∀ {l:z1'},(xU l).isSome=!l.isEmpty:=by
 intro l;have key:∀ (l:z1') (o:Option (Int×Int)),o.isSome=true->(l.foldl (λo n=>some (HA o n)) o).isSome=true:=by
  intro l;induction l with
  | nil=>intro o h;exact h
  | cons n l aM=>intro o _;exact aM _ rfl
 cases l with
 | nil=>rfl
 | cons n l=>exact key l _ rfl
theorem DX {c:a6} {f:Option d'->A Bool} {b:Bool} (h:gL c) (aw:cL c=0->f (some (c,fr c,[]))=A.pure b):vA.sh (c,f)=A.pure (sH c b):=by
 refine (A.bU ⟨h,λhc=>⟨b,aw hc⟩⟩ _).trans (congrArg A.pure ?_);show sH c (DT c f)=sH c b;unfold sH DT;by_cases hc:cL c=0
 ·rw [aw hc,A.fE]
 ·simp [hc]
theorem DY {c:a6} (h:gL c) (hc:cL c=0):(cM c).length<=60:=Nat.le_trans (N6 c _ _) (h.2 hc)
theorem vF {c:a6} {w:z1'} (h:w∈cM c):iL c w=true:=N7 c _ _ _ h
abbrev Az:aO:=⟨.aA hl (.bI bu),de,λx=>∃ k:Int,x.2=some k/\True,λx=>decide (ll x.1=x.2.getD 0)&&decide (ei x.1=1)⟩
theorem al2 (x):A.le (ajY x) (Az.sh x):=A.bx λ_=>rfl
abbrev On:aO:=⟨.aA (.bI su) (.bI bu),de,λx=>∃ (b:d') (k:Int),x.2=some k/\x.1=some b/\b.2.1.length<2 ^ 63,λx=>(x.1.getD (ud,[],[])).2.1.any λs=>ll s == x.2.getD 0&&ei s == 1⟩
theorem al3 (x):A.le (Wa (iZ hl).sh Az.sh x) (On.sh x):=A.bx λh=>by
 obtain ⟨o,k⟩:=x;obtain ⟨b,_,_,aa,h⟩:=h;change o=some b at aa;subst aa;unfold Wa;simp only [Option.isSome_some,A.bw,Option.getD_some];have af:∀ s,Az.sh (s,some (k.getD 0))=A.pure (decide (ll s=k.getD 0)&&decide (ei s=1)):=λs=>A.bU ⟨_,rfl,trivial⟩ _;rw [show (iZ hl).sh (b.2.1,λs=>Az.sh (s,some (k.getD 0)))=A.pure (b.2.1.any λs=>(Az.sh (s,some (k.getD 0))).val false) from A.bU ⟨h,λs _=>⟨_,af s⟩⟩ _,A.aJ];refine congrArg A.pure ?_;show _=b.2.1.any λs=>ll s == k.getD 0&&ei s == 1;refine congrArg (λp=>b.2.1.any p) ?_;funext s;rw [af,A.fE];rw [Bool.eq_iff_iff];simp
theorem Xx {f:Int->A Int} {n:Int}:∀ (L:List bz),(∀ p∈L,p.1.1=n->∃ v,f p.2=A.pure v)->
  jK (λ(D:Int×(Int->A Int)×Int×Bool×Unit) (y:bb×Int)=>A.bind (if decide (y.1.1=D.1)=true then A.bind (D.2.1 y.2) λy=>A.pure (dd.ret,y,true,()) else A.pure
 (dd.normal,D.2.2.1,D.2.2.2.1,())) λp=>A.pure (p.1,D.1,D.2.1,p.2.1,p.2.2.1,())) L (n,f,0,false,())=(L.find? λp=>p.1.1 == n).elim (A.pure (dd.normal,n,f,0,false,())) λp=>A.pure (dd.ret,n,f,(f p.2).val 0,true,())
 | [],_=>rfl
 | p::L,h=>by
  unfold jK;by_cases ar:p.1.1=n
  ·obtain ⟨v,af⟩:=h p (by simp) ar;simp [ar,af]
  ·have aM:=Xx L λq br=>h q (by simp [br]);simp only [ar,decide_false,Bool.false_eq_true,if_false,A.aJ];rw [aM,List.find?_cons_of_neg (by simpa using ar)]
abbrev Oo:aO:=⟨.aA (.bI xM) (.aA (.bI (.bI su)) (.aA (.bI bu) (.bI (.fn bu bu)))),.aA bu .bool,λx=>∃ (t:dQ) (b:d') (n:Int) (f:Int->A Int),x=(some t,some (some b),some n,some f)/\DV b.1 t.2/\∀ p∈pE b.1 t.2,p.1.1=n->∃ v,f p.2=A.pure v,λx=>((pE ((x.2.1.getD none).getD (ud,[],[])).1 (x.1.getD ([],[])).2).find? λp=>p.1.1 == x.2.2.1.getD 0).elim (0,false) λp=>(((x.2.2.2.getD λ_=>A.fail) p.2).val 0,true)⟩
theorem al4 (x):A.le (Wb Av.sh x) (Oo.sh x):=A.sn λh=>by
 obtain ⟨t,b,n,f,rfl,G,V⟩:=h;unfold Wb;simp only [Option.getD_some];rw [show Av.sh (some b,some t)=A.pure (sI (some (some t),some (some b))) from rfl,A.aJ,A.fT];refine ⟨⟨_,t,b,rfl,rfl,G,rfl⟩,λL iG=>?_⟩;obtain ⟨cU,bf,aF,bB,_,rfl⟩:=iG;cases aF;cases bB;rw [Xx (f:=f) (n:=n) _ V];show A.cv _ λy=>y=((pE b.1 t.2).find? λp=>p.1.1 == n).elim (0,false) λp=>((f p.2).val 0,true)
 cases (pE b.1 t.2).find? λp=>p.1.1 == n with
 | none=>simp only [Option.elim,A.aJ,r7];exact A.ea.2 rfl
 | some p=>simp only [Option.elim,A.aJ,r7];exact A.ea.2 rfl
abbrev AA:aO:=⟨.aA jr (.aA bu (.fn bu bu)),.aA mr bu,λx=>gL x.1/\∀ w∈cM x.1,∀ m,cL x.1=0->jS x.1 w x.2.1=some m->∃ v,x.2.2 m=A.pure v,λx=>(ua ((lp x.1 x.2.1).1.map λm=>(x.2.2 m).val 0),(lp x.1 x.2.1).2)⟩
theorem al5 (x):A.le (VV vA.sh Au.sh On.sh Oo.sh x) (AA.sh x):=A.bx λh=>by
 obtain ⟨c,n,f⟩:=x;obtain ⟨h,aw⟩:=h;change gL c at h;change ∀ w∈cM c,∀ m,cL c=0->jS c w n=some m->∃ v,f m=A.pure v at aw;unfold VV;show _=A.pure (ua ((lp c n).1.map λm=>(f m).val 0),(lp c n).2);unfold lp;rw [DX (b:=Ar c n) h λhc=>A.bU ⟨(c,fr c,[]),n,rfl,rfl,by have:=(oN hc).N2;show (fr c).length<2 ^ 63;omega⟩ _];rcases Ay c (Ar c n) with ⟨G,V,ah⟩ | ⟨G,V,ah,a7⟩
 ·rw [ah];simp only [A.aJ];rw [if_pos (by simpa using G),if_pos G];rfl
 ·rw [G,a7];simp only [A.aJ];rw [if_neg (by simp)];have aC:=oN V;rw [Om (v:=λw=>(jS c w n).elim (0,false) λm=>((f m).val 0,true)) (DY h V) λw hw=>?_,A.aJ]
  ·have e:((cM c).filterMap λw=>if ((jS c w n).elim ((0,false):Int×Bool) λm=>((f m).val 0,true)).2=true then some ((jS c w n).elim ((0,false):Int×Bool) λm=>((f m).val 0,true)).1 else none)=((cM c).filterMap λw=>jS c w n).map λm=>(f m).val 0:=by
    rw [List.map_filterMap];refine Ol λw _=>?_;cases jS c w n<;>rfl
   rw [e,al1];generalize (cM c).filterMap (λw=>jS c w n)=l;cases l with
   | nil=>rfl
   | cons m l=>simp;rfl
  ·have aL:=vF hw;have uY:=Of aL n;refine (A.bU ⟨(w,m' c w),ue c,n,f,rfl,Xp aC aL,λp ar Xy=>?_⟩ _).trans (congrArg A.pure ?_)
   ·show ((nb c w).find? λp=>p.1.1 == n).elim (0,false) (λp=>((f p.2).val 0,true))=_;rw [uY];cases (nb c w).find? λp=>p.1.1 == n<;>rfl
   ·refine aw w hw p.2 V ?_;rw [uY];have hex:((nb c w).find? λq=>q.1.1 == n).isSome=true:=List.find?_isSome.2 ⟨p,ar,by simpa using Xy⟩;obtain ⟨q,br⟩:=Option.isSome_iff_exists.1 hex;have DW:q.1.1=n:=by have:=List.find?_some br;simpa using this
    have vD:=List.mem_of_find?_eq_some br;have aG:q.1=p.1:=Oh (Ax vD) (Ax ar) (DW.trans Xy.symm);have:q=p:=Aw (Oj c w) vD ar aG;rw [br,this];rfl
abbrev xX:aO:=⟨bu,bu,λ_=>True,λx=>x⟩
theorem al6 (x):A.le (ajN x) (xX.sh x):=A.bx λ_=>rfl
theorem al7 (x):A.le (VJ AA.sh xX.sh x) (HC.sh x):=A.bx λh=>by
 obtain ⟨c,n⟩:=x;change gL c at h;unfold VJ;rw [show AA.sh (c,n,xX.sh)=A.pure (ua ((lp c n).1.map λm=>(xX.sh m).val 0),(lp c n).2) from A.bU ⟨h,λ_ _ m _ _=>⟨m,rfl⟩⟩ _];simp only [A.aJ];show _=A.pure (HB c n);unfold HB;have:((lp c n).1.map λm=>(xX.sh m).val 0)=(lp c n).1:=by
  have:(λm:Int=>(xX.sh m).val 0)=λm=>m:=by
   funext m;exact A.fE
  rw [this,List.map_id']
 rw [this]
abbrev xY:aO:=⟨.aA bu (.bI jr),bu,λx=>∃ c:a6,x.2=some c/\xT (c.2.2.2.2,x.1),λx=>lo (x.2.getD ud).2.2.2.2 x.1⟩
theorem al8 (x):A.le (VW vy.sh x) (xY.sh x):=A.bx λh=>by
 obtain ⟨m,q⟩:=x;obtain ⟨c,hc,h⟩:=h;change q=some c at hc;subst hc;unfold VW;simp only [Option.getD_some];rw [show vy.sh (c.2.2.2.2,m)=A.pure (lo c.2.2.2.2 m) from A.bU h _,A.aJ]
theorem Xz {c:a6} (aC:gT c) {w:z1'} (hw:iL c w=true) {n m:Int} (hm:jS c w n=some m):xY.sh (m,some c)=A.pure (lo c.2.2.2.2 m):=by
 have:=Xa aC (DP aC.N0 hw) hm;exact A.bU ⟨c,rfl,aC.N1,show -100000<=m by omega,show m<=20000 by omega⟩ _
theorem al9 {c:a6} {n m:Int} (hm:m∈(lp c n).1):cL c=0/\∃ w,iL c w=true/\w∈cM c/\jS c w n=some m:=by
 unfold lp at hm;split at hm
 ·simp at hm
 ·split at hm
  ·simp at hm
  ·rw [List.mem_filterMap] at hm;obtain ⟨w,hw,he⟩:=hm;obtain ⟨G,V,ah,_⟩:=aln hw;exact ⟨G,w,ah,V,he⟩
theorem al_ (x):A.le (VI AA.sh xY.sh x) (HE.sh x):=A.bx λh=>by
 obtain ⟨c,n⟩:=x;change gL c at h;unfold VI;rw [show AA.sh (c,n,λm=>xY.sh (m,some c))=A.pure (ua ((lp c n).1.map λm=>(xY.sh (m,some c)).val 0),(lp c n).2) from A.bU ⟨h,λw hw m hc hm=>⟨_,Xz (oN hc) (vF hw) hm⟩⟩ _];simp only [A.aJ];show _=A.pure (HD c n);unfold HD;have:((lp c n).1.map λm=>(xY.sh (m,some c)).val 0)=(lp c n).1.map λm=>lo c.2.2.2.2 m:=by
  refine List.map_congr_left λm hm=>?_;obtain ⟨hc,w,hw,_,he⟩:=al9 hm;rw [Xz (oN hc) hw he,A.fE]
 rw [this]
abbrev Oq:aO:=⟨.aA (.bI su) (.bI bu),de,λx=>∃ k:Int,x.2=some k/\True,λx=>b3 (x.2.getD 0) 0 99⟩
theorem al' (x):A.le (V1 vp.sh x) (Oq.sh x):=A.bx λ_=>by
 unfold V1;rw [show vp.sh (x.2.getD 0)=A.pure (b3 (x.2.getD 0) 0 99) from rfl,A.aJ]
abbrev Ot:aO:=⟨.aA (.bI xM) (.aA (.bI (.bI su)) (.aA (.bI bu) (.bI jr))),.aA bu .bool,λx=>∃ (t:dQ) (b:d') (n:Int) (c:a6),x=(some t,some (some b),some n,some c)/\DV b.1 t.2/\(pE b.1 t.2).length<=1000/\∀ p∈pE b.1 t.2,xT (c.2.2.2.2,p.2),λx=>(((pE ((x.2.1.getD none).getD (ud,[],[])).1 (x.1.getD ([],[])).2).map (uf (x.2.2.2.getD ud) (x.2.2.1.getD 0))).sum,true)⟩
theorem Ou {c:a6} {n:Int}:∀ (L:List bz) (a:Int),(∀ p∈L,xT (c.2.2.2.2,p.2))->0<=a->a+100000*(L.length:Int)<=1000000000->
  jK (λ(D:Int×a6×Int×Unit) (y:bb×Int)=>A.bind (if decide (y.1.2.2.2.2.2=D.1)=true then A.ae (vy.sh (D.2.1.2.2.2.2,y.2)).cr (A.pure (dd.normal,IntKind.wrap
 .i64 (Add.add D.2.2.1 (A.val (vy.sh (D.2.1.2.2.2.2,y.2)) 0)),())) else A.pure (dd.normal,D.2.2.1,())) λp=>A.pure (p.1,D.1,D.2.1,p.2.1,())) L (n,c,a,())=A.pure (dd.normal,n,c,a+(L.map (uf c n)).sum,())
 | [],a,_,_,_=>by simp [jK]
 | p::L,a,h,aY,G=>by
  unfold jK;simp only [List.length_cons] at G;by_cases ar:p.1.2.2.2.2.2=n
  ·have aa:=ak' (h p (by simp));have af:vy.sh (c.2.2.2.2,p.2)=A.pure (lo c.2.2.2.2 p.2):=A.bU (h p (by simp)) _;have hw:=bG (n:=a+lo c.2.2.2.2 p.2) (by omega) (by omega);have aM:=Ou (c:=c) (n:=n) L (a+lo c.2.2.2.2 p.2) (λq br=>h q (by simp [br])) (by omega) (by omega);simp only [ar,decide_true,if_true,af,A.jc,A.fE,A.bw,ct,hw,A.aJ];simp only [ct] at aM;rw [aM,List.map_cons,List.sum_cons];rw [show uf c n p=lo c.2.2.2.2 p.2 from if_pos ar];rw [Int.add_assoc]
  ·have aM:=Ou (c:=c) (n:=n) L a (λq br=>h q (by simp [br])) aY (by omega);simp only [ar,decide_false,Bool.false_eq_true,if_false,A.aJ];rw [aM,List.map_cons,List.sum_cons];rw [show uf c n p=0 from if_neg ar,Int.zero_add]
theorem ama (x):A.le (V3 vy.sh Av.sh x) (Ot.sh x):=A.sn λh=>by
 obtain ⟨t,b,n,c,rfl,G,V,ah⟩:=h;unfold V3;simp only [Option.getD_some];rw [show Av.sh (some b,some t)=A.pure (sI (some (some t),some (some b))) from rfl,A.aJ,A.fT];refine ⟨⟨_,t,b,rfl,rfl,G,rfl⟩,λL iG=>?_⟩;obtain ⟨cU,bf,aF,bB,_,rfl⟩:=iG;cases aF;cases bB;rw [Ou _ 0 ah (by omega) (by omega)];show A.cv _ λy=>y=(((pE b.1 t.2).map (uf c n)).sum,true)
 simp only [A.aJ,r7,Int.zero_add];exact A.ea.2 rfl
theorem XA (cl:z4'):∀ l:List bz,(dt cl l).length<=l.length
 | []=>by simp [dt]
 | [_]=>by simp [dt]
 | a::b::r=>by unfold dt;simp only [List.length_cons];have:=XA cl r;omega
theorem amb {c:a6} (aC:gT c) (w:z1'):(nb c w).length<=1000:=by
 rw [HL];have:=N5 (λu=>dt c.2.2.2.1 (b6 c w u)) 12 (et 0 9) λu _=>Nat.le_trans (XA _ _) (DL aC w u);rw [show (et 0 9).length=10 from by decide] at this;omega
theorem amc {c:a6} (aC:gT c) {w:z1'} (hw:iL c w=true) {p:bz} (ar:p∈nb c w):xT (c.2.2.2.2,p.2):=by
 have hex:((nb c w).find? λq=>q.1.1 == p.1.1).isSome=true:=List.find?_isSome.2 ⟨p,ar,by simp⟩;obtain ⟨q,br⟩:=Option.isSome_iff_exists.1 hex;have DW:q.1.1=p.1.1:=by have:=List.find?_some br;simpa using this
 have vD:=List.mem_of_find?_eq_some br;have:q=p:=Aw (Oj c w) vD ar (Oh (Ax vD) (Ax ar) DW);have af:jS c w p.1.1=some p.2:=by rw [Of hw,br,this];rfl
 have:=Xa aC (DP aC.N0 hw) af;exact ⟨aC.N1,show -100000<=p.2 by omega,show p.2<=20000 by omega⟩
theorem amd (x):A.le (VL vA.sh Au.sh Oq.sh Ot.sh x) (HG.sh x):=A.bx λh=>by
 obtain ⟨c,g⟩:=x;change gL c at h;unfold VL;show _=A.pure (HF c g);unfold HF;rw [DX (b:=b3 g 0 99) h λhc=>A.bU ⟨g,rfl,trivial⟩ _];rcases Ay c (b3 g 0 99) with ⟨G,V,ah⟩ | ⟨G,V,ah,a7⟩
 ·rw [V,ah];simp only [A.aJ,List.map_nil,Xv];rw [if_pos (by simpa using G)]
 ·rw [G,a7];simp only [A.aJ];rw [if_neg (by simp)];have aC:=oN V;rw [Om (v:=λw=>(Hy c w g,true)) (DY h V) λw hw=>?_,A.aJ,Xw]
  ·rfl
  ·have aL:=vF hw;refine (A.bU ⟨(w,m' c w),ue c,g,c,rfl,Xp aC aL,amb aC w,λp ar=>amc aC aL ar⟩ _).trans (congrArg A.pure ?_);show (((nb c w).map (uf c g)).sum,true)=_;rw [alZ aL]
end Go.Fer.H
namespace Go.Fer.H
open A (W)
set_option linter.unusedVariables false
set_option linter.unusedSimpArgs false
def mu (t:Int):List bz->bz×Bool->bz×Bool
 | [],b=>b
 | e::l,b=>mu t l (if e.2<=t then (e,decide (ei e.1=1)) else b)
def gV (l:List bz) (t:Int):bz×Bool:=mu t l (cX,false)
theorem XB {t:Int} {e:bz} {l:List bz} {b:bz×Bool} (h:e.2<=t):mu t (e::l) b=mu t l (e,decide (ei e.1=1)):=by rw [mu,if_pos h]
theorem XC {t:Int} {e:bz} {l:List bz} {b:bz×Bool} (h:¬e.2<=t):mu t (e::l) b=mu t l b:=by rw [mu,if_neg h]
theorem XD (t:Int):∀ (l:List bz) (b:bz×Bool),l.foldl (λb e=>if e.2<=t then (e,decide (ei e.1=1)) else b) b=mu t l b
 | [],_=>rfl
 | e::l,b=>XD t l _
theorem ame (l:List bz) (t:Int) (h:∀ e∈l,ei e.1=1\/ei e.1=2):mZ l t=(if (gV l t).2=true then iJ (gV l t).1.1 else -1,(gV l t).1.2):=by
 have key:∀ (l:List bz) (b:bz×Bool),(∀ e∈l,ei e.1=1\/ei e.1=2)->l.foldl (λb e=>if e.2<=t then (if ei e.1=2 then (-1,e.2) else (iJ e.1,e.2)) else b) (if b.2=true then iJ b.1.1 else -1,b.1.2)=(if (mu t l b).2=true then iJ (mu t l b).1.1 else -1,(mu t l b).1.2):=by
  intro l;induction l with
  | nil=>intro b _;rfl
  | cons e l aM=>
   intro b h;rw [List.foldl_cons];by_cases he:e.2<=t
   ·rw [XB he,<-aM (e,decide (ei e.1=1)) λx aj=>h x (by grind),if_pos he];grind
   ·rw [XC he,if_neg he];grind
 exact key l (cX,false) h
theorem XE (l:List bz) (t:Int):gV l t=(cX,false)\/((gV l t).1∈l/\(gV l t).1.2<=t/\(gV l t).2=decide (ei (gV l t).1.1=1)):=by
 have key:∀ (l:List bz) (b:bz×Bool),mu t l b=b\/((mu t l b).1∈l/\(mu t l b).1.2<=t/\(mu t l b).2=decide (ei (mu t l b).1.1=1)):=by
  intro l;induction l with
  | nil=>intro b;exact .inl rfl
  | cons e l aM=>
   intro b;by_cases he:e.2<=t
   ·rw [XB he];grind
   ·rw [XC he];grind
 exact key l (cX,false)
abbrev Ov (t:dQ):Prop:=t.2.length=10/\∀ l∈t.2,l.length<=12
abbrev xZ:aO:=⟨.aA (.bI xM) (.aA bu bu),.aA Hj .bool,λx=>∃ t:dQ,x.1=some t/\Ov t/\0<=x.2.1/\x.2.1<=9,λx=>gV ((x.1.getD ([],[])).2.getD x.2.1.toNat []) x.2.2⟩
theorem amf (x):A.le (VT x) (xZ.sh x):=A.bx λh=>by
 obtain ⟨o,u,m⟩:=x;obtain ⟨t,G,⟨V,ah⟩,a7,bM⟩:=h;change o=some t at G;change 0<=u at a7;change u<=9 at bM;subst G;unfold VT;show _=A.pure (gV (t.2.getD u.toNat []) m);simp only [Option.isSome_some,A.bw,Option.getD_some];rw [A.bH (show (0:Int)<=u/\u<Int.ofNat 10 by grind)];have hm:t.2.getD u.toNat []∈t.2:=xF a7 (by omega);have ak:=ah _ hm;generalize t.2.getD u.toNat []=l at *
 rw [A.dK l (λi (b:bz×Bool)=>(m,b.2,l,(l.length:Int),(i:Int),cX,b.1,())) (λe b=>.next (if e.2<=m then (e,decide (ei e.1=1)) else b)) (λb=>.next (b.2,cX,b.1,())) (cX,false) ?_ ?_ ?_]
 ·rw [er,A.aJ,XD];rfl
 ·rfl
 ·intro i M b;have hw:=bG (n:=(i:Int)+1) (by omega) (by omega);simp only [Prod.c8,Prod.fp,bZ,cY M,if_true,dm M,cJ M,A.bw,ct,hw,W.hj,decide_eq_true_eq];by_cases he:l[i].2<=m
  ·simp_all
  ·simp only [he,if_false,A.aJ,A.b2,hw];rfl
 simp
theorem XF (c:a6) (w:z1') {u:Int} (aY:0<=u) (h:u<=9):(m' c w).getD u.toNat []=b6 c w u:=by
 have hu:u=0\/u=1\/u=2\/u=3\/u=4\/u=5\/u=6\/u=7\/u=8\/u=9:=by omega
 rcases hu with rfl | rfl | rfl | rfl | rfl | rfl | rfl | rfl | rfl | rfl<;>rfl
theorem XG {c:a6} (aC:gT c) (w:z1'):Ov (w,m' c w):=by
 refine ⟨rfl,λl ak=>?_⟩;simp only [m',List.mem_cons,List.not_mem_nil,or_false] at ak;rcases ak with rfl | rfl | rfl | rfl | rfl | rfl | rfl | rfl | rfl | rfl<;>exact DL aC w _
theorem XH {c:a6} (aC:gT c) (w:z1') {u t:Int} (aY:0<=u) (h:u<=9):xZ.sh (ir c w,u,t)=A.pure (gV (b6 c w u) t):=by
 refine (A.bU ⟨_,rfl,XG aC w,aY,h⟩ _).trans (congrArg A.pure ?_);show gV ((m' c w).getD u.toNat []) t=_;rw [XF c w aY h]
theorem amg {c:a6} (aC:gT c) {w:z1'} {u:Int} {e:bz} (he:e∈b6 c w u):ei e.1=1\/ei e.1=2/\iJ e.1=0:=(Am.1 (aC.An (DM he).1)).2.2.2.2.2
theorem Ow {c:a6} (aC:gT c) {w:z1'} {u:Int} {e:bz} (he:e∈b6 c w u):0<=iJ e.1/\iJ e.1<=99:=(Am.1 (aC.An (DM he).1)).2.2.2.2.1
theorem HM {c:a6} (aC:gT c) {w:z1'} (hw:iL c w=true) {u:Int} (hu:0<=u/\u<=9) (t:Int):mZ (gU c w u) t=(if (gV (b6 c w u) t).2=true then iJ (gV (b6 c w u) t).1.1 else -1,(gV (b6 c w u) t).1.2)/\(decide ((mZ (gU c w u) t).1>=0)=(gV (b6 c w u) t).2):=by
 have e:=ame (b6 c w u) t λe he=>(amg aC he).imp id And.left;rw [Oe hw hu];refine ⟨e,?_⟩;rw [e];cases aa:(gV (b6 c w u) t).2 with
 | false=>simp
 | true=>
  simp only [if_true,decide_eq_true_eq];rcases XE (b6 c w u) t with h | ⟨h,_⟩
  ·grind
  ·exact (Ow aC h).1
abbrev AB:aO:=⟨.aA (.bI su) (.bI bu),de,λx=>∃ k:Int,x.2=some k/\True,λx=>b3 (x.2.getD 0) 0 9999⟩
theorem XI (x):A.le (VY xP.sh x) (AB.sh x):=A.bx λ_=>by
 unfold VY;rw [show xP.sh (x.2.getD 0)=A.pure (b3 (x.2.getD 0) 0 9999) from rfl,A.aJ]
theorem amh (x):A.le (ajV xP.sh x) (AB.sh x):=XI x
def DZ (t:dQ) (m p:Int):Int:=(et 0 9).foldl (λn u=>if (gV (t.2.getD u.toNat []) m).2=true then n+p else n) 0
abbrev Ox:aO:=⟨.aA (.bI xM) (.aA (.bI bu) (.bI jr)),.aA bu .bool,λx=>∃ (t:dQ) (m:Int) (c:a6),x=(some t,some m,some c)/\Ov t/\0<=c.2.2.2.2.2.2.2.2.2.2/\c.2.2.2.2.2.2.2.2.2.2<=100000,λx=>(DZ (x.1.getD ([],[])) (x.2.1.getD 0) (x.2.2.getD ud).2.2.2.2.2.2.2.2.2.2,true)⟩
theorem ami (x):A.le (V0 xZ.sh x) (Ox.sh x):=A.bx λh=>by
 obtain ⟨t,m,c,rfl,G,V,ah⟩:=h;unfold V0;simp only [Option.getD_some];show _=A.pure (DZ t m c.2.2.2.2.2.2.2.2.2.2,true);rw [A.gA (et 0 9) (λi (n:Int)=>(some t,m,c,n,(i:Int),())) (λu n=>.next (if (gV (t.2.getD u.toNat []) m).2=true then n+c.2.2.2.2.2.2.2.2.2.2 else n)) (λn=>.next (n,())) (λi n=>0<=n/\n<=100000*(i:Int)) 0 ?_ ?_ ?_ ?_]
 ·rw [er,A.aJ];rfl
 ·rfl
 ·omega
 ·intro i M n aD;have M:i<10:=by simpa [et] using M
  have hw:=bG (n:=(i:Int)+1) (by omega) (by omega);have gR:=bG (n:=n+c.2.2.2.2.2.2.2.2.2.2) (by omega) (by omega);have ay:decide ((i:Int)<10)=true:=by grind
  refine ⟨?_,λbf dh=>?_⟩
  ·simp only [ay,if_true,Dj,Int.zero_add];rw [show xZ.sh (some t,(i:Int),m)=A.pure (gV (t.2.getD ((i:Int)).toNat []) m) from A.bU ⟨t,rfl,G,by simp,by grind⟩ _];simp only [A.aJ,ct,hw,gR,W.hj];by_cases ao:(gV (t.2.getD ((i:Int)).toNat []) m).2=true
   ·simp only [ao,if_true,A.aJ,A.b2,hw];rfl
   ·simp only [ao,Bool.false_eq_true,if_false,A.aJ,A.b2,hw];rfl
  grind
 ·intro n aD;have:(et 0 9).length=10:=by decide
  simp [this]
theorem amj {c:a6} (aC:gT c) {w:z1'} (hw:iL c w=true) (m:Int):DZ (w,m' c w) m c.2.2.2.2.2.2.2.2.2.2=Hx c w m*c.2.2.2.2.2.2.2.2.2.2:=by
 unfold DZ Hx;have key:∀ (L:z1') (n:Int),(∀ u∈L,0<=u/\u<=9)->L.foldl (λn u=>if (gV ((m' c w).getD u.toNat []) m).2=true then n+c.2.2.2.2.2.2.2.2.2.2 else n) (n*c.2.2.2.2.2.2.2.2.2.2)=(L.foldl (λn u=>if (mZ (gU c w u) m).1>=0 then n+1 else n) n)*c.2.2.2.2.2.2.2.2.2.2:=by
  intro L;induction L with
  | nil=>simp
  | cons u L aM=>
   intro n h;have hu:=h u (by simp);obtain ⟨_,V⟩:=HM aC hw hu m;simp only [List.foldl_cons];rw [XF c w hu.1 hu.2];grind
 have:=key (et 0 9) 0 λu hu=>so.1 hu;grind
theorem amk (x):A.le (VK vA.sh Au.sh AB.sh Ox.sh x) (HI.sh x):=A.bx λh=>by
 obtain ⟨c,t⟩:=x;change gL c at h;unfold VK;show _=A.pure (HH c t);unfold HH;rw [DX (b:=b3 t 0 9999) h λhc=>A.bU ⟨t,rfl,trivial⟩ _];rcases Ay c (b3 t 0 9999) with ⟨G,V,ah⟩ | ⟨G,V,ah,a7⟩
 ·rw [V,ah];simp only [A.aJ,List.map_nil,Xv];grind
 ·rw [G,a7];simp only [A.aJ];rw [if_neg (by simp)];have aC:=oN V;have ar:=(Hw.1 aC.N1).2.2.2.2.2.2;rw [Om (v:=λw=>(Hx c w t*c.2.2.2.2.2.2.2.2.2.2,true)) (DY h V) λw hw=>?_,A.aJ,Xw]
  ·rfl
  ·refine (A.bU ⟨(w,m' c w),t,c,rfl,XG aC w,ar.1,ar.2⟩ _).trans (congrArg A.pure ?_);show (DZ (w,m' c w) t c.2.2.2.2.2.2.2.2.2.2,true)=_;rw [amj aC (vF hw)]
end Go.Fer.H
namespace Go.Fer.H
open A (W)
set_option linter.unusedVariables false
set_option linter.unusedSimpArgs false
theorem XJ (p:Int×Int) (m:z4') (k v:Int):e9 (p::m) k v=if decide (k=p.1)=true then (p.1,v)::m else p::e9 m k v:=rfl
theorem Oy (k v:Int):∀ m:z4',((m.map (·.1)).Nodup->((e9 m k v).map (·.1)).Nodup)/\∀ x,x∈(e9 m k v).map (·.1)<->x∈m.map (·.1)\/x=k
 | []=>by
  rw [show e9 [] k v=[(k,v)] from rfl];simp
 | p::m=>by
  obtain ⟨G,V⟩:=Oy k v m;rw [XJ];grind
theorem XK (k v:Int) {B:Int}:∀ m:z4',(∀ p∈m,0<=p.2/\p.2<=B)->0<=v/\v<=B->∀ p∈e9 m k v,0<=p.2/\p.2<=B
 | [],_,af,p,ar=>by
  rw [show e9 [] k v=[(k,v)] from rfl,List.mem_singleton] at ar;grind
 | q::m,h,af,p,ar=>by
  rw [XJ] at ar;split at ar
  ·grind
  ·rcases List.mem_cons.1 ar with rfl | ar
   ·grind
   ·exact XK k v m (λx aj=>h x (by grind)) af p ar
def lq (c:a6) (w:z1') (u t:Int):Int:=if (gV (b6 c w u) t).2=true then iJ (gV (b6 c w u) t).1.1 else -1
def x0 (m:z4') (k:Int):Int:=Option.getD (Option.map (λx=>x.2) (List.find? (λp=>decide (k=p.1)) m)) 0
structure AD (L:z1') (i:Nat) (m:z4'):Prop where
 mj:(m.map (·.1)).Nodup
 mem:∀ x,x∈m.map (·.1)<->x∈L
 val:∀ p∈m,0<=p.2/\p.2<=(i:Int)
theorem AD.add {L:z1'} {i:Nat} {m:z4'} (h:AD L i m) (k:Int) (M:i<=60):IntKind.wrap .i64 (x0 m k+1)=x0 m k+1/\AD (L++[k]) (i+1) (e9 m k (x0 m k+1)):=by
 have aa:0<=x0 m k/\x0 m k<=(i:Int):=by
  unfold x0;cases aw:m.find? λp=>decide (k=p.1) with
  | none=>simp
  | some p=>exact h.val p (List.mem_of_find?_eq_some aw)
 refine ⟨bG (by omega) (by omega),(Oy _ _ _).1 h.mj,λx=>?_,XK _ _ _ (λp ar=>by have:=h.val p ar;omega) (by omega)⟩;rw [(Oy _ _ _).2,h.mem];simp
theorem aml {c:a6} (aC:gT c) {w:z1'} (hw:iL c w=true) {u:Int} (hu:0<=u/\u<=9):((b6 c w u).filter λe=>ei e.1 == 1).length<=11:=by
 have ak:=DL aC w u;by_cases axb:(b6 c w u).length=12
 ·have G:=(Od (Hz hw hu) (by omega:1<(b6 c w u).length)).1;have G:ei (b6 c w u)[1].1=2:=G;have hm:=List.getElem_mem (by omega:1<(b6 c w u).length);have:((b6 c w u).filter λe=>ei e.1 == 1).length<(b6 c w u).length:=by
   refine List.length_filter_lt_length_iff_exists.2 ⟨_,hm,by grind⟩
  omega
 grind
theorem amm (c:a6) (w w':z1') (u:Int):(((b6 c w u).filter λe=>ei e.1 == 1).map (·.1)).Perm (((b6 c w' u).filter λe=>ei e.1 == 1).map (·.1)):=by
 have e:∀ w,((b6 c w u).filter λe=>ei e.1 == 1).map (·.1)=((b6 c w u).map (·.1)).filter λs=>ei s == 1:=λw=>by rw [List.filter_map];rfl
 rw [e,e];exact ((Oi c w u).trans (Oi c w' u).symm).filter _
theorem Oz (c:a6) (w:z1') (u t:Int):lq c w u t=-1\/∃ s∈((b6 c w u).filter λe=>ei e.1 == 1).map (·.1),lq c w u t=iJ s:=by
 unfold lq;rcases XE (b6 c w u) t with h | ⟨G,V,ah⟩
 ·left;rw [h];rfl
 ·by_cases aa:(gV (b6 c w u) t).2=true
  ·right;rw [if_pos aa];rw [ah] at aa;exact ⟨_,List.mem_map.2 ⟨_,List.mem_filter.2 ⟨G,by simpa using aa⟩,rfl⟩,rfl⟩
  ·left;rw [if_neg aa]
theorem amn {c:a6} (aC:gT c) {u t:Int} (hu:0<=u/\u<=9) {K:z1'} (aD:K.Nodup) (iF:∀ x∈K,x∈(cM c).map λw=>lq c w u t):K.length<=12:=by
 cases aV:cM c with
 | nil=>
  rw [aV] at iF;cases K with
  | nil=>simp
  | cons x K=>have:=iF x (by simp);grind
 | cons w0 T=>
  have zP:iL c w0=true:=vF (by grind);have qW:K ⊆ -1::(((b6 c w0 u).filter λe=>ei e.1 == 1).map (·.1)).map iJ:=by
   intro x aj;obtain ⟨w,hw,rfl⟩:=List.mem_map.1 (iF x aj);rcases Oz c w u t with h | ⟨s,aG,h⟩
   ·grind
   ·rw [h];exact List.mem_cons_of_mem _ (List.mem_map_of_mem ((amm c w w0 u).mem_iff.1 aG))
  have:=aD.length_le_of_subset qW;have axc:=aml aC zP hu;grind
abbrev OA:aO:=⟨.aA (.bI su) (.aA (.bI bu) (.bI bu)),de,λx=>∃ a b:Int,x.2=(some a,some b),λx=>vz (x.2.1.getD 0) (x.2.2.getD 0)⟩
theorem amo (x):A.le (VR cp.sh xP.sh x) (OA.sh x):=A.bx λ_=>by
 unfold VR;rw [alo,A.aJ,show xP.sh (x.2.2.getD 0)=A.pure (b3 (x.2.2.getD 0) 0 9999) from rfl,A.kO,A.aJ,vj];rfl
theorem XL {c:a6} (aC:gT c) {w:z1'} (hw:iL c w=true) {u:Int} (hu:0<=u/\u<=9) (t:Int):(mZ (gU c w u) t).1=lq c w u t:=by rw [(HM aC hw hu t).1];rfl
theorem amp (x):A.le (VH vA.sh xZ.sh sx.sh Hr.sh OA.sh x) (HJ.sh x):=A.sn λh=>by
 obtain ⟨c,u,t⟩:=x;change gL c at h;unfold VH;show A.cv _ λy=>y=rp c u t;unfold rp N8;rw [DX (b:=vz u t) h λhc=>A.bU ⟨u,t,rfl⟩ _];rcases Ay c (vz u t) with ⟨G,V,ah⟩ | ⟨G,V,ah,a7⟩
 ·rw [V,ah];simp only [A.aJ];rw [if_pos (by grind)];refine A.ea.2 ?_;simp
 ·rw [G,a7];simp only [A.aJ];rw [if_neg (by simp)];have aC:=oN V;have cH:(0<=u/\u<=9)/\0<=t/\t<=9999:=by
   unfold vz at ah;rw [Bool.and_eq_true,oJ,oJ] at ah;exact ah
  have hu:=cH.1;have hlen:=DY h V;simp only [Option.isSome_some,A.bw,Option.getD_some];show A.cv (A.bind (A.loop _ ((cM c).map (ir c),_,0,u,t,[],())) _) _;rw [A.fT];refine (A.Bn (p:=λz=>∃ m,z=.next (m,())/\AD ((cM c).map λw=>lq c w u t) 60 m) (λD=>∃ (i:Nat) (m:z4'),i<=(cM c).length/\D=((cM c).map (ir c),(((cM c).map (ir c)).length:Int),(i:Int),u,t,m,())/\AD (((cM c).take i).map λw=>lq c w u t) i m) (λD=>((cM c).length - D.2.2.1).toNat) ?_ _ ⟨0,[],Nat.zero_le _,rfl,⟨.nil,by simp,by simp⟩⟩).mono ?_
  ·rintro D ⟨i,m,om,rfl,bo⟩;by_cases M:i<(cM c).length
   ·have dt:i<((cM c).map (ir c)).length:=by grind
    have hw:=bG (n:=(i:Int)+1) (by omega) (by omega);have hm:=List.getElem_mem M;obtain ⟨ca,a2⟩:=bo.add (lq c (cM c)[i] u t) (by omega);have pB:((cM c).take (i+1)).map (λw=>lq c w u t)=((cM c).take i).map (λw=>lq c w u t)++[lq c (cM c)[i] u t]:=by
     rw [List.take_add_one,List.getElem?_eq_getElem M,Option.toList_some,List.map_append];rfl
    simp only [Prod.c8,bZ,cY dt,if_true,dm dt,cJ dt,A.bw,List.getElem_map];rw [XH aC _ hu.1 hu.2,A.aJ];have fin:∀ k,k=lq c (cM c)[i] u t->(∃ (k5:Nat) (dw:z4'),k5<=(cM c).length/\(((cM c).map (ir c),(((cM c).map (ir c)).length:Int),IntKind.wrap .i64 ((i:Int)+1),u,t,e9 m k (IntKind.wrap .i64 (x0 m k+1)),()):List (Option dQ)×Int×Int×Int×Int×z4'×Unit)=((cM c).map (ir c),(((cM c).map (ir c)).length:Int),(k5:Int),u,t,dw,())/\AD (((cM c).take k5).map λw=>lq c w u t) k5 dw)/\((cM c).length - IntKind.wrap .i64 ((i:Int)+1)).toNat<((cM c).length - (i:Int)).toNat:=by
     grind
    cases aa:(gV (b6 c (cM c)[i] u) t).2 with
    | true=>
     simp only [if_true];rw [A.aJ,A.b2];exact A.ea.2 (fin _ (by unfold lq;grind))
    | false=>
     simp only [Bool.false_eq_true,if_false];rw [A.aJ,A.b2];exact A.ea.2 (fin (-1) (by unfold lq;grind))
   ·have amq:i=(cM c).length:=by omega
    subst amq;have ay:decide (((cM c).length:Int)<(((cM c).map (ir c)).length:Int))=false:=by simp
    simp only [ay,Bool.false_eq_true,if_false,A.aJ];refine A.ea.2 ⟨m,rfl,bo.mj,?_,λp ar=>by have:=bo.val p ar;omega⟩;have:=bo.mem;grind
  ·rintro z ⟨m,rfl,bo⟩;rw [A.b2];rw [show Hr.sh m=A.pure (jQ (some m)) from rfl,A.aJ];have amr:m.length<=12:=by
    have:=amn aC hu (t:=t) bo.mj λx aj=>(bo.mem x).1 aj;grind
   rw [show sx.sh (jQ (some m))=A.pure (fq ho (m.map (·.1))) from (A.bU (WO (by omega)) _).trans (congrArg A.pure WQ),A.aJ];refine A.ea.2 ?_;have aF:fq ho (m.map (·.1))=(et (-1) 99).filter λg=>((cM c).map λw=>(mZ (gU c w u) t).1).contains g:=by
    have ams:((cM c).map λw=>(mZ (gU c w u) t).1)=(cM c).map λw=>lq c w u t:=List.map_congr_left λw hw=>XL aC (vF hw) hu t;rw [ams];have M:(et (-1) 99).Pairwise (·<·):=by
     unfold et;rw [List.pairwise_map];exact (List.pairwise_lt_range).imp λh=>by omega
    refine Ab ((M.filter _).imp λh=>Int.le_of_lt h) ((List.perm_ext_iff_of_nodup bo.mj ((M.filter _).imp λh=>by omega)).2 λk=>?_);rw [bo.mem,List.mem_filter,so];simp only [List.contains_iff_mem];refine ⟨λao=>⟨?_,ao⟩,λao=>ao.2⟩;obtain ⟨w,hw,rfl⟩:=List.mem_map.1 ao;rcases Oz c w u t with h | ⟨s,aG,h⟩
    ·omega
    ·rw [h];obtain ⟨e,he,rfl⟩:=List.mem_map.1 aG;have:=Ow aC (List.mem_filter.1 he).1;omega
   rw [aF]
def OB (c:a6) (l:List bz) (t:Int):Bool:=(gV l t).2&&decide (lY c.2.2.2.1 (gV l t).1.2 t>=c.2.2.2.2.2.2.2.2.1)
theorem amt {c:a6} (aC:gT c) {w:z1'} (hw:iL c w=true) {u:Int} (hu:0<=u/\u<=9) (t:Int):OB c (b6 c w u) t=DQ c w u t:=by
 obtain ⟨G,V⟩:=HM aC hw hu t;unfold OB DQ;grind
theorem amu (x):A.le (VP vA.sh xZ.sh vx.sh AB.sh x) (HK.sh x):=A.bx λh=>by
 obtain ⟨c,t⟩:=x;change gL c at h;unfold VP;show _=A.pure (sE c t);unfold sE;rw [DX (b:=b3 t 0 9999) h λhc=>A.bU ⟨t,rfl,trivial⟩ _];rcases Ay c (b3 t 0 9999) with ⟨G,V,ah⟩ | ⟨G,V,ah,a7⟩
 ·rw [ah];simp only [A.aJ];grind
 ·rw [G,a7];simp only [A.aJ];rw [if_neg (by simp),if_neg (by simp)];have aC:=oN V;have aL:=oJ.1 ah;have hlen:=DY h V;have aV:∀ w∈cM c,iL c w=true:=λw hw=>vF hw;rw [A.gA (et 0 9) (λi (b:z1'×z1')=>(some (ue c),(i:Int),c,t,b.1,b.2,())) (λu b=>.next (if decide (oO c (cM c) u t=(cM c).length)=true then b.1++[u] else b.1,if decide (oO c (cM c) u t > 0)=true then b.2++[u] else b.2)) (λb=>.next (b.1,b.2,())) (λi b=>b.1.length<=i/\b.2.length<=i) ([],[]) ?_ (by simp) ?_ ?_]
  ·rw [er,A.aJ,A.b2];have key:∀ (p q:Int->Bool) (l:z1') (a b:z1'),l.foldl (λ(z:z1'×z1') u=>(if p u=true then z.1++[u] else z.1,if q u=true then z.2++[u] else z.2)) (a,b)=(a++l.filter p,b++l.filter q):=by
    intro p q l;induction l with
    | nil=>simp
    | cons u l aM=>
     intro a b;simp only [List.foldl_cons];rw [aM];cases ar:p u<;>cases br:q u<;>simp [ar,br]
   rw [key (λu=>decide (oO c (cM c) u t=(cM c).length)) (λu=>decide (oO c (cM c) u t > 0))];simp
  ·rfl
  ·intro i M b iz;have M:i<10:=by simpa [et] using M
   have hw:=bG (n:=(i:Int)+1) (by omega) (by omega);have ay:decide ((i:Int)<10)=true:=by grind
   refine ⟨?_,λbf dh=>?_⟩
   ·simp only [ay,if_true,Dj,Int.zero_add,Prod.c8,Option.isSome_some,A.bw,Option.getD_some];rw [A.gA (cM c) (λk (n:Nat)=>(some (ue c),(i:Int),(n:Int),(i:Int),(cM c).map (ir c),(((cM c).map (ir c)).length:Int),(k:Int),c,t,b.1,b.2,())) (λw n=>.next (if DQ c w i t=true then n+1 else n)) (λn=>.next (some (ue c),(i:Int),(n:Int),(i:Int),c,t,b.1,b.2,())) (λk n=>n<=k) 0 ?_ (by simp) ?_ ?_]
    ·rw [er];have key:∀ (l:List (z1')) (n:Nat),l.foldl (λn w=>if DQ c w i t=true then n+1 else n) n=n+oO c l i t:=by
      intro l;induction l with
      | nil=>intro n;rfl
      | cons w l aM=>
       intro n;simp only [List.foldl_cons];rw [aM];unfold oO;grind
     rw [key,Nat.zero_add,A.aJ,A.b2];have Bj:((cM c).map (ir c)).length=(cM c).length:=List.length_map _;simp only [Prod.c8,Prod.fp,Prod.gJ,bZ,Option.isSome_some,A.bw,Option.getD_some,Bj];have e_:cn (Add.add b.1.length (Add.add 0 1)):=hV (by grind);have pU:cn (Add.add b.2.length (Add.add 0 1)):=hV (by grind);have d1:decide ((oO c (cM c) i t:Int) > 0)=decide (oO c (cM c) i t > 0):=by simp
     have d2:decide ((oO c (cM c) i t:Int)=((cM c).length:Int))=decide (oO c (cM c) i t=(cM c).length):=by grind
     rw [d1];cases G:decide (oO c (cM c) i t > 0)<;>cases V:decide (oO c (cM c) i t=(cM c).length)<;>
      simp only [if_true,Bool.false_eq_true,if_false,A.bH e_,A.bH pU,A.aJ,A.b2,Option.isSome_some,A.bw,Option.getD_some,Bj,d2,V,ct,hw,W.hj]<;>rfl
    ·rfl
    ·intro k ao n aD;have vu:k<((cM c).map (ir c)).length:=by grind
     have hw:=bG (n:=(k:Int)+1) (by omega) (by omega);have gR:=bG (n:=(n:Int)+1) (by omega) (by omega);have kK:=aV _ (List.getElem_mem ao);have mv:=DP V kK;have hu:0<=(i:Int)/\(i:Int)<=9:=by omega
     have tv:=amt aC kK hu t;obtain ⟨cj,c6⟩:=HM aC kK hu t;refine ⟨?_,λbf dh=>?_⟩
     ·simp only [Prod.c8,Prod.fp,Prod.gJ,Prod.iq,Prod.jP,Prod.kS,bZ,cY vu,if_true,dm vu,cJ vu,A.bw,ct,hw,List.getElem_map];rw [XH aC _ hu.1 hu.2,A.aJ,<-tv];unfold OB;cases aa:(gV (b6 c (cM c)[k] (i:Int)) t).2 with
      | true=>
       have BS:Ao (c,(gV (b6 c (cM c)[k] (i:Int)) t).1.2,t):=by
        have:=alp aC mv aL.2 (u:=(i:Int)) (t:=t) (by grind);grind
       have amv:vx.sh (c,(gV (b6 c (cM c)[k] (i:Int)) t).1.2,t)=A.pure (lY c.2.2.2.1 (gV (b6 c (cM c)[k] (i:Int)) t).1.2 t):=A.bU BS _;simp only [amv,A.jc,A.fE,Bool.true_and,and_self,forall_const,A.bw,true_and];by_cases hm:lY c.2.2.2.1 (gV (b6 c (cM c)[k] (i:Int)) t).1.2 t>=c.2.2.2.2.2.2.2.2.1
       ·simp_all
       ·simp only [hm,decide_false,Bool.false_eq_true,if_false,A.aJ,A.b2,hw,W.hj];rfl
      | false=>
       simp_all
     grind
    simp
   grind
  ·intro b iz;rfl
end Go.Fer.H
namespace Go.Fer.H
open A (W)
set_option linter.unusedVariables false
def XM (OC:a6->A Int) (x:a6):A Bool:=
 if (decide (Int.ofNat (List.length x.1) > 20)||decide (Int.ofNat (List.length x.2.1) > 40)||decide (Int.ofNat (List.length x.2.2.1) > 60)||decide (Int.ofNat (List.length x.2.2.2.1) > 40))=true then A.pure true else A.bind (OC x) λy=>if decide (y≠0)=true then A.pure false else A.bind (A.loop (λ(D:Int×Int×a6×Unit)=>letI b:=List.getD D.2.2.1.1 (Int.toNat D.2.1) (0,0);letI a:=D.2.1<Int.ofNat (List.length D.2.2.1.1);if decide a=true then A.ae (0<=D.2.1/\a) (A.ae (0<=D.2.1/\a) (A.pure (W.next (IntKind.wrap .i64 (D.1*IntKind.wrap .i64 (Add.add (IntKind.wrap .i64 (b.2-b.1)) 1)),IntKind.wrap .i64 (Add.add D.2.1 1),D.2.2.1,())))) else A.bind (A.pure (W.next (D.1,()))) λr=>A.pure (W.done r)) (1,0,x,())) (W.bC (λ(D:Int×Unit)=>A.pure (decide (D.1 > 60))))
end Go.Fer.H
namespace Go.Fer.H
open A (W)
set_option linter.unusedVariables false
set_option linter.unusedSimpArgs false
def lZ (c:a6):Bool:=decide (c.1.length > 20)||decide (c.2.1.length > 40)||decide (c.2.2.1.length > 60)||decide (c.2.2.2.1.length > 40)||(decide (cL c=0)&&decide (kg c.1 > 60))
theorem XN:∀ (l:z4') (n:Nat),l.foldl (λn s=>n*(s.2 - s.1+1).toNat) n=n*kg l
 | [],n=>by simp [kg]
 | s::l,n=>by simp only [List.foldl_cons,kg];rw [XN l,Nat.mul_assoc]
abbrev vG:aO:=⟨jr,de,iN,lZ⟩
theorem amw (x):A.le (XM hX.sh x) (vG.sh x):=A.bx λh=>by
 unfold XM;show _=A.pure (lZ x);simp only [bZ];by_cases aG:(decide ((x.1.length:Int) > 20)||decide ((x.2.1.length:Int) > 40)||decide ((x.2.2.1.length:Int) > 60)||decide ((x.2.2.2.1.length:Int) > 40))=true
 ·rw [if_pos aG];refine congrArg A.pure ?_;unfold lZ;grind
 ·rw [if_neg aG,show hX.sh x=A.pure (cL x) from A.bU h _,A.aJ];have e:lZ x=(decide (cL x=0)&&decide (kg x.1 > 60)):=by
   unfold lZ;grind
  rw [e];by_cases hc:cL x=0
  ·have aC:=oN hc;rw [if_neg (by grind)];have aD:=aC.ec;rw [A.gA x.1 (λi (n:Nat)=>((n:Int),(i:Int),x,())) (λs n=>.next (n*(s.2 - s.1+1).toNat)) (λn=>.next ((n:Int),())) (λi n=>n<=61 ^ i) 1 ?_ ?_ ?_ ?_]
   ·rw [er,XN,Nat.one_mul,A.aJ,A.b2];grind
   ·rfl
   ·simp
   ·intro i M n hU;have ao:=aC.clk _ (List.getElem_mem M);have aa:n<=61 ^ 3:=Nat.le_trans hU (Nat.pow_le_pow_right (by omega) (by omega));have hw:=bG (n:=(i:Int)+1) (by omega) (by omega);have cj:=bG (n:=x.1[i].2 - x.1[i].1) (by omega) (by omega);have c6:=bG (n:=x.1[i].2 - x.1[i].1+1) (by omega) (by omega);have y_:((n*(x.1[i].2 - x.1[i].1+1).toNat:Nat):Int)=(n:Int)*(x.1[i].2 - x.1[i].1+1):=by
     grind
    have hm:n*(x.1[i].2 - x.1[i].1+1).toNat<=61 ^ (i+1):=by
     rw [Nat.pow_succ];exact Nat.mul_le_mul hU (by omega)
    have GO:n*(x.1[i].2 - x.1[i].1+1).toNat<=61 ^ 4:=Nat.le_trans hm (Nat.pow_le_pow_right (by omega) (by omega));have eV:=bG (n:=(n:Int)*(x.1[i].2 - x.1[i].1+1)) (by omega) (by omega);simp_all
   simp
  grind
theorem amx {c:a6} (h:lZ c=false):gL c:=by
 unfold lZ at h;simp only [Bool.or_eq_false_iff,decide_eq_false_iff_not,Bool.and_eq_false_imp,decide_eq_true_eq] at h;obtain ⟨⟨⟨⟨G,V⟩,ah⟩,a7⟩,bM⟩:=h;exact ⟨⟨by omega,by omega,by omega,by omega⟩,λhc=>by omega⟩
end Go.Fer.H
namespace Go.Fer
open A (W)
set_option linter.unusedVariables false
abbrev aQ:Type:=List UInt8
abbrev bc:Type:=bJ×H.a6
abbrev vH:Type:=z2'×List (List (Int×z1'×Int×Int))×Int×Int×z2'×z1'×List dy×List dN×List Dr×Unit
abbrev AE:Type:=Int×Bool×Option Nat
abbrev kW (l:List (aQ×AE)) (a:aQ) (b:AE):List (aQ×AE):=lD (k:=.str) (v:=.st (.aA (.int .i64) (.aA .bool .ej))) l a b
def XO (OC:H.a6->A Int) (OD:bJ->A Int) (x:bc):A Int:=
 A.bind (OD x.1) λy=>A.bind (cg (!(decide (y≠0))) (OC x.2) 0) λbV=>if (decide (y≠0)||decide (bV≠0))=true then A.pure 120 else A.pure 0
def XP (amy:bc->A Int) (amz:bc×Unit->A (bc×Unit)) (amA:Unit->A (List (aQ×Int×Bool×Option Nat))) (amB:List (aQ×Int×Bool×Option Nat)×aQ×bc×Unit->A (aQ×bc×Unit)) (x:bc×List aQ):A (List aQ×bc×Int):=
 letI d:=Int.ofNat (List.length x.2);A.bind (amy x.1) λy=>if decide (y≠0)=true then A.pure ([],((([],[],0,[]),[],[],[],[],0),[],[],[],[],0,0,0,0,0,0,0),y) else if decide (d > 40)=true then A.pure ([],((([],[],0,[]),[],[],[],[],0),[],[],[],[],0,0,0,0,0,0,0),2) else A.bind (amz (x.1,())) λy=>A.bind (amA ()) λbV=>A.bind (A.loop (λ(D:List (aQ×Int×Bool×Option Nat)×List aQ×Int×Int×List aQ×Int×Int×Int×Int×Int×Int×Int×Int×Int×bc×Unit)=>letI b:=D.2.2.2;letI a:=b.2.2.2.2;letI c:=a.2.2.2.2;if decide (b.1<D.2.2.1)=true then A.ae (0<=b.1/\b.1<Int.ofNat (List.length D.2.1)) (A.bind (amB (D.1,List.getD D.2.1 (Int.toNat b.1) [],c.2.2.2.1,())) (λy=>A.ae (cn (Add.add (List.length b.2.1) (Add.add 0 1))) (A.pure (W.next (D.1,D.2.1,D.2.2.1,IntKind.wrap .i64 (Add.add b.1 1),b.2.1++[y.1],b.2.2.1,b.2.2.2.1,a.1,a.2.1,a.2.2.1,a.2.2.2.1,c.1,c.2.1,c.2.2.1,y.2.1,()))))) else A.bind (A.pure (W.next (b.2.1,b.2.2.1,b.2.2.2.1,a.1,a.2.1,a.2.2.1,a.2.2.2.1,c.1,c.2.1,c.2.2.1,c.2.2.2.1,()))) λr=>A.pure (W.done r)) (bV,x.2,d,0,[],0,0,0,0,0,0,0,0,0,y.1,())) (W.bC (λ(D:List aQ×Int×Int×Int×Int×Int×Int×Int×Int×Int×bc×Unit)=>A.ae True (A.pure (D.1,D.2.2.2.2.2.2.2.2.2.2.1,0))))
def XQ (Dt:bJ->A Int) (z7:H.a6->A Int) (x:bc):A Int:=
 A.bind (Dt x.1) λy=>A.bind (cg (!(decide (y≠0))) (z7 x.2) 0) λbV=>if (decide (y≠0)||decide (bV≠0))=true then A.pure 120 else A.pure 0
def XR (OE:H.a6×z7'×z1'->A (H.a6×Int)) (XS:bJ->A bJ) (x:bc×Unit):A (bc×Unit):=
 A.bind (OE (x.1.2,[],[])) λy=>A.ae (XS x.1.1).cr (A.pure ((A.val (XS x.1.1) (([],[],0,[]),[],[],[],[],0),y.1),()))
def amC (x:Unit):A (List (aQ×Int×Bool×Option Nat)):=
 A.pure (kW (kW (kW (kW (kW (kW (kW (kW (kW (kW (kW (kW (kW (kW (kW (kW (kW (kW (kW (kW [] [108,101,110,100] (5,false,some 119)) [98,97,99,107] (4,false,some 120)) [118,111,105,100] (1,false,some 121)) [108,97,115,116,115] (1,false,some 122)) [102,101,101] (1,false,some 123)) [111,119,101,115] (1,false,some 124)) [104,101,108,100] (1,false,some 125)) [119,104,101,114,101] (2,false,some 126)) [109,105,115,115,105,110,103] (1,false,some 127)) [116,114,105,97,108] (4,false,some 128)) [102,105,116,115] (3,false,some 129)) [115,116,111,99,107] (2,false,some 130)) [99,111,109,101,115] (3,false,some 131)) [112,105,101,99,101] (4,true,some 132)) [119,105,115,104] (5,true,some 133)) [100,114,111,112] (1,false,some 134)) [99,97,110] (1,false,some 135)) [116,97,107,101,115] (0,true,some 136)) [109,111,115,116] (0,false,some 137)) [101,120,116,114,97] (0,false,some 138))
def XT (amD:aQ×aQ->A (List aQ)) (amE:aQ->A (Int×Bool)) (amF:Nat->z1'×bc×Unit->A (aQ×bc×Unit)) (x:List (aQ×Int×Bool×Option Nat)×aQ×bc×Unit):A (aQ×bc×Unit):=
 A.bind (amD (x.2.1,[32])) λy=>letI b:=Int.ofNat (List.length y);letI f:=IntKind.wrap .i64 (b-1);letI d:=List.drop (Int.toNat 1) (List.take (Int.toNat b) y);letI a:=Option.map (λx=>x.2) (List.find? (λp=>decide (List.getD y (Int.toNat 0) []=p.1)) x.1);letI c:=Option.getD a (0,false,none);A.ae ((0:Int)<=0/\0<b) (if (!(Option.isSome a)||decide (f<c.1)||decide (f > c.1)&&!c.2.1)=true then A.pure ([63],x.2.2.1,()) else A.bind (A.ae ((0:Int)<=1/\1<=b/\b<=b) (A.loop (λ(D:List aQ×Int×Int×(Int×Bool×Option Nat)×z1'×bc×Unit)=>letI e:=D.2.2;if decide (e.1<D.2.1)=true then A.ae (0<=e.1/\e.1<Int.ofNat (List.length D.1)) (A.bind (amE (List.getD D.1 (Int.toNat e.1) [])) (λy=>if (!y.2)=true then A.bind (A.bind (A.pure ([63],e.2.2.2.1,())) (λr=>A.pure (W.done r))) λr=>A.pure (W.done r) else A.ae (cn (Add.add (List.length e.2.2.1) (Add.add 0 1))) (A.pure (W.next (D.1,D.2.1,IntKind.wrap .i64 (Add.add e.1 1),e.2.1,e.2.2.1++[y.1],e.2.2.2.1,()))))) else A.bind (A.pure (W.next (e.2.1,e.2.2.1,e.2.2.2.1,()))) λr=>A.pure (W.done r)) (d,Int.ofNat (List.length d),0,c,[],x.2.2.1,()))) (W.bC (λ(D:(Int×Bool×Option Nat)×z1'×bc×Unit)=>A.bind (A.ae (∃ (k:Nat),List.Mem k [119,120,121,122,123,124,125,126,127,128,129,130,131,132,133,134,135,136,137,138]/\D.1.2.2=some k) (amF (Option.getD D.1.2.2 0) (D.2.1,D.2.2.1,()))) λy=>A.pure (y.1,y.2.1,()))))
def XU (D0:z7'×z1'×bc×Unit->A (aQ×bc×Unit)) (x:z1'×bc×Unit):A (aQ×bc×Unit):=
 letI a:=Int.ofNat (List.length x.1);A.ae ((0:Int)<=0/\0<a) (A.ae ((0:Int)<=1/\1<a) (A.ae ((0:Int)<=2/\2<a) (A.ae ((0:Int)<=3/\3<a) (A.ae ((0:Int)<=4/\4<a) (A.bind (D0 ([(List.getD x.1 (Int.toNat 0) 0,List.getD x.1 (Int.toNat 1) 0,List.getD x.1 (Int.toNat 2) 0,1,List.getD x.1 (Int.toNat 3) 0,List.getD x.1 (Int.toNat 4) 0)],[],x.2.1,())) (λy=>A.pure (y.1,y.2.1,())))))))
def XV (OE:H.a6×z7'×z1'->A (H.a6×Int)) (x:z7'×z1'×bc×Unit):A (aQ×bc×Unit):=
 A.ae True (A.bind (OE (x.2.2.1.2,x.1,x.2.1)) (λy=>if decide (y.2≠0)=true then A.pure ([110,111],x.2.2.1,()) else A.ae True (A.pure ([111,107],(x.2.2.1.1,y.1),()))))
def XW (D0:z7'×z1'×bc×Unit->A (aQ×bc×Unit)) (x:z1'×bc×Unit):A (aQ×bc×Unit):=
 letI a:=Int.ofNat (List.length x.1);A.ae ((0:Int)<=0/\0<a) (A.ae ((0:Int)<=1/\1<a) (A.ae ((0:Int)<=2/\2<a) (A.ae ((0:Int)<=3/\3<a) (A.bind (D0 ([(List.getD x.1 (Int.toNat 0) 0,List.getD x.1 (Int.toNat 1) 0,List.getD x.1 (Int.toNat 2) 0,2,List.getD x.1 (Int.toNat 3) 0,0)],[],x.2.1,())) (λy=>A.pure (y.1,y.2.1,()))))))
def XX (D0:z7'×z1'×bc×Unit->A (aQ×bc×Unit)) (x:z1'×bc×Unit):A (aQ×bc×Unit):=
 A.bind (D0 ([],x.1,x.2.1,())) λy=>A.pure (y.1,y.2.1,())
def XY (OF:H.a6×Int->A ((Int×Int)×Int)) (rq:(Int×Int)×Int->A aQ) (x:z1'×bc×Unit):A (aQ×bc×Unit):=
 letI a:=(x.2.1.2,List.getD x.1 (Int.toNat 0) 0);A.ae True (A.ae ((0:Int)<=0/\0<Int.ofNat (List.length x.1)) (A.ae (OF a).cr (A.ae (rq (A.val (OF a) ((0,0),0))).cr (A.pure (A.val (rq (A.val (OF a) ((0,0),0))) [],x.2.1,())))))
def XZ (nZ:Int×z1'->A aQ) (x:(Int×Int)×Int):A aQ:=
 A.bind (nZ (x.2,[x.1.1,x.1.2])) λy=>A.pure y
def X0 (AF:z1'->A aQ) (x:Int×z1'):A aQ:=
 if decide (x.1=0)=true then A.bind (AF x.2) λy=>A.pure y else if decide (x.1=3)=true then A.pure [110,111,110,101] else A.pure [110,111]
def X1 (amG:Int->A aQ) (amH:List aQ×aQ->A aQ) (x:z1'):A aQ:=
 letI b:=Int.ofNat (List.length x);if decide (b=0)=true then A.pure [110,111,110,101] else A.bind (A.loop (λ(D:z1'×Int×Int×List aQ×Unit)=>letI a:=D.2.2;if decide (a.1<D.2.1)=true then A.ae (0<=a.1/\a.1<Int.ofNat (List.length D.1)) (A.bind (amG (List.getD D.1 (Int.toNat a.1) 0)) (λy=>A.ae (cn (Add.add (List.length a.2.1) (Add.add 0 1))) (A.pure (W.next (D.1,D.2.1,IntKind.wrap .i64 (Add.add a.1 1),a.2.1++[y],()))))) else A.bind (A.pure (W.next (a.2.1,()))) λr=>A.pure (W.done r)) (x,b,0,[],())) (W.bC (λ(D:List aQ×Unit)=>A.bind (amH (D.1,[32])) λy=>A.pure y))
def X2 (OG:H.a6×Int->A ((Int×Int)×Int)) (rq:(Int×Int)×Int->A aQ) (x:z1'×bc×Unit):A (aQ×bc×Unit):=
 letI a:=(x.2.1.2,List.getD x.1 (Int.toNat 0) 0);A.ae True (A.ae ((0:Int)<=0/\0<Int.ofNat (List.length x.1)) (A.ae (OG a).cr (A.ae (rq (A.val (OG a) ((0,0),0))).cr (A.pure (A.val (rq (A.val (OG a) ((0,0),0))) [],x.2.1,())))))
def X3 (OH:H.a6×Int->A ((Int×Int)×Int)) (rq:(Int×Int)×Int->A aQ) (x:z1'×bc×Unit):A (aQ×bc×Unit):=
 letI a:=(x.2.1.2,List.getD x.1 (Int.toNat 0) 0);A.ae True (A.ae ((0:Int)<=0/\0<Int.ofNat (List.length x.1)) (A.ae (OH a).cr (A.ae (rq (A.val (OH a) ((0,0),0))).cr (A.pure (A.val (rq (A.val (OH a) ((0,0),0))) [],x.2.1,())))))
def X4 (OI:H.a6×Int->A ((Int×Int)×Int)) (rq:(Int×Int)×Int->A aQ) (x:z1'×bc×Unit):A (aQ×bc×Unit):=
 letI a:=(x.2.1.2,List.getD x.1 (Int.toNat 0) 0);A.ae True (A.ae ((0:Int)<=0/\0<Int.ofNat (List.length x.1)) (A.ae (OI a).cr (A.ae (rq (A.val (OI a) ((0,0),0))).cr (A.pure (A.val (rq (A.val (OI a) ((0,0),0))) [],x.2.1,())))))
def X5 (oP:H.a6×Int×Int->A (z1'×Int)) (nZ:Int×z1'->A aQ) (AF:z1'->A aQ) (x:z1'×bc×Unit):A (aQ×bc×Unit):=
 letI b:=Int.ofNat (List.length x.1);letI a:=(x.2.1.2,List.getD x.1 (Int.toNat 0) 0,List.getD x.1 (Int.toNat 1) 0);A.ae True (A.ae ((0:Int)<=0/\0<b) (A.ae ((0:Int)<=1/\1<b) (A.ae (oP a).cr (A.ae ((!(decide ((A.val (oP a) ([],0)).2≠0)))=true->((!(decide ((A.val (oP a) ([],0)).2≠0)))=true/\True)/\((0:Int)<=0/\0<Int.ofNat (List.length (A.val (oP a) ([],0)).1))/\True) (if (decide ((A.val (oP a) ([],0)).2≠0)||decide (List.getD (A.val (oP a) ([],0)).1 (Int.toNat 0) (0:Int)>=0))=true then A.bind (nZ ((A.val (oP a) ([],0)).2,(A.val (oP a) ([],0)).1)) λy=>A.pure (y,x.2.1,()) else if decide (Int.ofNat (List.length (A.val (oP a) ([],0)).1)=1)=true then A.pure ([115,104,111,112],x.2.1,()) else A.ae ((0:Int)<=1/\1<=Int.ofNat (List.length (A.val (oP a) ([],0)).1)/\Int.ofNat (List.length (A.val (oP a) ([],0)).1)<=Int.ofNat (List.length (A.val (oP a) ([],0)).1)) (A.bind (AF (List.drop (Int.toNat 1) (List.take (Int.toNat (Int.ofNat (List.length (A.val (oP a) ([],0)).1))) (A.val (oP a) ([],0)).1))) (λy=>A.ae (cn (Add.add (Add.add (Add.add (Add.add (Add.add (Add.add 0 1) 1) 1) 1) 1) (List.length y))) (A.pure ([115,104,111,112,32]++y,x.2.1,())))))))))
def X6 (D1:H.a6×Int->A (z1'×z1'×Int)) (nZ:Int×z1'->A aQ) (AF:z1'->A aQ) (x:z1'×bc×Unit):A (aQ×bc×Unit):=
 letI a:=(x.2.1.2,List.getD x.1 (Int.toNat 0) 0);A.ae True (A.ae ((0:Int)<=0/\0<Int.ofNat (List.length x.1)) (A.ae (D1 a).cr (if decide ((A.val (D1 a) ([],[],0)).2.2≠0)=true then A.bind (nZ ((A.val (D1 a) ([],[],0)).2.2,[])) λy=>A.pure (y,x.2.1,()) else A.bind (AF (A.val (D1 a) ([],[],0)).1) λy=>A.ae (cn (Add.add (List.length y) (Add.add (Add.add (Add.add 0 1) 1) 1))) (A.bind (AF (A.val (D1 a) ([],[],0)).2.1) (λbV=>A.ae (cn (Add.add (List.length (y++[32,47,32])) (List.length bV))) (A.pure (y++[32,47,32]++bV,x.2.1,())))))))
def X7 (G9:bp×Int->A ((Int×Int)×Int)) (ug:bJ×Unit->A (vH)) (Dp:z2'×List (List (Int×z1'×Int×Int))×Int×z2'->A Int) (x:z1'×bc×Unit):A (aQ×bc×Unit):=
 letI c:=List.getD x.1 (Int.toNat 0) 0;letI b:=Int.ofNat (List.length x.1);A.ae True (A.bind (ug (x.2.1.1,())) (λy=>letI d:=y.2.2.2.2;letI a:=(y.1,y.2.1,y.2.2.1,d.1++[(c,List.getD x.1 (Int.toNat 1) 0,List.getD x.1 (Int.toNat 2) 0,List.getD x.1 (Int.toNat 3) 0)]);A.ae True (A.ae ((0:Int)<=0/\0<b) (A.ae ((0:Int)<=1/\1<b) (A.ae ((0:Int)<=2/\2<b) (A.ae ((0:Int)<=3/\3<b) (A.ae (cn (Add.add (List.length d.1) (Add.add 0 1))) (A.ae True (A.ae True (A.bind (Dp a) (λbV=>if decide (bV≠0)=true then A.pure ([110,111],x.2.1,()) else A.ae True (A.ae ((0:Int)<=0/\0<b) (A.ae (G9 (a,c)).cr (if decide ((A.val (G9 (a,c)) ((0,0),0)).2≠0)=true then A.pure ([108,105,97,114],x.2.1,()) else A.ae True (A.pure ([111,107],((a,d.2.1,d.2.2.1,d.2.2.2.1,d.2.2.2.2.1,y.2.2.2.1),x.2.1.2),()))))))))))))))))
def X8 (vm:bp×Int×Int×Int->A (Int×Int)) (nZ:Int×z1'->A aQ) (x:z1'×bc×Unit):A (aQ×bc×Unit):=
 letI b:=Int.ofNat (List.length x.1);letI a:=(x.2.1.1.1,List.getD x.1 (Int.toNat 0) 0,List.getD x.1 (Int.toNat 1) 0,List.getD x.1 (Int.toNat 2) 0);A.ae True (A.ae ((0:Int)<=0/\0<b) (A.ae ((0:Int)<=1/\1<b) (A.ae ((0:Int)<=2/\2<b) (A.ae (vm a).cr (if decide ((A.val (vm a) (0,0)).2≠0)=true then A.bind (nZ ((A.val (vm a) (0,0)).2,[])) λy=>A.pure (y,x.2.1,()) else A.ae (0<=(A.val (vm a) (0,0)).1/\(A.val (vm a) (0,0)).1<Int.ofNat 4) (A.pure (List.getD [[],[115,117,114,101,108,121],[110,101,118,101,114],[112,101,114,104,97,112,115]] (Int.toNat (A.val (vm a) (0,0)).1) [],x.2.1,())))))))
def X9 (ug:bJ×Unit->A (vH)) (x1:bJ×bc×Unit->A (aQ×bc×Unit)) (x:z1'×bc×Unit):A (aQ×bc×Unit):=
 letI c:=Int.ofNat (List.length x.1);letI a:=List.getD x.1 (Int.toNat 0) 0;A.ae True (A.bind (ug (x.2.1.1,())) (λy=>letI d:=y.2.2.2.2.2;letI b:=Int.ofNat (List.length d.1);A.ae ((0:Int)<=0/\0<c) (if decide (a>=b)=true then A.pure ([110,111],x.2.1,()) else A.ae ((0:Int)<=0/\0<c) (A.ae (0<=a/\a<b) (A.ae ((0:Int)<=1/\1<c) (A.ae (0<=a/\a<b) (A.bind (x1 (((y.1,y.2.1,y.2.2.1,y.2.2.2.2.1),List.set d.1 (Int.toNat a) (IntKind.wrap .i64 (Add.add (List.getD d.1 (Int.toNat a) 0) (List.getD x.1 (Int.toNat 1) 0))),d.2.1,d.2.2.1,d.2.2.2.1,y.2.2.2.1),x.2.1,())) (λy=>A.pure (y.1,y.2.1,())))))))))
def X_ (Dt:bJ->A Int) (x:bJ×bc×Unit):A (aQ×bc×Unit):=
 A.bind (Dt x.1) λy=>if decide (y≠0)=true then A.pure ([110,111],x.2.1,()) else A.ae True (A.pure ([111,107],(x.1,x.2.1.2),()))
def X' (ug:bJ×Unit->A (vH)) (x1:bJ×bc×Unit->A (aQ×bc×Unit)) (x:z1'×bc×Unit):A (aQ×bc×Unit):=
 letI a:=Int.ofNat (List.length x.1);A.ae True (A.bind (ug (x.2.1.1,())) (λy=>letI b:=y.2.2.2.2.2;A.ae ((0:Int)<=0/\0<a) (A.ae ((0:Int)<=1/\1<a) (A.ae ((0:Int)<=2/\2<a) (A.ae (cn (Add.add (List.length b.2.2.2.1) (Add.add 0 1))) (A.bind (x1 (((y.1,y.2.1,y.2.2.1,y.2.2.2.2.1),b.1,b.2.1,b.2.2.1,b.2.2.2.1++[(List.getD x.1 (Int.toNat 0) 0,List.getD x.1 (Int.toNat 1) 0,List.getD x.1 (Int.toNat 2) 0)],y.2.2.2.1),x.2.1,())) (λy=>A.pure (y.1,y.2.1,()))))))))
def Ya (ug:bJ×Unit->A (vH)) (x1:bJ×bc×Unit->A (aQ×bc×Unit)) (x:z1'×bc×Unit):A (aQ×bc×Unit):=
 letI a:=Int.ofNat (List.length x.1);A.ae True (A.bind (ug (x.2.1.1,())) (λy=>letI b:=y.2.2.2.2.2;A.ae ((0:Int)<=0/\0<a) (A.ae ((0:Int)<=1/\1<a) (A.ae ((0:Int)<=2/\2<a) (A.ae ((0:Int)<=3/\3<a) (A.ae ((0:Int)<=4/\4<=a/\a<=a) (A.ae (cn (Add.add (List.length b.2.1) (Add.add 0 1))) (A.bind (x1 (((y.1,y.2.1,y.2.2.1,y.2.2.2.2.1),b.1,b.2.1++[(List.getD x.1 (Int.toNat 0) 0,List.getD x.1 (Int.toNat 1) 0,List.getD x.1 (Int.toNat 2) 0,List.getD x.1 (Int.toNat 3) 0,List.drop (Int.toNat 4) (List.take (Int.toNat a) x.1))],b.2.2.1,b.2.2.2.1,y.2.2.2.1),x.2.1,())) (λy=>A.pure (y.1,y.2.1,()))))))))))
def Yb (ug:bJ×Unit->A (vH)) (x1:bJ×bc×Unit->A (aQ×bc×Unit)) (x:z1'×bc×Unit):A (aQ×bc×Unit):=
 letI a:=Int.ofNat (List.length x.1);A.ae True (A.bind (ug (x.2.1.1,())) (λy=>letI b:=y.2.2.2.2.2;A.ae ((0:Int)<=0/\0<a) (A.ae ((0:Int)<=1/\1<a) (A.ae ((0:Int)<=2/\2<a) (A.ae ((0:Int)<=3/\3<a) (A.ae ((0:Int)<=4/\4<a) (A.ae ((0:Int)<=5/\5<=a/\a<=a) (A.ae (cn (Add.add (List.length b.2.2.1) (Add.add 0 1))) (A.bind (x1 (((y.1,y.2.1,y.2.2.1,y.2.2.2.2.1),b.1,b.2.1,b.2.2.1++[(List.drop (Int.toNat 5) (List.take (Int.toNat a) x.1),(List.getD x.1 (Int.toNat 0) 0,List.getD x.1 (Int.toNat 1) 0),List.getD x.1 (Int.toNat 2) 0,List.getD x.1 (Int.toNat 3) 0,List.getD x.1 (Int.toNat 4) 0)],b.2.2.2.1,y.2.2.2.1),x.2.1,())) (λy=>A.pure (y.1,y.2.1,())))))))))))
def Yc (Yd:List dN->A (List dN)) (amI:Int×Int×List dN×Unit->A ((Nat×Nat)×List dN×Unit)) (x:z1'×bc×Unit):A (aQ×bc×Unit):=
 letI c:=x.2.1.1.2.2;letI b:=List.getD x.1 (Int.toNat 0) 0;letI a:=(0:Int)<=0/\0<Int.ofNat (List.length x.1);A.ae a (A.ae True (if decide (b>=Int.ofNat (List.length c.2.1))=true then A.pure ([110,111],x.2.1,()) else A.ae True (A.ae (Yd c.2.1).cr (A.ae a (A.ae a (A.bind (amI (b,IntKind.wrap .i64 (Add.add b 1),A.val (Yd c.2.1) [],())) (λy=>A.ae True (A.pure ([111,107],((x.2.1.1.1,x.2.1.1.2.1,c.1,List.drop y.1.1 (List.take y.1.2 y.2.1),c.2.2),x.2.1.2),())))))))))
def Ye (OJ:bJ×Int->A (z1'×Int)) (nZ:Int×z1'->A aQ) (x:z1'×bc×Unit):A (aQ×bc×Unit):=
 letI a:=(x.2.1.1,List.getD x.1 (Int.toNat 0) 0);A.ae True (A.ae ((0:Int)<=0/\0<Int.ofNat (List.length x.1)) (A.ae (OJ a).cr (A.bind (nZ ((A.val (OJ a) ([],0)).2,(A.val (OJ a) ([],0)).1)) (λy=>A.pure (y,x.2.1,())))))
def Yf (amJ:bJ×z1'->A (Int×Int)) (amK:z1'×Unit->A (z1'×Unit)) (nZ:Int×z1'->A aQ) (x:z1'×bc×Unit):A (aQ×bc×Unit):=
 A.bind (amK (x.1,())) λy=>A.bind (A.loop (λ(D:Int×Int×z1'×bc×Unit)=>letI b:=D.2;letI a:=0<=b.1/\b.1<Int.ofNat (List.length b.2.1);if decide (b.1<D.1)=true then A.ae a (A.ae a (A.pure (W.next (D.1,IntKind.wrap .i64 (Add.add b.1 1),List.set b.2.1 (Int.toNat b.1) (IntKind.wrap .i64 (List.getD b.2.1 (Int.toNat b.1) 0-1)),b.2.2.1,())))) else A.bind (A.pure (W.next (b.2.1,b.2.2.1,()))) λr=>A.pure (W.done r)) (Int.ofNat (List.length y.1),0,y.1,x.2.1,())) (W.bC (λ(D:z1'×bc×Unit)=>A.ae True (A.bind (amJ (D.2.1.1,D.1)) (λy=>A.bind (nZ (y.2,[y.1])) λy=>A.pure (y,D.2.1,())))))
def Yg (amL:bJ->A (Int×Int)) (nZ:Int×z1'->A aQ) (x:z1'×bc×Unit):A (aQ×bc×Unit):=
 A.ae True (A.bind (amL x.2.1.1) (λy=>A.bind (nZ (y.2,[y.1])) λy=>A.pure (y,x.2.1,())))
def Yh (amM:bJ->A (Int×Int)) (nZ:Int×z1'->A aQ) (x:z1'×bc×Unit):A (aQ×bc×Unit):=
 A.ae True (A.bind (amM x.2.1.1) (λy=>A.bind (nZ (y.2,[y.1])) λy=>A.pure (y,x.2.1,())))
def Yi (amN:H.a6×H.a6->A Bool) (amO:bp×bp->A Bool) (vI:z1'×z1'->A Bool) (x:bc×bc):A Bool:=
 letI l:=x.2.1.2.2;letI k:=x.1.1.2.2;A.bind (amN (x.1.2,x.2.2)) λy=>A.bind (cg (!(!y)) (amO (x.1.1.1,x.2.1.1)) false) λbV=>A.bind (cg (!(!y||!bV)) (vI (x.1.1.2.1,x.2.1.2.1)) false) λdL=>if (!y||!bV||!dL||decide (Int.ofNat (List.length k.1)≠Int.ofNat (List.length l.1))||decide (Int.ofNat (List.length k.2.1)≠Int.ofNat (List.length l.2.1))||decide (Int.ofNat (List.length k.2.2.1)≠Int.ofNat (List.length l.2.2.1))||decide (k.2.2.2≠l.2.2.2))=true then A.pure false else A.bind (A.loop (λ(D:Int×bJ×bJ×Unit)=>letI m:=D.2.2.1;letI j:=D.1<Int.ofNat (List.length D.2.1.2.2.1);letI e:=List.getD D.2.1.2.2.1 (Int.toNat D.1) (0,0,0,0,[]);letI d:=List.getD m.2.2.1 (Int.toNat D.1) (0,0,0,0,[]);letI a:=decide (e.1≠d.1)||decide (e.2.1≠d.2.1)||decide (e.2.2.1≠d.2.2.1)||decide (e.2.2.2.1≠d.2.2.2.1);if decide j=true then A.ae (0<=D.1/\j) (A.ae (0<=D.1/\D.1<Int.ofNat (List.length m.2.2.1)) (A.bind (cg (!a) (vI (e.2.2.2.2,d.2.2.2.2)) false) (λy=>if (a||!y)=true then A.bind (A.bind (A.pure false) (λr=>A.pure (W.done r))) λr=>A.pure (W.done r) else A.pure (W.next (IntKind.wrap .i64 (Add.add D.1 1),D.2.1,m,()))))) else A.bind (A.pure (W.next (D.2.1,m,()))) λr=>A.pure (W.done r)) (0,x.1.1,x.2.1,())) (W.bC (λ(D:bJ×bJ×Unit)=>A.bind (A.loop (λ(D:Int×bJ×bJ×Unit)=>letI n:=D.2.2.1;letI i:=D.1<Int.ofNat (List.length D.2.1.2.2.2.1);letI c:=List.getD D.2.1.2.2.2.1 (Int.toNat D.1) ([],(0,0),0,0,0);letI b:=List.getD n.2.2.2.1 (Int.toNat D.1) ([],(0,0),0,0,0);if decide i=true then A.ae (0<=D.1/\i) (A.ae (0<=D.1/\D.1<Int.ofNat (List.length n.2.2.2.1)) (A.bind (vI (c.1,b.1)) (λy=>if (!y||!(decide (c.2.1.1=b.2.1.1)&&decide (c.2.1.2=b.2.1.2))||decide (c.2.2.1≠b.2.2.1)||decide (c.2.2.2.1≠b.2.2.2.1)||decide (c.2.2.2.2≠b.2.2.2.2))=true then A.bind (A.bind (A.pure false) (λr=>A.pure (W.done r))) λr=>A.pure (W.done r) else A.pure (W.next (IntKind.wrap .i64 (Add.add D.1 1),D.2.1,n,()))))) else A.bind (A.pure (W.next (D.2.1,n,()))) λr=>A.pure (W.done r)) (0,D.1,D.2.1,())) (W.bC (λ(D:bJ×bJ×Unit)=>A.bind (A.loop (λ(D:Int×bJ×bJ×Unit)=>letI h:=D.1<Int.ofNat (List.length D.2.1.2.2.2.2.1);letI g:=List.getD D.2.1.2.2.2.2.1 (Int.toNat D.1) (0,0,0);letI f:=List.getD D.2.2.1.2.2.2.2.1 (Int.toNat D.1) (0,0,0);if decide h=true then A.ae (0<=D.1/\h) (A.ae (0<=D.1/\D.1<Int.ofNat (List.length D.2.2.1.2.2.2.2.1)) (if (!(decide (g.1=f.1)&&(decide (g.2.1=f.2.1)&&decide (g.2.2=f.2.2))))=true then A.bind (A.bind (A.pure false) (λr=>A.pure (W.done r))) λr=>A.pure (W.done r) else A.pure (W.next (IntKind.wrap .i64 (Add.add D.1 1),D.2.1,D.2.2.1,())))) else A.bind (A.pure (W.next ())) λr=>A.pure (W.done r)) (0,D.1,D.2.1,())) (W.bC (λ(D:Unit)=>A.pure true))))))
def Yj (vI:z1'×z1'->A Bool) (x:H.a6×H.a6):A Bool:=
 letI e:=x.2.2.2.2.2.2;letI d:=x.1.2.2.2.2.2;letI c:=decide (Int.ofNat (List.length x.1.1)≠Int.ofNat (List.length x.2.1))||decide (Int.ofNat (List.length x.1.2.1)≠Int.ofNat (List.length x.2.2.1));A.bind (cg (!c) (vI (x.1.2.2.1,x.2.2.2.1)) false) λy=>if (c||!y||decide (Int.ofNat (List.length x.1.2.2.2.1)≠Int.ofNat (List.length x.2.2.2.2.1))||!(decide (x.1.2.2.2.2.1=x.2.2.2.2.2.1)&&(decide (d.1=e.1)&&(decide (d.2.1=e.2.1)&&(decide (d.2.2.1=e.2.2.1)&&(decide (d.2.2.2.1=e.2.2.2.1)&&(decide (d.2.2.2.2.1=e.2.2.2.2.1)&&decide (d.2.2.2.2.2=e.2.2.2.2.2))))))))=true then A.pure false else A.bind (A.loop (λ(D:Int×H.a6×H.a6×Unit)=>letI m:=D.2.2.1;letI l:=D.1<Int.ofNat (List.length D.2.1.1);letI j:=List.getD D.2.1.1 (Int.toNat D.1) (0,0);letI h:=List.getD m.1 (Int.toNat D.1) (0,0);if decide l=true then A.ae (0<=D.1/\l) (A.ae (0<=D.1/\D.1<Int.ofNat (List.length m.1)) (if (!(decide (j.1=h.1)&&decide (j.2=h.2)))=true then A.bind (A.bind (A.pure false) (λr=>A.pure (W.done r))) λr=>A.pure (W.done r) else A.pure (W.next (IntKind.wrap .i64 (Add.add D.1 1),D.2.1,m,())))) else A.bind (A.pure (W.next (D.2.1,m,()))) λr=>A.pure (W.done r)) (0,x.1,x.2,())) (W.bC (λ(D:H.a6×H.a6×Unit)=>A.bind (A.loop (λ(D:Int×H.a6×H.a6×Unit)=>letI n:=D.2.2.1;letI k:=D.1<Int.ofNat (List.length D.2.1.2.1);letI b:=List.getD D.2.1.2.1 (Int.toNat D.1) (0,0,0,0,0,0);letI a:=List.getD n.2.1 (Int.toNat D.1) (0,0,0,0,0,0);if decide k=true then A.ae (0<=D.1/\k) (A.ae (0<=D.1/\D.1<Int.ofNat (List.length n.2.1)) (if (!(decide (b.1=a.1)&&(decide (b.2.1=a.2.1)&&(decide (b.2.2.1=a.2.2.1)&&(decide (b.2.2.2.1=a.2.2.2.1)&&(decide (b.2.2.2.2.1=a.2.2.2.2.1)&&decide (b.2.2.2.2.2=a.2.2.2.2.2)))))))=true then A.bind (A.bind (A.pure false) (λr=>A.pure (W.done r))) λr=>A.pure (W.done r) else A.pure (W.next (IntKind.wrap .i64 (Add.add D.1 1),D.2.1,n,())))) else A.bind (A.pure (W.next (D.2.1,n,()))) λr=>A.pure (W.done r)) (0,D.1,D.2.1,())) (W.bC (λ(D:H.a6×H.a6×Unit)=>A.bind (A.loop (λ(D:Int×H.a6×H.a6×Unit)=>letI i:=D.1<Int.ofNat (List.length D.2.1.2.2.2.1);letI g:=List.getD D.2.1.2.2.2.1 (Int.toNat D.1) (0,0);letI f:=List.getD D.2.2.1.2.2.2.1 (Int.toNat D.1) (0,0);if decide i=true then A.ae (0<=D.1/\i) (A.ae (0<=D.1/\D.1<Int.ofNat (List.length D.2.2.1.2.2.2.1)) (if (!(decide (g.1=f.1)&&decide (g.2=f.2)))=true then A.bind (A.bind (A.pure false) (λr=>A.pure (W.done r))) λr=>A.pure (W.done r) else A.pure (W.next (IntKind.wrap .i64 (Add.add D.1 1),D.2.1,D.2.2.1,())))) else A.bind (A.pure (W.next ())) λr=>A.pure (W.done r)) (0,D.1,D.2.1,())) (W.bC (λ(D:Unit)=>A.pure true))))))
def Yk (x:z1'×z1'):A Bool:=
 if decide (Int.ofNat (List.length x.1)≠Int.ofNat (List.length x.2))=true then A.pure false else A.bind (A.loop (λ(D:z1'×z1'×Int×Unit)=>letI a:=D.2.2.1;letI b:=a<Int.ofNat (List.length D.1);if decide b=true then A.ae (0<=a/\b) (A.ae (0<=a/\a<Int.ofNat (List.length D.2.1)) (if decide (List.getD D.1 (Int.toNat a) 0≠List.getD D.2.1 (Int.toNat a) 0)=true then A.bind (A.bind (A.pure false) (λr=>A.pure (W.done r))) λr=>A.pure (W.done r) else A.pure (W.next (D.1,D.2.1,IntKind.wrap .i64 (Add.add a 1),())))) else A.bind (A.pure (W.next ())) λr=>A.pure (W.done r)) (x.1,x.2,0,())) (W.bC (λ(D:Unit)=>A.pure true))
def Yl (vI:z1'×z1'->A Bool) (x:bp×bp):A Bool:=
 if (decide (Int.ofNat (List.length x.1.1)≠Int.ofNat (List.length x.2.1))||decide (Int.ofNat (List.length x.1.2.1)≠Int.ofNat (List.length x.2.2.1))||decide (x.1.2.2.1≠x.2.2.2.1)||decide (Int.ofNat (List.length x.1.2.2.2)≠Int.ofNat (List.length x.2.2.2.2)))=true then A.pure false else A.bind (A.loop (λ(D:Int×bp×bp×Unit)=>letI y:=D.2.2.1;letI t:=D.1<Int.ofNat (List.length D.2.1.1);letI j:=List.getD D.2.1.1 (Int.toNat D.1) (0,0,0,0);letI i:=List.getD y.1 (Int.toNat D.1) (0,0,0,0);if decide t=true then A.ae (0<=D.1/\t) (A.ae (0<=D.1/\D.1<Int.ofNat (List.length y.1)) (if (!(decide (j.1=i.1)&&(decide (j.2.1=i.2.1)&&(decide (j.2.2.1=i.2.2.1)&&decide (j.2.2.2=i.2.2.2)))))=true then A.bind (A.bind (A.pure false) (λr=>A.pure (W.done r))) λr=>A.pure (W.done r) else A.pure (W.next (IntKind.wrap .i64 (Add.add D.1 1),D.2.1,y,())))) else A.bind (A.pure (W.next (D.2.1,y,()))) λr=>A.pure (W.done r)) (0,x.1,x.2,())) (W.bC (λ(D:bp×bp×Unit)=>A.bind (A.loop (λ(D:Int×bp×bp×Unit)=>letI z:=D.2.2.1;letI q:=D.1<Int.ofNat (List.length D.2.1.2.2.2);letI h:=List.getD D.2.1.2.2.2 (Int.toNat D.1) (0,0,0,0);letI f:=List.getD z.2.2.2 (Int.toNat D.1) (0,0,0,0);if decide q=true then A.ae (0<=D.1/\q) (A.ae (0<=D.1/\D.1<Int.ofNat (List.length z.2.2.2)) (if (!(decide (h.1=f.1)&&(decide (h.2.1=f.2.1)&&(decide (h.2.2.1=f.2.2.1)&&decide (h.2.2.2=f.2.2.2)))))=true then A.bind (A.bind (A.pure false) (λr=>A.pure (W.done r))) λr=>A.pure (W.done r) else A.pure (W.next (IntKind.wrap .i64 (Add.add D.1 1),D.2.1,z,())))) else A.bind (A.pure (W.next (D.2.1,z,()))) λr=>A.pure (W.done r)) (0,D.1,D.2.1,())) (W.bC (λ(D:bp×bp×Unit)=>A.bind (A.loop (λ(D:Int×bp×bp×Unit)=>letI s:=D.1<Int.ofNat (List.length D.2.1.2.1);letI p:=Int.toNat D.1;letI v:=List.getD D.2.1.2.1 p [];letI u:=List.getD D.2.2.1.2.1 p [];if decide s=true then A.bind (A.ae (0<=D.1/\s) (A.ae (0<=D.1/\D.1<Int.ofNat (List.length D.2.2.1.2.1)) (if decide (Int.ofNat (List.length v)≠Int.ofNat (List.length u))=true then A.bind (A.bind (A.bind (A.pure false) (λr=>A.pure (W.done r))) (λr=>A.pure (W.done r))) λr=>A.pure (W.done r) else A.loop (λ(D:Int×List (Int×z1'×Int×Int)×List (Int×z1'×Int×Int)×Int×bp×bp×Unit)=>letI n:=D.2.2.2;letI l:=0<=n.1/\n.1<Int.ofNat (List.length D.2.2.1);letI k:=n.1<Int.ofNat (List.length D.2.1);letI w:=0<=n.1/\k;letI d:=List.getD D.2.1 (Int.toNat n.1) (0,[],0,0);letI c:=List.getD D.2.2.1 (Int.toNat n.1) (0,[],0,0);letI b:=decide (d.1≠c.1);letI g:=(!b)=true;letI o:=g->g/\True/\True;letI a:=b||!(decide (d.2.2.1=c.2.2.1)&&decide (d.2.2.2=c.2.2.2));letI e:=(!a)=true;letI m:=e->e/\True/\True;if decide k=true then A.ae w (A.ae l (A.ae (g->(g/\g)/\w/\True) (A.ae o (A.ae o (A.ae (g->(g/\g)/\l/\True) (A.ae o (A.ae o (A.ae (g->(g/\g)/\True/\True) (A.ae (True/\(b=false->g)) (A.ae (e->(e/\e)/\w/\True) (A.ae m (A.ae m (A.ae (e->(e/\e)/\l/\True) (A.ae m (A.ae m (A.ae (e->(e/\e/\True)/\(vI (d.2.1,c.2.1)).cr/\True) (A.ae m (A.ae (True/\(a=false->e)) (if (a||!(A.val (vI (d.2.1,c.2.1)) false))=true then A.bind (A.bind (A.bind (A.bind (A.pure false) (λr=>A.pure (W.done r))) (λr=>A.pure (W.done r))) (λr=>A.pure (W.done r))) λr=>A.pure (W.done r) else A.pure (W.next (D.1,D.2.1,D.2.2.1,IntKind.wrap .i64 (Add.add n.1 1),n.2.1,n.2.2.1,()))))))))))))))))))))) else A.bind (A.pure (W.next (D.1,n.2.1,n.2.2.1,()))) λr=>A.pure (W.done r)) (D.1,v,u,0,D.2.1,D.2.2.1,())))) (W.bC (λ(D:Int×bp×bp×Unit)=>A.pure (W.next (IntKind.wrap .i64 (Add.add D.1 1),D.2.1,D.2.2.1,())))) else A.bind (A.pure (W.next ())) λr=>A.pure (W.done r)) (0,D.1,D.2.1,())) (W.bC (λ(D:Unit)=>A.pure true))))))
def Ym (amP:bc×List aQ->A Bool) (OK:bc->A Int) (x:bc×List aQ×Int):A Bool:=
 A.bind (amP (x.1,x.2.1)) λy=>A.bind (cg (!y) (OK x.1) 0) λbV=>A.pure (!y&&decide (bV=0)&&decide (Int.ofNat (List.length x.2.1)<=x.2.2))
def Yn (OK:bc->A Int) (amQ:bJ->A Bool) (amR:H.a6->A Bool) (D2:aQ->A (aQ×z1'×Bool)) (x:bc×List aQ):A Bool:=
 A.bind (amQ x.1.1) λy=>A.bind (cg (!y) (amR x.1.2) false) λbV=>if (y||bV||decide (Int.ofNat (List.length x.2) > 60))=true then A.pure true else A.bind (A.loop (λ(D:List aQ×Int×Int×Int×Int×Int×bc×Unit)=>letI h:=D.2.2.2;letI b:=h.2.2;letI e:=b.1<Int.ofNat (List.length b.2.1.1.2.2.1);if decide e=true then A.ae (0<=b.1/\e) (A.pure (W.next (D.1,D.2.1,D.2.2.1,h.1,IntKind.wrap .i64 (Add.add h.2.1 (Int.ofNat (List.length (List.getD b.2.1.1.2.2.1 (Int.toNat b.1) (0,0,0,0,[])).2.2.2.2))),IntKind.wrap .i64 (Add.add b.1 1),b.2.1,()))) else A.bind (A.pure (W.next (D.1,D.2.1,D.2.2.1,h.1,h.2.1,b.2.1,()))) λr=>A.pure (W.done r)) (x.2,Int.ofNat (List.length x.1.1.2.2.2.1),Int.ofNat (List.length x.1.1.2.2.1),Int.ofNat (List.length x.1.1.2.2.2.2.1),0,0,x.1,())) (W.bC (λ(D:List aQ×Int×Int×Int×Int×bc×Unit)=>A.bind (A.loop (λ(D:List aQ×Int×Int×Int×Int×Int×bc×Unit)=>letI j:=D.2.1;letI d:=D.2.2;letI a:=d.2.2;letI i:=a.2.1;letI g:=a.2.2.1;letI f:=List.getD D.1 (Int.toNat i) [];letI c:=i<Int.ofNat (List.length D.1);if decide c=true then A.bind (A.ae (0<=i/\c) (if decide (Int.ofNat (List.length f) > 80)=true then A.bind (A.bind (A.bind (A.pure true) (λr=>A.pure (W.done r))) (λr=>A.pure (W.done r))) λr=>A.pure (W.done r) else A.ae (0<=i/\c) (A.bind (D2 f) (λy=>if (!y.2.2)=true then A.pure (W.next (D.1,j,d.1,d.2.1,a.1,i,g,())) else if decide (y.1=[119,105,115,104])=true then A.pure (W.next (D.1,IntKind.wrap .i64 (Add.add j 1),d.1,d.2.1,a.1,i,g,())) else if decide (y.1=[112,105,101,99,101])=true then A.pure (W.next (D.1,j,IntKind.wrap .i64 (Add.add d.1 1),d.2.1,IntKind.wrap .i64 (Add.add a.1 (IntKind.wrap .i64 (Int.ofNat (List.length y.2.1)-4))),i,g,())) else if decide (y.1=[99,111,109,101,115])=true then A.pure (W.next (D.1,j,d.1,IntKind.wrap .i64 (Add.add d.2.1 1),a.1,i,g,())) else A.pure (W.next (D.1,j,d.1,d.2.1,a.1,i,g,())))))) (W.bC (λ(D:List aQ×Int×Int×Int×Int×Int×bc×Unit)=>letI k:=D.2.2.2;A.pure (W.next (D.1,D.2.1,D.2.2.1,k.1,k.2.1,IntKind.wrap .i64 (Add.add k.2.2.1 1),k.2.2.2.1,())))) else A.bind (A.pure (W.next (j,d.1,d.2.1,a.1,g,()))) λr=>A.pure (W.done r)) (D.1,D.2.1,D.2.2.1,D.2.2.2.1,D.2.2.2.2.1,0,D.2.2.2.2.2.1,())) (W.bC (λ(D:Int×Int×Int×Int×bc×Unit)=>A.bind (OK D.2.2.2.2.1) λy=>A.pure (decide (y=0)&&(decide (D.1 > 3)||decide (D.2.1 > 4)||decide (D.2.2.1 > 3)||decide (D.2.2.2.1 > 4)))))))
def Yo (amS:aQ->A (List aQ)) (amT:aQ->A Int) (amU:Unit->A (List aQ×z1'×z1')) (x:aQ):A (aQ×z1'×Bool):=
 A.bind (amS x) λy=>A.bind (A.loop (λ(D:List aQ×Int×z1'×Unit)=>letI j:=D.2.1<Int.ofNat (List.length D.1);if decide j=true then A.ae (0<=D.2.1/\j) (A.bind (amT (List.getD D.1 (Int.toNat D.2.1) [])) (λy=>if decide (y<0)=true then A.bind (A.bind (A.pure ([],[],false)) (λr=>A.pure (W.done r))) λr=>A.pure (W.done r) else A.ae (cn (Add.add (List.length D.2.2.1) (Add.add 0 1))) (A.pure (W.next (D.1,IntKind.wrap .i64 (Add.add D.2.1 1),D.2.2.1++[y],()))))) else A.bind (A.pure (W.next (D.1,D.2.2.1,()))) λr=>A.pure (W.done r)) (y,1,[],())) (W.bC (λ(D:List aQ×z1'×Unit)=>A.bind (amU ()) λy=>A.bind (A.loop (λ(D:List aQ×List aQ×z1'×z1'×Int×z1'×Unit)=>letI l:=List.getD D.1 (Int.toNat 0) [];letI h:=(0:Int)<=0/\0<Int.ofNat (List.length D.1);letI c:=D.2.2.2;letI m:=c.2.1;letI k:=Int.ofNat (List.length c.2.2.1);letI i:=m<Int.ofNat (List.length D.2.1);letI g:=Int.toNat m;letI f:=(0<=m/\m<Int.ofNat (List.length c.1))/\True;letI d:=decide (List.getD c.1 g (0:Int)<0);letI a:=decide (k>=List.getD D.2.2.1 g 0);letI e:=a=true;letI b:=(a&&!d)=true;letI n:=b->b/\True/\True;if decide i=true then A.ae (0<=m/\i) (A.ae h (if decide (List.getD D.2.1 g []=l)=true then A.ae h (A.ae (0<=m/\m<Int.ofNat (List.length D.2.2.1)) (A.ae (e->(e/\e)/\f) (A.ae (e->e/\True/\True) (A.ae (e->(e/\True)/\True/\True) (A.ae (e->True/\True/\e) (A.ae n (A.ae (b->(b/\b)/\f) (A.ae n (A.ae (b->(b/\b)/\True/\True) (A.ae (e->(e/\(d=false->b))/\True/\True) (A.ae (True/\(e->e)) (A.bind (A.bind (A.pure (l,c.2.2.1,a&&(d||decide (k<=List.getD c.1 g 0)))) (λr=>A.pure (W.done r))) (λr=>A.pure (W.done r)))))))))))))) else A.pure (W.next (D.1,D.2.1,D.2.2.1,c.1,IntKind.wrap .i64 (Add.add m 1),c.2.2.1,())))) else A.bind (A.pure (W.next ())) λr=>A.pure (W.done r)) (D.1,y.1,y.2.1,y.2.2,0,D.2.1,())) (W.bC (λ(D:Unit)=>A.pure ([],[],false)))))
def Yp (x:aQ):A (List aQ):=
 A.bind (A.loop (λ(D:aQ×Int×List aQ×Unit)=>letI g:=D.2.1;letI f:=D.2.2.1;letI e:=Int.ofNat (List.length D.1);letI c:=Int.ofNat (List.length f);letI b:=IntKind.wrap .i64 (Add.add g 1);letI d:=List.drop (Int.toNat g) (List.take (Int.toNat b) D.1);letI a:=IntKind.wrap .i64 (c-1);letI h:=List.getD f (Int.toNat a) [];if decide (g<e)=true then A.bind (A.ae (0<=g/\g<e) (if decide (Int.ofNat (List.getD D.1 (Int.toNat g) 0).1.1.1=32)=true then A.ae (cn (Add.add (List.length f) (Add.add 0 1))) (A.pure (W.next (D.1,g,f++[[]],()))) else A.ae (0<=a/\a<c) (A.ae (0<=g/\g<=b/\b<=e) (A.ae (cn (Add.add (List.length h) (List.length d))) (A.ae (0<=a/\a<c) (A.pure (W.next (D.1,g,List.set f (Int.toNat a) (h++d),())))))))) (W.bC (λ(D:aQ×Int×List aQ×Unit)=>A.pure (W.next (D.1,IntKind.wrap .i64 (Add.add D.2.1 1),D.2.2.1,())))) else A.bind (A.pure (W.next (f,()))) λr=>A.pure (W.done r)) (x,0,[[]],())) (W.bC (λ(D:List aQ×Unit)=>A.pure D.1))
def Yq (x:aQ):A Int:=
 letI b:=Int.ofNat (List.length x);letI g:=decide (b > 1);letI d:=decide (b=0)||decide (b > 6);A.ae ((!d&&g)=true->((!d&&g)=true/\True)/\((0:Int)<=0/\0<b)/\True) (if (d||g&&decide (Int.ofNat (List.getD x (Int.toNat 0) 0).1.1.1=48))=true then A.pure (-1) else A.bind (A.loop (λ(D:aQ×Int×Int×Unit)=>letI h:=D.2.2.1;letI c:=h<Int.ofNat (List.length D.1);letI f:=0<=h/\c;letI a:=Int.ofNat (List.getD D.1 (Int.toNat h) 0).1.1.1;letI e:=(!(decide (a<48)))=true;if decide c=true then A.ae f (A.ae (e->(e/\e)/\f/\True) (if (decide (a<48)||decide (a > 57))=true then A.bind (A.bind (A.pure (-1)) (λr=>A.pure (W.done r))) λr=>A.pure (W.done r) else A.ae f (A.pure (W.next (D.1,IntKind.wrap .i64 (Add.add (IntKind.wrap .i64 (10*D.2.1)) (IntKind.wrap .i64 (IntKind.wrap .u8 (a-48)))),IntKind.wrap .i64 (Add.add h 1),()))))) else A.bind (A.pure (W.next (D.2.1,()))) λr=>A.pure (W.done r)) (x,0,0,())) (W.bC (λ(D:Int×Unit)=>A.pure D.1)))
def amV (x:Unit):A (List aQ×z1'×z1'):=
 A.pure ([[108,101,110,100],[98,97,99,107],[118,111,105,100],[108,97,115,116,115],[102,101,101],[111,119,101,115],[104,101,108,100],[119,104,101,114,101],[109,105,115,115,105,110,103],[116,114,105,97,108],[102,105,116,115],[115,116,111,99,107],[99,111,109,101,115],[112,105,101,99,101],[119,105,115,104],[100,114,111,112],[99,97,110],[116,97,107,101,115],[109,111,115,116],[101,120,116,114,97]],[5,4,1,1,1,1,1,2,1,4,3,2,3,4,5,1,1,0,0,0],[5,4,1,1,1,1,1,2,1,4,3,2,3,-1,-1,1,1,-1,0,0])
def Yr (HN:bc×List aQ->A (List aQ×bc×Int)) (OL:List aQ×List aQ->A Bool) (amW:Unit->A bc) (x:Unit):A Bool:=
 A.bind (amW ()) λy=>A.bind (HN (y,[[108,101,110,100,32,49,32,48,32,49,48,48,32,51,32,55],[98,97,99,107,32,50,32,48,32,49,55,49,32,51],[102,101,101,32,49],[119,104,101,114,101,32,51,32,49,55,49],[116,114,105,97,108,32,49,32,48,32,48,32,48],[115,116,111,99,107,32,48,32,49],[101,120,116,114,97],[100,114,111,112,32,51],[101,120,116,114,97]])) λy=>A.bind (cg (decide (y.2.2=0)) (OL (y.1,[[111,107],[111,107],[51,48,48,32,51,48,48],[115,104,111,112],[108,105,97,114],[111,107],[49],[111,107],[48]])) false) λbV=>A.pure (decide (y.2.2=0)&&bV&&decide (Int.ofNat (List.length y.2.1.2.2.1)=2)&&decide (Int.ofNat (List.length y.2.1.1.2.2.2.1)=3))
def Ys (x:List aQ×List aQ):A Bool:=
 if decide (Int.ofNat (List.length x.1)≠Int.ofNat (List.length x.2))=true then A.pure false else A.bind (A.loop (λ(D:List aQ×List aQ×Int×Unit)=>letI a:=D.2.2.1;letI b:=a<Int.ofNat (List.length D.1);if decide b=true then A.ae (0<=a/\b) (A.ae (0<=a/\a<Int.ofNat (List.length D.2.1)) (if decide (List.getD D.1 (Int.toNat a) []≠List.getD D.2.1 (Int.toNat a) [])=true then A.bind (A.bind (A.pure false) (λr=>A.pure (W.done r))) λr=>A.pure (W.done r) else A.pure (W.next (D.1,D.2.1,IntKind.wrap .i64 (Add.add a 1),())))) else A.bind (A.pure (W.next ())) λr=>A.pure (W.done r)) (x.1,x.2,0,())) (W.bC (λ(D:Unit)=>A.pure true))
def OM (HN:bc×List aQ->A (List aQ×bc×Int)) (amX:bc×bc->A Bool) (amY:bc×List aQ×Int->A Bool) (Yt:Unit->A Bool) (OL:List aQ×List aQ->A Bool) (amZ:aQ->A Bool) (x:bc×List aQ):A Bool:=
 A.bind (amY (x.1,x.2,40)) λy=>if (!y)=true then A.bind (Yt ()) λy=>A.pure y else A.bind (HN x) λy=>if (decide (y.2.2≠0)||decide (Int.ofNat (List.length y.1)≠Int.ofNat (List.length x.2)))=true then A.pure false else A.bind (A.loop (λ(D:List aQ×List aQ×Int×bc×bc×List aQ×List aQ×Unit)=>letI a:=D.2.2;letI e:=List.getD D.1 (Int.toNat a.1) [];letI d:=a.2.2.2;letI b:=a.1<Int.ofNat (List.length D.1);if decide b=true then A.bind (A.ae (0<=a.1/\b) (A.bind (amZ e) (λy=>if (!y)=true then A.ae (0<=a.1/\b) (A.ae (cn (Add.add (List.length d.1) (Add.add 0 1))) (A.ae (0<=a.1/\a.1<Int.ofNat (List.length D.2.1)) (A.ae (cn (Add.add (List.length d.2.1) (Add.add 0 1))) (A.pure (W.next (D.1,D.2.1,a.1,a.2.1,a.2.2.1,d.1++[e],d.2.1++[List.getD D.2.1 (Int.toNat a.1) []],())))))) else A.pure (W.next (D.1,D.2.1,a.1,a.2.1,a.2.2.1,d.1,d.2.1,()))))) (W.bC (λ(D:List aQ×List aQ×Int×bc×bc×List aQ×List aQ×Unit)=>letI f:=D.2.2.2;A.pure (W.next (D.1,D.2.1,IntKind.wrap .i64 (Add.add D.2.2.1 1),f.1,f.2.1,f.2.2.1,f.2.2.2.1,())))) else A.bind (A.pure (W.next (a.2.1,a.2.2.1,d.1,d.2.1,()))) λr=>A.pure (W.done r)) (x.2,y.1,0,x.1,y.2.1,[],[],())) (W.bC (λ(D:bc×bc×List aQ×List aQ×Unit)=>A.bind (HN (D.1,D.2.2.1)) λy=>letI c:=decide (y.2.2=0);A.bind (cg c (OL (y.1,D.2.2.2.1)) false) λbV=>A.bind (cg (c&&bV) (amX (D.2.1,y.2.1)) false) λdL=>A.bind (cg (c&&bV&&dL) (Yt ()) false) λgB=>A.pure (c&&bV&&dL&&gB)))
def Yu (am0:aQ->A aQ) (D2:aQ->A (aQ×z1'×Bool)) (x:aQ):A Bool:=
 A.bind (D2 x) λy=>letI i:=y.2.2;A.bind (am0 x) λbV=>letI h:=decide (bV=[98,97,99,107]);letI g:=decide (bV=[119,105,115,104]);letI f:=decide (bV=[118,111,105,100]);letI e:=decide (bV=[108,101,110,100]);letI d:=decide (bV=[112,105,101,99,101]);letI c:=decide (bV=[99,111,109,101,115]);letI b:=decide (bV=[115,116,111,99,107]);letI a:=decide (bV=[116,114,105,97,108]);A.bind (if e=true then A.pure (W.next (i,e,())) else if h=true then A.pure (W.next (i,h,())) else if f=true then A.pure (W.next (i,f,())) else if a=true then A.pure (W.next (i,a,())) else if b=true then A.pure (W.next (i,b,())) else if c=true then A.pure (W.next (i,c,())) else if d=true then A.pure (W.next (i,d,())) else if g=true then A.pure (W.next (i,g,())) else A.pure (W.next (i,decide (bV=[100,114,111,112]),()))) (W.bC (λ(D:Bool×Bool×Unit)=>if D.2.1=true then A.pure (!D.1) else A.pure true))
def Yv (D2:aQ->A (aQ×z1'×Bool)) (x:aQ):A aQ:=
 A.bind (D2 x) λy=>A.pure y.1
def HO {gq:Type} (c0:z2'->A (z2')) (bF:List (List (Int×z1'×Int×Int))->A (List (List (Int×z1'×Int×Int)))) (c2:z2'->A (z2')) (c3:List (Int×z1'×Int×Int)×Unit->A (List (Int×z1'×Int×Int)×Unit)) (c4:z1'->A (z1')) (c5:List dy->A (List dy)) (lE:List dN->A (List dN)) (oe:z3'->A (z3')) (x:bJ) (fin:bJ->A gq):A gq:=
 A.ae True (A.ae (c0 x.1.1).cr (A.ae True (A.ae (bF x.1.2.1).cr (A.ae True (A.ae (c2 x.1.2.2.2).cr (A.ae True (A.ae True (A.ae True (A.bind (A.ae True (A.loop (λ(D:Int×Int×Int×z1'×List dy×List dN×z3'×Int×Int×Int×z2'×List (List (Int×z1'×Int×Int))×z2'×Unit)=>letI g1:=D.2;letI s:=g1.2.2.2;letI h:=Int.toNat g1.1;letI f:=s.2.2.2;letI v:=f.2.2.2.2;if decide (g1.1<D.1)=true then A.bind (A.ae True (A.ae (0<=g1.1/\g1.1<Int.ofNat (List.length v.1)) (A.ae True (A.ae (h=h) (A.bind (c3 (List.getD v.1 h [],())) (λy=>A.ae True (A.ae (h=h) (A.ae True (A.ae (h=h) (A.loop (λ(D:Nat×Int×Int×Int×Int×Int×z1'×List dy×List dN×z3'×Int×Int×Int×z2'×(List (List (Int×z1'×Int×Int))×Nat)×z2'×List (Int×z1'×Int×Int)×Unit)=>letI g:=D.2.2.2.2;letI z:=g.2.2.2;letI a:=z.2.2.2;letI k:=a.2.2.2.2;letI u:=0<=g.1/\g.1<Int.ofNat (List.length k.2.2.1);letI e:=List.getD k.2.2.1 (Int.toNat g.1) (0,[],0,0);if decide (g.1<D.2.2.2.1)=true then A.ae True (A.ae (D.1=k.1.2) (A.ae True (A.ae (D.1=k.1.2) (A.ae u (A.ae (c4 e.2.1).cr (A.ae u (A.pure (W.next (D.1,D.2.1,D.2.2.1,D.2.2.2.1,IntKind.wrap .i64 (Add.add g.1 1),g.2.1,g.2.2.1,z.1,z.2.1,z.2.2.1,a.1,a.2.1,a.2.2.1,a.2.2.2.1,k.1,k.2.1,List.set k.2.2.1 (Int.toNat g.1) (e.1,A.val (c4 e.2.1) [],e.2.2),()))))))))) else A.bind (A.pure (W.next (D.2.1,D.2.2.1,g.2.1,g.2.2.1,z.1,z.2.1,z.2.2.1,a.1,a.2.1,a.2.2.1,a.2.2.2.1,k.1,k.2.1,k.2.2.1,()))) λr=>A.pure (W.done r)) (h,D.1,g1.1,Int.ofNat (List.length y.1),0,g1.2.1,g1.2.2.1,s.1,s.2.1,s.2.2.1,f.1,f.2.1,f.2.2.1,f.2.2.2.1,(v.1,h),v.2.1,y.1,()))))))))))) (W.bC (λ(D:Int×Int×Int×z1'×List dy×List dN×z3'×Int×Int×Int×z2'×(List (List (Int×z1'×Int×Int))×Nat)×z2'×List (Int×z1'×Int×Int)×Unit)=>letI dB:=D.2.2.2.2;letI j:=dB.2.2.2;letI bF:=j.2.2.2.2;A.pure (W.next (D.1,IntKind.wrap .i64 (Add.add D.2.1 1),D.2.2.1,D.2.2.2.1,dB.1,dB.2.1,dB.2.2.1,j.1,j.2.1,j.2.2.1,j.2.2.2.1,List.set bF.1.1 bF.1.2 bF.2.2.1,bF.2.1,())))) else A.bind (A.pure (W.next (g1.2.1,g1.2.2.1,s.1,s.2.1,s.2.2.1,f.1,f.2.1,f.2.2.1,f.2.2.2.1,v.1,v.2.1,()))) λr=>A.pure (W.done r)) (Int.ofNat (List.length (A.val (bF x.1.2.1) [])),0,x.1.2.2.1,x.2.1,x.2.2.1,x.2.2.2.1,x.2.2.2.2.1,x.2.2.2.2.2,0,0,A.val (c0 x.1.1) [],A.val (bF x.1.2.1) [],A.val (c2 x.1.2.2.2) [],()))) (W.bC (λ(D:Int×z1'×List dy×List dN×z3'×Int×Int×Int×z2'×List (List (Int×z1'×Int×Int))×z2'×Unit)=>letI d1:=D.2.2;letI n:=d1.2.2;A.ae (c4 D.2.1).cr (A.ae (c5 d1.1).cr (A.ae (lE d1.2.1).cr (A.ae (oe n.1).cr (A.bind (A.loop (λ(D:Int×Int×Int×Int×Int×Int×z2'×List (List (Int×z1'×Int×Int))×z2'×z1'×List dy×List dN×z3'×Unit)=>letI aF:=D.2;letI t:=aF.2.2.2;letI d:=t.2.2.2;letI w:=d.2.2.2;letI o:=0<=aF.1/\aF.1<Int.ofNat (List.length w.1);letI b:=List.getD w.1 (Int.toNat aF.1) (0,0,0,0,[]);if decide (aF.1<D.1)=true then A.ae o (A.ae (c4 b.2.2.2.2).cr (A.ae o (A.pure (W.next (D.1,IntKind.wrap .i64 (Add.add aF.1 1),aF.2.1,aF.2.2.1,t.1,t.2.1,t.2.2.1,d.1,d.2.1,d.2.2.1,List.set w.1 (Int.toNat aF.1) (b.1,b.2.1,b.2.2.1,b.2.2.2.1,A.val (c4 b.2.2.2.2) []),w.2.1,w.2.2.1,()))))) else A.bind (A.pure (W.next (aF.2.1,aF.2.2.1,t.1,t.2.1,t.2.2.1,d.1,d.2.1,d.2.2.1,w.1,w.2.1,w.2.2.1,()))) λr=>A.pure (W.done r)) (Int.ofNat (List.length (A.val (c5 d1.1) [])),0,D.1,n.2.1,n.2.2.1,n.2.2.2.1,n.2.2.2.2.1,n.2.2.2.2.2.1,n.2.2.2.2.2.2.1,A.val (c4 D.2.1) [],A.val (c5 d1.1) [],A.val (lE d1.2.1) [],A.val (oe n.1) [],())) (W.bC (λ(D:Int×Int×Int×Int×z2'×List (List (Int×z1'×Int×Int))×z2'×z1'×List dy×List dN×z3'×Unit)=>letI G:=D.2.2.2;letI m:=G.2.2.2;A.bind (A.loop (λ(D:Int×Int×Int×Int×Int×Int×z2'×List (List (Int×z1'×Int×Int))×z2'×z1'×List dy×List dN×z3'×Unit)=>letI f1:=D.2;letI l:=f1.2.2.2;letI c:=l.2.2.2.2;letI ca:=c.2.2.2;letI p:=0<=f1.1/\f1.1<Int.ofNat (List.length ca.1);letI i:=List.getD ca.1 (Int.toNat f1.1) ([],(0,0),0,0,0);if decide (f1.1<D.1)=true then A.ae p (A.ae (c4 i.1).cr (A.ae p (A.pure (W.next (D.1,IntKind.wrap .i64 (Add.add f1.1 1),f1.2.1,f1.2.2.1,l.1,l.2.1,l.2.2.1,l.2.2.2.1,c.1,c.2.1,c.2.2.1,List.set ca.1 (Int.toNat f1.1) (A.val (c4 i.1) [],i.2),ca.2.1,()))))) else A.bind (A.pure (W.next (f1.2.1,f1.2.2.1,l.1,l.2.1,l.2.2.1,l.2.2.2.1,c.1,c.2.1,c.2.2.1,ca.1,ca.2.1,()))) λr=>A.pure (W.done r)) (Int.ofNat (List.length m.2.2.2.1),0,D.1,D.2.1,D.2.2.1,G.1,G.2.1,G.2.2.1,m.1,m.2.1,m.2.2.1,m.2.2.2.1,m.2.2.2.2.1,())) (W.bC (λ(D:Int×Int×Int×Int×z2'×List (List (Int×z1'×Int×Int))×z2'×z1'×List dy×List dN×z3'×Unit)=>letI q:=D.2.2.2.2.2;fin ((D.2.2.2.2.1,q.1,D.1,q.2.1),q.2.2.1,q.2.2.2.1,q.2.2.2.2.1,q.2.2.2.2.2.1,D.2.1))))))))))))))))))))
def iK (s:bJ):vH:=(s.1.1,s.1.2.1,s.1.2.2.1,s.2.2.2.2.2,s.1.2.2.2,s.2.1,s.2.2.1,s.2.2.2.1,s.2.2.2.2.1,())
def am1 (c0:z2'->A (z2')) (bF:List (List (Int×z1'×Int×Int))->A (List (List (Int×z1'×Int×Int)))) (c2:z2'->A (z2')) (c3:List (Int×z1'×Int×Int)×Unit->A (List (Int×z1'×Int×Int)×Unit)) (c4:z1'->A (z1')) (c5:List dy->A (List dy)) (lE:List dN->A (List dN)) (oe:z3'->A (z3')) (x:bJ):A bJ:=HO c0 bF c2 c3 c4 c5 lE oe x A.pure
def am2 (c0:z2'->A (z2')) (bF:List (List (Int×z1'×Int×Int))->A (List (List (Int×z1'×Int×Int)))) (c2:z2'->A (z2')) (c3:List (Int×z1'×Int×Int)×Unit->A (List (Int×z1'×Int×Int)×Unit)) (c4:z1'->A (z1')) (c5:List dy->A (List dy)) (lE:List dN->A (List dN)) (oe:z3'->A (z3')) (x:bJ×Unit):A vH:=HO c0 bF c2 c3 c4 c5 lE oe x.1 λs=>A.pure (iK s)
end Go.Fer
namespace Go.Fer
open A (W)
set_option linter.unusedVariables false
def Yw (OD:bJ->A Int) (am3:z2'×List (List (Int×z1'×Int×Int))×Int×z2'->A Bool) (x:bJ):A Bool:=
 A.bind (am3 x.1) λy=>if (y||decide (Int.ofNat (List.length x.2.1) > 40)||decide (Int.ofNat (List.length x.2.2.1) > 40)||decide (Int.ofNat (List.length x.2.2.2.1) > 40)||decide (Int.ofNat (List.length x.2.2.2.2.1) > 40))=true then A.pure true else A.bind (A.loop (λ(D:Int×bJ×Unit)=>letI c:=D.1<Int.ofNat (List.length D.2.1.2.2.1);if decide c=true then A.ae (0<=D.1/\c) (if decide (Int.ofNat (List.length (List.getD D.2.1.2.2.1 (Int.toNat D.1) (0,0,0,0,[])).2.2.2.2) > 40)=true then A.bind (A.bind (A.pure true) (λr=>A.pure (W.done r))) λr=>A.pure (W.done r) else A.pure (W.next (IntKind.wrap .i64 (Add.add D.1 1),D.2.1,()))) else A.bind (A.pure (W.next (D.2.1,()))) λr=>A.pure (W.done r)) (0,x,())) (W.bC (λ(D:(bp×z1'×List dy×List dN×z3'×Int)×Unit)=>A.bind (A.loop (λ(D:Int×(bp×z1'×List (Int×Int×Int×Int×z1')×List dN×z3'×Int)×Unit)=>letI b:=D.1<Int.ofNat (List.length D.2.1.2.2.2.1);if decide b=true then A.ae (0<=D.1/\b) (if decide (Int.ofNat (List.length (List.getD D.2.1.2.2.2.1 (Int.toNat D.1) ([],(0,0),0,0,0)).1) > 40)=true then A.bind (A.bind (A.pure true) (λr=>A.pure (W.done r))) λr=>A.pure (W.done r) else A.pure (W.next (IntKind.wrap .i64 (Add.add D.1 1),D.2.1,()))) else A.bind (A.pure (W.next (D.2.1,()))) λr=>A.pure (W.done r)) (0,D.1,())) (W.bC (λ(D:(bp×z1'×List dy×List (z1'×(Int×Int)×Int×Int×Int)×z3'×Int)×Unit)=>A.bind (OD D.1) λy=>if decide (y≠0)=true then A.pure false else A.bind (A.loop (λ(D:Int×Int×(bp×z1'×List dy×List dN×z3'×Int)×Unit)=>letI d:=D.2.2.1;letI a:=D.2.1<Int.ofNat (List.length d.2.2.1);if decide a=true then A.ae (0<=D.2.1/\a) (A.pure (W.next (IntKind.wrap .i64 (Add.add D.1 (Int.ofNat (List.length (List.getD d.2.2.1 (Int.toNat D.2.1) (0,0,0,0,[])).2.2.2.2))),IntKind.wrap .i64 (Add.add D.2.1 1),d,()))) else A.bind (A.pure (W.next (D.1,d,()))) λr=>A.pure (W.done r)) (0,0,D.1,())) (W.bC (λ(D:Int×(bp×z1'×List dy×List (z1'×(Int×Int)×Int×Int×Int)×z3'×Int)×Unit)=>A.pure (decide (Int.ofNat (List.length D.2.1.2.2.2.1) > 3)||decide (Int.ofNat (List.length D.2.1.2.2.1) > 4)||decide (Int.ofNat (List.length D.2.1.2.2.2.2.1) > 3)||decide (D.1 > 4))))))))
def Yx (am4:Unit->A bp) (x:Unit):A (bJ):=
 A.bind (am4 ()) λy=>A.pure (y,[1,0,0,0],[(1,60,0,0,[0]),(1,60,7,0,[]),(2,65,0,1,[0]),(2,60,0,0,[0,1])],[([1],(55,65),7,3,500),([1,2],(60,60),0,5,400),([2],(60,70),9,8,700),([2],(65,65),0,5,300)],[(4,2,1),(6,3,1)],2)
end Go.Fer
namespace Go.Fer
open A (W)
set_option linter.unusedVariables false
set_option linter.unusedSimpArgs false
abbrev bu:ad:=.int .i64
abbrev de:ad:=.bool
abbrev fS:ad:=.slice bu
abbrev mr:ad:=.st (.aA bu bu)
abbrev kC:ad:=.st (.aA bu (.aA bu mr))
abbrev qw:ad:=.st (.aA bu (.aA fS mr))
abbrev kX:ad:=.st (.slice qw)
abbrev jU:ad:=.st (.aA bu (.aA bu (.aA bu bu)))
abbrev kD:ad:=.st (.aA (.slice kC) (.aA (.slice kX) (.aA bu (.slice jU))))
attribute [simp] qo UT vj A.dI A.EM A.QP A.gI A.fE A.nW A.iY A.kO A.b2 A.pr ct jn US W.hj
abbrev cp:aO:=⟨.aA bu (.aA bu bu),de,λ_=>True,λx=>decide (x.2.1<=x.1)&&decide (x.1<=x.2.2)⟩
theorem am5 (x):A.le (aiF x) (cp.sh x):=A.bx λ_=>rfl
abbrev oK:aO:=⟨.aA fS bu,de,λx=>x.1.length<2 ^ 63,λx=>x.1.contains x.2⟩
abbrev HP:Type:=Int×Int×Int×Int
abbrev vJ:Type:=Int×z1'×Int×Int
abbrev mw:Type:=Int×Int×Int×Int
def gM (w:bp):Prop:=w.1.length<2 ^ 63/\w.2.1.length<2 ^ 63/\w.2.2.2.length<2 ^ 63/\∀ m∈w.2.1,m.length<2 ^ 63/\∀ s∈m,s.2.1.length<2 ^ 63
def gW (w:bp) (n:Int):Bool:=decide (0<=n)&&decide (n<(w.1.length:Int))
def n0 (w:bp) (n:Int):Bool:=decide (0<=n)&&decide (n<(w.2.1.length:Int))
def jv (w:bp) (m:Int):List vJ:=w.2.1.getD m.toNat []
def iM (w:bp) (m k:Int):Bool:=n0 w m&&(decide (0<=k)&&decide (k<((jv w m).length:Int)))
theorem uh {w:bp} {n:Int}:gW w n=true<->0<=n/\n<(w.1.length:Int):=by simp [gW]
theorem HQ {w:bp} {n:Int}:n0 w n=true<->0<=n/\n<(w.2.1.length:Int):=by simp [n0]
theorem AG {w:bp} {m k:Int}:iM w m k=true<->(0<=m/\m<(w.2.1.length:Int))/\0<=k/\k<((jv w m).length:Int):=by simp [iM,n0]
theorem HR {w:bp} (hw:gM w) (m:Int):(jv w m).length<2 ^ 63:=by
 unfold jv;rw [List.getD_eq_getElem?_getD];cases h:w.2.1[m.toNat]? with
 | none=>simp
 | some x=>exact (hw.2.2.2 x (List.mem_of_getElem? h)).1
theorem rr (n m:Int):decide (n<=m - 1)=decide (n<m):=by
 grind
abbrev pF:aO:=⟨.aA kD bu,de,λx=>gM x.1,λx=>gW x.1 x.2⟩
theorem Yy (w:bp) (n:Int) (h:gM w):M0 cp.sh (w,n)=A.pure (gW w n):=by
 unfold M0;have ak:=h.1;have hw:=bG (n:=(w.1.length:Int) - 1) (by omega) (by omega);simp [aO.sh,cp,hw,gW,rr]
theorem am6 (x):A.le (M0 cp.sh x) (pF.sh x):=A.bx λh=>Yy x.1 x.2 h
abbrev AH:aO:=⟨.aA kD bu,de,λx=>gM x.1,λx=>n0 x.1 x.2⟩
theorem am7 (w:bp) (n:Int) (h:gM w):M3 cp.sh (w,n)=A.pure (n0 w n):=by
 unfold M3;have ak:=h.2.1;have hw:=bG (n:=(w.2.1.length:Int) - 1) (by omega) (by omega);simp [aO.sh,cp,hw,n0,rr]
theorem am8 (x):A.le (M3 cp.sh x) (AH.sh x):=A.bx λh=>am7 x.1 x.2 h
abbrev rs:aO:=⟨.aA kD (.aA bu bu),de,λx=>gM x.1,λx=>iM x.1 x.2.1 x.2.2⟩
theorem Yz (w:bp) (m k:Int) (h:gM w):G7 cp.sh AH.sh (w,m,k)=A.pure (iM w m k):=by
 unfold G7;have ak:=HR h m;have hw:=bG (n:=((jv w m).length:Int) - 1) (by omega) (by omega);unfold jv at hw;simp only [aO.sh,cp,AH,A.dI,A.iY,bZ,hw,rr,A.bH h];rw [A.bH,A.bH (by simp)]
 ·simp only [iM,jv];simp
 ·intro hm;exact ⟨⟨hm,hm⟩,HQ.1 hm,trivial⟩
theorem am9 (x):A.le (G7 cp.sh AH.sh x) (rs.sh x):=A.bx λh=>Yz x.1 x.2.1 x.2.2 h
def vK (s:Int×Int):Bool:=(decide (0<=s.1)&&decide (s.1<=s.2))&&decide (s.2<=999)
abbrev oQ:aO:=⟨mr,de,λ_=>True,vK⟩
theorem YA (s:Int×Int):M6 cp.sh s=A.pure (vK s):=by
 unfold M6;simp [aO.sh,cp,vK]
theorem am_ (x):A.le (M6 cp.sh x) (oQ.sh x):=A.bx λ_=>YA x
def rn (l:z1'):Bool:=(List.range (l.length - 1)).all λi=>decide (l.getD i 0<l.getD (i+1) 0)
abbrev ui:aO:=⟨fS,de,λx=>x.length<2 ^ 63,rn⟩
theorem YB (l:z1') (h:l.length<2 ^ 63):M2 l=A.pure (rn l):=by
 unfold M2;rw [A.dK (List.range (l.length - 1)) (λi (_:Unit)=>(l,((i+1:Nat):Int),())) (λi b=>if (decide (l.getD i 0<l.getD (i+1) 0))=true then .next b else .done (.done false)) (λ_=>.next ()) () ?_ ?_ ?_]
 ·rw [G2];unfold rn;cases (List.range (l.length - 1)).all λi=>decide (l.getD i 0<l.getD (i+1) 0)<;>simp
 ·simp
 ·intro i M b;have dM:i+1<l.length:=by grind
  have hw:=bG (n:=(i:Int)+1+1) (by omega) (by omega);have gR:=bG (n:=(i:Int)+1 - 1) (by omega) (by omega);have aF:((i:Int)+1).toNat=i+1:=by omega
  have bB:((i:Int)+1 - 1).toNat=i:=by omega
  have cf:(0:Int)<=(i:Int)+1/\(i:Int)+1<(l.length:Int):=by omega
  have cF:(0:Int)<=(i:Int)+1 - 1/\(i:Int)+1 - 1<(l.length:Int):=by omega
  simp only [bZ,Int.natCast_add,Int.cast_ofNat_Int,hw,gR,cf,cF,A.bH,aF,bB,ct,List.getElem_range,decide_eq_true_eq,if_true,A.aJ,decide_true,and_self,Int.natCast_one];generalize l.getD i 0=aN;generalize l.getD (i+1) 0=B;by_cases hc:aN<B
  ·simp [hc,Int.not_le.2 hc]
  ·simp [hc,Int.not_lt.1 hc]
 ·intro b;have:¬(((List.range (l.length - 1)).length:Int)+1<(l.length:Int)):=by grind
  simp [this];omega
theorem am' (x):A.le (M2 x) (ui.sh x):=A.bx λh=>YB x h
end Go.Fer
namespace Go.Fer
open A (W)
set_option linter.unusedVariables false
set_option linter.unusedSimpArgs false
def qx (n:Int):Bool:=decide (0<=n)&&decide (n<=9)
def pG (s:vJ):Bool:=s.2.1.all qx&&(qx s.1&&decide ((s.2.1.length:Int)<=4)&&rn s.2.1&&vK s.2.2)
def ru (s:HP):Bool:=qx s.1&&qx s.2.1&&vK s.2.2
def sJ (w:bp) (t:mw):Bool:=gW w t.1&&iM w t.2.1 t.2.2.1&&(decide (0<=t.2.2.2)&&decide (t.2.2.2<=1))
def qy (m:List vJ):Bool:=!decide ((m.length:Int) > 4)&&m.all pG
def vL (w:bp):Bool:=!(decide ((w.1.length:Int) > 10)||decide ((w.2.1.length:Int) > 6)||!(decide (0<=w.2.2.1)&&decide (w.2.2.1<=99))||decide ((w.2.2.2.length:Int) > 30))
def kY (w:bp):Bool:=vL w&&w.1.all ru&&w.2.1.all qy&&w.2.2.2.all (sJ w)
abbrev sK:aO:=⟨qw,de,λx=>x.2.1.length<2 ^ 63,pG⟩
theorem ana (s:vJ) (h:s.2.1.length<2 ^ 63):M7 ui.sh cp.sh oQ.sh s=A.pure (pG s):=by
 unfold M7;rw [A.dK s.2.1 (λi (_:Unit)=>((i:Int),s,())) (λn b=>if qx n=true then .next b else .done (.done false)) (λ_=>.next (s,())) () ?_ ?_ ?_]
 ·rw [G2];unfold pG;cases s.2.1.all qx with
  | false=>simp
  | true=>
   simp only [aO.sh,cp,ui,oQ,A.bH h,qx,if_true,A.aJ,A.b2,A.dI,A.iY,A.bw,bZ,h,implies_true,Bool.true_and];simp
 ·rfl
 ·intro i M b;have hw:=bG (n:=(i:Int)+1) (by omega) (by omega);simp [aO.sh,cp,M,hw,qx];grind
 simp
theorem anb (x):A.le (M7 ui.sh cp.sh oQ.sh x) (sK.sh x):=A.bx λh=>ana x h
abbrev sL:aO:=⟨kD,de,gM,kY⟩
theorem anc (w:bp) (h:gM w):M4 pF.sh rs.sh cp.sh oQ.sh sK.sh w=A.pure (kY w):=by
 have aG:=h;obtain ⟨G,V,ah,a7⟩:=h;unfold M4;simp only [aO.sh,cp,A.iY,A.dI,implies_true,A.bw,bZ,qo];split
 ·rename_i hc;have:vL w=false:=by unfold vL;grind
  simp [kY,this]
 ·rename_i hc;have cR:vL w=true:=by unfold vL;grind
  have axd:w.2.1.length<=6:=by grind
  rw [A.dK w.1 (λi (_:Unit)=>((i:Int),w,())) (λn b=>if (!qx n.1||!qx n.2.1||!vK n.2.2)=true then .done (.done false) else .next b) (λ_=>.next (w,())) () ?_ ?_ ?_]
  ·rw [kP (q:=ru) _ _ (λt=>by simp only [ru,Bool.not_and])];cases ij:w.1.all ru with
   | false=>simp [kY,ij]
   | true=>
    simp only [A.aJ,if_true,A.b2];rw [A.dK w.2.1 (λi (_:Unit)=>((i:Int),w,())) (λm b=>if qy m=true then .next b else .done (.done false)) (λ_=>.next (w,())) () ?_ ?_ ?_]
    ·rw [G2];cases aT:w.2.1.all qy with
     | false=>simp [kY,aT]
     | true=>
      simp only [A.aJ,if_true,A.b2];rw [A.dK w.2.2.2 (λi (_:Unit)=>((i:Int),w,())) (λt b=>if (!gW w t.1||!iM w t.2.1 t.2.2.1||!(decide (0<=t.2.2.2)&&decide (t.2.2.2<=1)))=true then .done (.done false) else .next b) (λ_=>.next ()) () ?_ ?_ ?_]
      ·rw [kP (q:=sJ w) _ _ (λt=>by simp only [sJ,Bool.not_and])];cases ji:w.2.2.2.all (sJ w)<;>simp [kY,ij,aT,ji,cR]
      ·rfl
      ·intro i M b;have hw:=bG (n:=(i:Int)+1) (by omega) (by omega);simp only [bZ,cY M,if_true,dm M,cJ M,A.bw,aO.sh,pF,rs,A.dI,A.iY,aG,implies_true,qo,A.aJ,ct,hw];exact mW (mk:=λ_:Unit=>((i:Int)+1,w,()))
      simp
    ·rfl
    ·intro i M b;have hw:=bG (n:=(i:Int)+1) (by omega) (by omega);obtain ⟨kd,pj⟩:=a7 w.2.1[i] (List.getElem_mem M);simp only [bZ,Int.ofNat_lt,M,decide_true,if_true,dm M,Int.natCast_nonneg,and_self,A.bw];by_cases hlen:(w.2.1[i].length:Int) > 4
     ·simp [hlen,qy]
     ·simp only [hlen,decide_false,Bool.false_eq_true,if_false];rw [A.dK w.2.1[i] (λk (_:Unit)=>((i:Int),(k:Int),w,())) (λs b=>if (!pG s)=true then .done (.done (.done (.done false))) else .next b) (λ_=>.next ((i:Int),w,())) () ?_ ?_ ?_]
      ·rw [kP (q:=pG) _ _ (λ_=>rfl)];cases ON:w.2.1[i].all pG<;>simp [qy,ON,hlen,hw]
      ·rfl
      ·intro k ao b;have mv:=bG (n:=(k:Int)+1) (by omega) (by omega);have AI:=pj w.2.1[i][k] (List.getElem_mem ao);simp only [bZ,cY ao,cY M,if_true,dm M,dm ao,cJ M,cJ ao,A.bw,sK,A.dI,AI,A.bH AI,A.aJ,ct,mv];exact mW (mk:=λ_:Unit=>((i:Int),(k:Int)+1,w,()))
      simp_all
    simp
  ·rfl
  ·intro i M b;have hw:=bG (n:=(i:Int)+1) (by omega) (by omega);simp only [bZ,cY M,if_true,dm M,cJ M,A.bw,aO.sh,oQ,A.dI,A.iY,implies_true,qo,A.aJ,ct,hw,Bool.not_not];exact mW (mk:=λ_:Unit=>((i:Int)+1,w,()))
  simp
theorem ane (x):A.le (M4 pF.sh rs.sh cp.sh oQ.sh sK.sh x) (sL.sh x):=A.bx λh=>anc x h
end Go.Fer
namespace Go.Fer
open A (W)
set_option linter.unusedVariables false
set_option linter.unusedSimpArgs false
abbrev qz:mw:=(0,0,0,0)
def nc (a b:mw):Bool:=decide (a.1=b.1)&&decide (a.2.1=b.2.1)&&decide (a.2.2.1=b.2.2.1)&&decide (a.2.2.2≠b.2.2.2)
def nV (l:List mw):Bool:=(List.range l.length).all λi=>(List.range i).all λk=>!nc (l.getD k qz) (l.getD i qz)
def cL (w:bp):Int:=if kY w=true then (if nV w.2.2.2=true then 0 else 71) else 70
theorem YC {a b:Nat} (h:a<b):((0:Int)<=(a:Int)/\(a:Int)<(b:Int))=True:=cJ h
abbrev hX:aO:=⟨kD,bu,gM,cL⟩
theorem anf (w:bp) (h:gM w):M1 sL.sh w=A.pure (cL w):=by
 have aG:=h;obtain ⟨G,V,ah,a7⟩:=h;unfold M1;simp only [aO.sh,sL,A.dI,A.bH aG];unfold cL;cases hw:kY w with
 | false=>simp
 | true=>
  simp only [Bool.not_true,Bool.false_eq_true,if_false,if_true];rw [A.dK (List.range w.2.2.2.length) (λi (_:Unit)=>((i:Int),w,())) (λi b=>if (List.range i).any (λk=>nc (w.2.2.2.getD k qz) (w.2.2.2.getD i qz))=true then .done (.done (71:Int)) else .next b) (λ_=>.next ()) () ?_ ?_ ?_]
  ·rw [kP (q:=λi=>(List.range i).all λk=>!nc (w.2.2.2.getD k qz) (w.2.2.2.getD i qz)) _ _ (λi=>UW (λk=>by simp) _)];have e:((List.range w.2.2.2.length).all λi=>(List.range i).all λk=>!nc (w.2.2.2.getD k qz) (w.2.2.2.getD i qz))=nV w.2.2.2:=rfl;rw [e];cases nV w.2.2.2<;>simp
  ·rfl
  ·intro i M b;have M:i<w.2.2.2.length:=by grind
   have hZ:=bG (n:=(i:Int)+1) (by omega) (by omega);simp only [bZ,cY M,if_true,List.getElem_range];rw [A.dK (List.range i) (λk (_:Unit)=>((i:Int),(k:Int),w,())) (λk b=>if nc (w.2.2.2.getD k qz) (w.2.2.2.getD i qz)=true then .done (.done (.done (.done (71:Int)))) else .next b) (λ_=>.next ((i:Int),w,())) () ?_ ?_ ?_]
   ·rw [rj];cases (List.range i).any (λk=>nc (w.2.2.2.getD k qz) (w.2.2.2.getD i qz))<;>simp [hZ]
   ·rfl
   ·intro k ao b;have ao:k<i:=by grind
    have vu:k<w.2.2.2.length:=by omega
    have mv:=bG (n:=(k:Int)+1) (by omega) (by omega);simp only [cY ao,if_true,List.getElem_range,YC vu,YC M,A.bw,Int.toNat_natCast,A.aJ,ct,mv];exact mW (mk:=λ_:Unit=>((i:Int),(k:Int)+1,w,()))
   simp
  simp
theorem ang (x):A.le (M1 sL.sh x) (hX.sh x):=A.bx λh=>anf x h
def gC (w:bp) (i:Int):HP:=w.1.getD i.toNat (0,0,0,0)
def uj (w:bp) (m k:Int):vJ:=(jv w m).getD k.toNat (0,[],0,0)
theorem anh {w:bp} {i:Int} (h:gW w i=true):gC w i∈w.1:=by
 rw [uh] at h;exact xF h.1 h.2
theorem OO {w:bp} {m k:Int} (h:iM w m k=true):jv w m∈w.2.1:=by
 rw [AG] at h;exact xF h.1.1 h.1.2
theorem YD {w:bp} {m k:Int} (h:iM w m k=true):uj w m k∈jv w m:=by
 rw [AG] at h;exact xF h.2.1 h.2.2
theorem AJ {w:bp} (h:kY w=true):vL w=true/\(∀ s∈w.1,ru s=true)/\(∀ m∈w.2.1,qy m=true)/\∀ t∈w.2.2.2,sJ w t=true:=by
 simp only [kY,Bool.and_eq_true,List.all_eq_true] at h;grind
theorem D3 {w:bp} (h:kY w=true):w.1.length<=10/\w.2.1.length<=6/\(0<=w.2.2.1/\w.2.2.1<=99)/\w.2.2.2.length<=30:=by
 have:=(AJ h).1;simp [vL] at this;omega
theorem ani {w:bp} (h:kY w=true) {m k:Int} (hm:iM w m k=true):(jv w m).length<=4:=by
 have:=(AJ h).2.2.1 _ (OO hm);simp [qy] at this;omega
theorem anj {w:bp} (h:kY w=true) {m k:Int} (hm:iM w m k=true):pG (uj w m k)=true:=by
 have:=(AJ h).2.2.1 _ (OO hm);simp only [qy,Bool.and_eq_true,List.all_eq_true] at this;exact this.2 _ (YD hm)
theorem ank {s:vJ} (h:pG s=true):0<=s.2.2.1/\s.2.2.1<=s.2.2.2/\s.2.2.2<=999:=by
 simp only [pG,vK,Bool.and_eq_true,decide_eq_true_eq] at h;omega
theorem YE {w:bp} (h:kY w=true) {i:Int} (M:gW w i=true):0<=(gC w i).2.2.1/\(gC w i).2.2.1<=(gC w i).2.2.2/\(gC w i).2.2.2<=999:=by
 have:=(AJ h).2.1 _ (anh M);simp only [ru,vK,Bool.and_eq_true,decide_eq_true_eq] at this;omega
theorem anl {w:bp} (h:kY w=true) {t:mw} (aL:t∈w.2.2.2):gW w t.1=true/\iM w t.2.1 t.2.2.1=true:=by
 have:=(AJ h).2.2.2 _ aL;simp only [sJ,Bool.and_eq_true] at this;grind
def vM (w:bp) (i n m k:Int):Bool:=
 decide ((gC w i).1=(uj w m k).1)&&(uj w m k).2.1.contains (gC w i).2.1&&(decide ((uj w m k).2.2.1<=n)&&decide (n<=(uj w m k).2.2.2+w.2.2.1))
def qA (w:bp):Prop:=gM w/\kY w=true
abbrev D4:aO:=⟨.aA kD (.aA bu (.aA bu (.aA bu bu))),de,λx=>qA x.1/\gW x.1 x.2.1=true/\iM x.1 x.2.2.2.1 x.2.2.2.2=true,λx=>vM x.1 x.2.1 x.2.2.1 x.2.2.2.1 x.2.2.2.2⟩
theorem anm (w:bp) (i n m k:Int) (hw:qA w) (M:gW w i=true) (hm:iM w m k=true):U5 oK.sh cp.sh (w,i,n,m,k)=A.pure (vM w i n m k):=by
 unfold U5;have cf:=uh.1 M;have cF:=AG.1 hm;have fi:=ank (anj hw.2 hm);have RC:=(D3 hw.2).2.2.1;have AI:(uj w m k).2.1.length<2 ^ 63:=(hw.1.2.2.2 _ (OO hm)).2 _ (YD hm);have hZ:=bG (n:=(uj w m k).2.2.2+w.2.2.1) (by omega) (by omega);unfold vM;simp only [uj,jv,gC] at *
 simp only [aO.sh,oK,cp,A.iY,A.dI,bZ,cf,cF,and_self,A.bw,implies_true,ct,hZ,vj,A.bH (λ_=>AI),AI];rfl
def uk (w:bp) (i n:Int) (t:mw):Bool:=!(decide (t.1=i)&&!decide (vM w i n t.2.1 t.2.2.1=decide (t.2.2.2=1)))
def OP (w:bp) (i n:Int):Bool:=w.2.2.2.all (uk w i n)&&(decide ((gC w i).2.2.1<=n)&&decide (n<=(gC w i).2.2.2))
def gX (w:bp) (i:Int):z1':=(et (gC w i).2.2.1 (gC w i).2.2.2).filter (OP w i)
theorem YF {w:bp} {i:Int} (hw:qA w) (M:gW w i=true):(gX w i).length<=1000:=by
 have:=YE hw.2 M;have V:=List.length_filter_le (OP w i) (et (gC w i).2.2.1 (gC w i).2.2.2);rw [xG] at V;unfold gX;omega
theorem ano {w:bp} {i:Nat} (h:i<w.1.length):gW w (i:Int)=true:=by rw [uh];omega
def vN (w:bp):Bool:=(List.range w.1.length).all λi=>!decide (((gX w (i:Int)).length:Int)=0)
def eI (w:bp) (b_:Bool):Int:=if cL w≠0 then cL w else if b_=false then 1 else if vN w=true then 0 else 3
theorem OQ {w:bp} (h:cL w=0):kY w=true:=by
 unfold cL at h;grind
theorem D5 {w:bp} {b_:Bool} (h:eI w b_=0):cL w=0/\b_=true/\vN w=true:=by
 unfold eI at h;grind
theorem YG {w:bp} {b_:Bool} (aG:gM w) (h:eI w b_=0):qA w:=⟨aG,OQ (D5 h).1⟩
theorem anp {w:bp} (h:vN w=true) {i:Int} (M:gW w i=true):0<(gX w i).length:=by
 rw [uh] at M;have:=List.all_eq_true.1 h i.toNat (by grind);grind
def vO (w:bp) (i:Int):(Int×Int)×Int:=if eI w (gW w i)≠0 then ((0,0),eI w (gW w i)) else (((gX w i).getD 0 0,(gX w i).getD ((gX w i).length - 1) 0),0)
abbrev x2:aO:=⟨.aA kD bu,.aA mr bu,λx=>gM x.1,λx=>vO x.1 x.2⟩
def HS (some many:Int):Int:=if some=many then 1 else if some=0 then 2 else 3
abbrev HT:aO:=⟨.aA bu bu,bu,λ_=>True,λx=>HS x.1 x.2⟩
theorem YH {al:Type} {p:al->Bool}:∀ (l:List al) (n:Int),l.foldl (λn x=>if p x=true then n+1 else n) n=n+(l.countP p:Int)
 | [],n=>by simp
 | x::l,n=>by
  simp only [List.foldl_cons,List.countP_cons];rw [YH l];grind
def um (w:bp) (i m k:Int):Int:=HS ((gX w i).countP λn=>vM w i n m k:Int) ((gX w i).length:Int)
def qB (w:bp) (i m k:Int):Int×Int:=if eI w (gW w i&&iM w m k)≠0 then (0,eI w (gW w i&&iM w m k)) else (um w i m k,0)
abbrev AK:aO:=⟨.aA kD (.aA bu (.aA bu bu)),.aA bu bu,λx=>gM x.1,λx=>qB x.1 x.2.1 x.2.2.1 x.2.2.2⟩
end Go.Fer
namespace Go.Fer
open A (W)
set_option linter.unusedVariables false
set_option linter.unusedSimpArgs false
section
variable {al:Type}
def xN (d:al) (x:List al×(al->A Bool)):A Int:=
 A.bind (A.loop (λ(D:List al×(al->A Bool)×Int×Int×Unit)=>if decide (D.2.2.2.1<D.2.2.1)=true then A.ae (0<=D.2.2.2.1/\
 D.2.2.2.1<Int.ofNat (List.length D.1)) (A.bind (D.2.1 (List.getD D.1 (Int.toNat D.2.2.2.1) d)) λy=>if y=true then A.bind (A.bind (A.pure
 D.2.2.2.1) λr=>A.pure (W.done r)) λr=>A.pure (W.done r) else A.pure (W.next (D.1,D.2.1,D.2.2.1,IntKind.wrap .i64 (Add.add
 D.2.2.2.1 1),()))) else A.bind (A.pure (W.next ())) λr=>A.pure (W.done r)) (x.1,x.2,Int.ofNat (List.length x.1),0,())) (W.bC λ(D
 : Unit)=>A.pure (-1))
def DD (c:List al×(al->A Bool)->A Int) (x:List al×(al->A Bool)):A Bool:=A.bind (c x) λy=>A.pure (decide (y>=0))
def YI (c:List al×(al->A Bool)->A Bool) (bF:al×Option (al->A Bool)->A Bool) (x:List al×(al->A Bool)):A Bool:=
 A.bind (c (x.1,λhv=>bF (hv,some x.2))) λy=>A.pure !y
def YJ (x:al×Option (al->A Bool)):A Bool:=A.bind (Option.getD x.2 (λx=>{ cr:=False,bR:=λx=>False }) x.1) λy=>A.pure !y
def hL (p:al->Bool):List al->Int->Int
 | [],_=>-1
 | x::l,i=>if p x=true then i else hL p l (i+1)
theorem z_ (p:al->Bool):∀ (l:List al) (i:Int),0<=i->(decide (hL p l i>=0))=l.any p
 | [],i,_=>by rfl
 | x::l,i,h=>by
  simp only [hL,List.any_cons];by_cases aj:p x=true
  ·grind
  ·have:=z_ p l (i+1) (by omega);grind
theorem z' (p:al->Bool):∀ (l:List al) (i:Int),eX (λx (i:Int)=>if p x=true then (.done (.done i):W Int (W Unit Int)) else .next (i+1)) (λ_=>.next ()) l i=if l.any p=true then .done (hL p l i) else .next ()
 | [],i=>by rfl
 | x::l,i=>by
  simp only [eX,List.any_cons,hL];by_cases aj:p x=true
  ·grind
  ·have:=z' p l (i+1);grind
theorem DE {p:al->Bool}:∀ (l:List al) (i:Int),¬l.any p=true->hL p l i=-1
 | [],_,_=>rfl
 | x::l,i,aD=>by
  simp only [List.any_cons,Bool.or_eq_true,not_or] at aD;simp only [hL,aD.1,Bool.false_eq_true,if_false];exact DE l _ aD.2
theorem NQ (d:al) (l:List al) (f:al->A Bool) (h:l.length<2 ^ 63) (aw:∀ y∈l,∃ b,f y=A.pure b):xN d (l,f)=A.pure (hL (λy=>(f y).val false) l 0):=by
 unfold xN;rw [A.gA l (λi (b:Int)=>(l,f,(l.length:Int),b,())) (λy (i:Int)=>if (f y).val false=true then (.done (.done i):W Int (W Unit Int)) else .next (i+1)) (λ_=>.next ()) (λi b=>b=(i:Int)) 0 ?_ ?_ ?_ ?_]
 ·rw [z' (λy=>(f y).val false)];by_cases ba:(l.any λy=>(f y).val false)=true
  ·simp [ba]
  ·have:hL (λy=>(f y).val false) l 0=-1:=by
    have:∀ (l:List al) (i:Int),¬(l.any λy=>(f y).val false)=true->hL (λy=>(f y).val false) l i=-1:=by
     intro l;induction l with
     | nil=>intro i _;rfl
     | cons x l aM=>
      intro i aD;simp only [List.any_cons,Bool.or_eq_true,not_or] at aD;simp only [hL,aD.1,Bool.false_eq_true,if_false];grind
    grind
   simp [ba,this]
 ·rfl
 ·rfl
 ·intro i M b aa;subst aa;have hw:=bG (n:=(i:Int)+1) (by omega) (by omega);refine ⟨?_,λbf dh=>?_⟩
  ·obtain ⟨b,aa⟩:=aw _ (List.getElem_mem M);simp only [bZ,cY M,if_true,dm M,cJ M,A.bw,aa,A.fE,A.aJ,ct,hw];split<;>rfl
  grind
 simp
end
abbrev kU (e:ad):aO:=⟨.aA (.slice e) (.fn e .bool),bu,λx=>x.1.length<2 ^ 63/\∀ y∈x.1,∃ b,x.2 y=A.pure b,λx=>hL (λy=>(x.2 y).val false) x.1 0⟩
theorem sv (e:ad) (x):A.le (xN e.db x) ((kU e).sh x):=A.bx λh=>NQ e.db x.1 x.2 h.1 h.2
abbrev iZ (e:ad):aO:=⟨.aA (.slice e) (.fn e .bool),de,λx=>x.1.length<2 ^ 63/\∀ y∈x.1,∃ b,x.2 y=A.pure b,λx=>x.1.any λy=>(x.2 y).val false⟩
theorem sw (e:ad) (x):A.le (DD (kU e).sh x) ((iZ e).sh x):=A.bx λh=>by
 unfold DD;simp only [aO.sh,kU,A.dI];rw [A.bH (by exact h)];exact congrArg A.pure (z_ (λy=>(x.2 y).val false) x.1 0 (by omega))
abbrev vP (e:ad):aO:=⟨.aA e (.bI (.fn e .bool)),de,λx=>∃ f,x.2=some f/\∃ b,f x.1=A.pure b,λx=>!((x.2.getD λ_=>A.fail) x.1).val false⟩
theorem D6 (e:ad) (x):A.le (YJ x) ((vP e).sh x):=A.bx λh=>by
 obtain ⟨y,o⟩:=x;obtain ⟨f,aw,b,aa⟩:=h;change o=some f at aw;subst aw;change f y=A.pure b at aa;unfold YJ;simp_all
abbrev jw (e:ad):aO:=⟨.aA (.slice e) (.fn e .bool),de,λx=>x.1.length<2 ^ 63/\∀ y∈x.1,∃ b,x.2 y=A.pure b,λx=>x.1.all λy=>(x.2 y).val false⟩
theorem D7 (e:ad) (x):A.le (YI (iZ e).sh (vP e).sh x) ((jw e).sh x):=A.bx λh=>by
 obtain ⟨l,f⟩:=x;obtain ⟨G,V⟩:=h;unfold YI;have hc:∀ y∈l,(vP e).sh (y,some f)=A.pure (!(f y).val false):=λy aS=>by
  obtain ⟨b,aa⟩:=V y aS;exact A.bU ⟨f,rfl,b,aa⟩ _
 simp only [aO.sh,iZ,A.dI];rw [A.bH ⟨G,λy aS=>⟨_,hc y aS⟩⟩];refine congrArg A.pure ?_;rw [List.not_any_eq_all_not];simp
end Go.Fer
