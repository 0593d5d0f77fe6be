/- Part 7 of the proof of TopSlips: shallow programs of Go functions, and what they compute. No condition. -/
import Derived.Test.YtplfnoecifjgeaaGreatDoorTopSlipsF
import Derived.Lib.AtoiAll
import Derived.Lib.ItoaLen
import Derived.Lib.Join
import Derived.Shelf.SlGeneric
import Derived.Shelf.Spec.SlicesGrow
import Derived.Shelf.Strings.OnBuilder
import Derived.Shelf.LaysM
import Derived.Shelf.Strconv.Itoa3
import Derived.Shelf.LaysC
import Derived.Shelf.Strconv.AtoiAll
import Derived.Shelf.Strings.Split
import Derived.Shelf.Slices.In.SortNone
import Derived.Test.YtplfnoecifjgeaaGreatDoorProg
import Derived.WalkKit
import Derived.WalkSpells
import Derived.Handy
import Derived.Shelf.Sort.AssemblyIn
import Derived.Sort.EveryDepth
import Derived.Handed
import Derived.Shelf.Vars
import Derived.Lib.LaidTab
import Derived.Lib.ItoaNum
noncomputable section
set_option linter.unusedVariables false
set_option linter.unusedSimpArgs false
namespace Go.Fer.aw
open A (W)
abbrev u0:ad:=.slice .str
abbrev yQ:ad:=.st (.aB lb H.iA)
def cK:aR->List aR
 | []=>[[]]
 | c::s=>if c=32 then []::cK s else match cK s with
  | []=>[[c]]
  | w::l=>(c::w)::l
theorem u1:∀ (s:aR),1<=(cK s).length/\(cK s).length<=s.length+1
 | []=>by simp[cK]
 | c::s=>by
  have:=u1 s;unfold cK;grind
theorem aae:∀ (s:aR) {w:aR},w∈cK s->w.length<=s.length
 | [],w,h=>by simp[cK]at h;simp[h]
 | c::s,w,h=>by
  have aL:=@aae s;unfold cK at h;grind
def gj:aR->Int->Int
 | [],n=>n
 | c::s,n=>if (decide ((c.toNat:Int)<48)||decide ((c.toNat:Int) > 57))=true then -1 else gj s (10*n+((c.toNat:Int) - 48))
def e2(s:aR):Int:=if (decide (s.length=0)||decide (s.length > 6)||decide (s.length > 1)&&decide ((s.getD 0 0).toNat=48))=true then -1 else gj s 0
theorem P0:∀ (s:aR) (n:Int) (k:Nat),0<=n->n<10 ^ k->gj s n<10 ^ (k+s.length)/\-1<=gj s n
 | [],n,k,aY,E=>by simp[gj];omega
 | c::s,n,k,aY,E=>by
  unfold gj;have aq:(0:Int)<10 ^ (k+(c::s).length):=Int.pow_pos (by decide);split
  ·omega
  ·rename_i hc;simp only[Bool.or_eq_true,decide_eq_true_eq,not_or]at hc;have:=P0 s (10*n+((c.toNat:Int) - 48)) (k+1) (by omega) (by omega);grind
theorem ard(s:aR):-1<=e2 s/\e2 s<=999999:=by
 unfold e2;split
 ·omega
 ·rename_i h;simp only[Bool.or_eq_true,decide_eq_true_eq,not_or]at h;have:=P0 s 0 0 (by decide) (by decide);have U:(10:Int) ^ (0+s.length)<=10 ^ 6:=by
   have:=Nat.pow_le_pow_right (n:=10) (by decide) (show 0+s.length<=6 by omega);grind
  omega
def tj(s:aR):Int:=match Go.Lib.atoiAll s with
 | .ok v=>v
 | .range=>Go.Lib.atoiSat s
 | _=>0
def rp(s:aR):Int×Bool:=(tj s,decide (0<=e2 s))
def E1(l:List aR):Option (z1'):=if l.all (λw=>decide (0<=e2 w))=true then some (l.map e2) else none
def rZ(n:Int):aR:=Go.Lib.itoa (IntKind.wrap .i64 n)
theorem P1(n:Int):(rZ n).length<=21:=by
 have:=qe .i64 n;exact Go.Lib.itoa_length_le _ this.1 this.2
abbrev tk:aR:=[111,107]
abbrev yR:aR:=[110,111]
abbrev aaf:aR:=[110,111,110,101]
abbrev P2:aR:=[115,104,111,112]
abbrev are:aR:=[108,105,97,114]
abbrev arf:aR:=[63]
def r0(l:z1'):aR:=if l=[] then aaf else Go.Lib.join (l.map rZ) [32]
def qQ(e:Int)(l:z1'):aR:=if e=0 then r0 l else if e=3 then aaf else yR
def yS(x:(Int×Int)×Int):aR:=qQ x.2 [x.1.1,x.1.2]
abbrev bl(l:z1')(i:Nat):Int:=l.getD i 0
def p1(d:bd)(m:List H.aZ)(v:z1'):aR×bd:=if (H.lf d.2 m v).2≠0 then (yR,d) else (tk,(d.1,(H.lf d.2 m v).1))
def ov(d:bd)(s:bJ):aR×bd:=if ji s≠0 then (yR,d) else (tk,(s,d.2))
def P3(d:bd)(l:z1'):aR×bd:=p1 d [(bl l 0,bl l 1,bl l 2,1,bl l 3,bl l 4)] []
def P4(d:bd)(l:z1'):aR×bd:=p1 d [(bl l 0,bl l 1,bl l 2,2,bl l 3,0)] []
def P5(d:bd)(l:z1'):aR×bd:=p1 d [] l
def P6(d:bd)(l:z1'):aR×bd:=(yS (H.Ij d.2 (bl l 0)),d)
def P7(d:bd)(l:z1'):aR×bd:=(yS (H.rN d.2 (bl l 0)),d)
def P8(d:bd)(l:z1'):aR×bd:=(yS (H.uF d.2 (bl l 0)),d)
def P9(d:bd)(l:z1'):aR×bd:=(yS (H.uG d.2 (bl l 0)),d)
def P_(r:z1'×Int):aR:=if (decide (r.2≠0)||decide (r.1.getD 0 0>=0))=true then qQ r.2 r.1 else if r.1.length=1 then P2 else P2++[32]++r0 (r.1.drop 1)
def P'(d:bd)(l:z1'):aR×bd:=(P_ (H.ns d.2 (bl l 0) (bl l 1)),d)
def Qa(r:z1'×z1'×Int):aR:=if r.2.2≠0 then qQ r.2.2 [] else r0 r.1++[32,47,32]++r0 r.2.1
def Qb(d:bd)(l:z1'):aR×bd:=(Qa (H.s6 d.2 (bl l 0)),d)
def nD(w:bx)(t:Int×Int×Int×Int):bx:=(w.1,w.2.1,w.2.2.1,w.2.2.2++[t])
def yT(d:bd)(l:z1'):aR×bd:=
 if b' (nD d.1.1 (bl l 0,bl l 1,bl l 2,bl l 3))≠0 then (yR,d) else if (wy (nD d.1.1 (bl l 0,bl l 1,bl l 2,bl l 3)) (bl l 0)).2≠0 then (are,d)
 else (tk,((nD d.1.1 (bl l 0,bl l 1,bl l 2,bl l 3),d.1.2),d.2))
def uW(r:Int×Int):aR:=if r.2≠0 then qQ r.2 [] else List.getD [[],[115,117,114,101,108,121],[110,101,118,101,114],[112,101,114,104,97,112,115]] r.1.toNat []
def Qc(d:bd)(l:z1'):aR×bd:=(uW (qO d.1.1 (bl l 0) (bl l 1) (bl l 2)),d)
def yU(d:bd)(l:z1'):aR×bd:=if bl l 0>=(d.1.2.1.length:Int) then (yR,d) else ov d (d.1.1,d.1.2.1.set (bl l 0).toNat (d.1.2.1.getD (bl l 0).toNat 0+bl l 1),d.1.2.2)
def Qd(d:bd)(l:z1'):aR×bd:=ov d (d.1.1,d.1.2.1,d.1.2.2.1,d.1.2.2.2.1,d.1.2.2.2.2.1++[(bl l 0,bl l 1,bl l 2)],d.1.2.2.2.2.2)
def Qe(d:bd)(l:z1'):aR×bd:=ov d (d.1.1,d.1.2.1,d.1.2.2.1++[(bl l 0,bl l 1,bl l 2,bl l 3,l.drop 4)],d.1.2.2.2)
def Qf(d:bd)(l:z1'):aR×bd:=ov d (d.1.1,d.1.2.1,d.1.2.2.1,d.1.2.2.2.1++[(l.drop 5,(bl l 0,bl l 1),bl l 2,bl l 3,bl l 4)],d.1.2.2.2.2)
def yV(d:bd)(l:z1'):aR×bd:=if bl l 0>=(d.1.2.2.2.1.length:Int) then (yR,d) else (tk,((d.1.1,d.1.2.1,d.1.2.2.1,d.1.2.2.2.1.eraseIdx (bl l 0).toNat,d.1.2.2.2.2),d.2))
def Qg(d:bd)(l:z1'):aR×bd:=(qQ (uZ d.1 (bl l 0)).2 (uZ d.1 (bl l 0)).1,d)
def Qh(d:bd)(l:z1'):aR×bd:=(qQ (Bw d.1 (l.map (· - 1))).2 [(Bw d.1 (l.map (· - 1))).1],d)
def Qi(d:bd)(_:z1'):aR×bd:=(qQ (yM d.1 true).2 [(yM d.1 true).1],d)
def Qj(d:bd)(_:z1'):aR×bd:=(qQ (wK d.1).2 [(wK d.1).1],d)
def Bz:Nat->bd->z1'->aR×bd
 | 0=>P3 | 1=>P4 | 2=>P5 | 3=>P6 | 4=>P7 | 5=>P8 | 6=>P9 | 7=>P' | 8=>Qb | 9=>yT
 | 10=>Qc | 11=>yU | 12=>Qd | 13=>Qe | 14=>Qf | 15=>yV | 16=>Qg | 17=>Qh | 18=>Qi | _=>Qj
def lg:List (aR×Int×Bool):=[([108,101,110,100],5,false),([98,97,99,107],4,false),([118,111,105,100],1,false),([108,97,115,116,115],1,false),([102,101,101],1,false),([111,119,101,115],1,false),([104,101,108,100],1,false),([119,104,101,114,101],2,false),([109,105,115,115,105,110,103],1,false),([116,114,105,97,108],4,false),([102,105,116,115],3,false),([115,116,111,99,107],2,false),([99,111,109,101,115],3,false),([112,105,101,99,101],4,true),([119,105,115,104],5,true),([100,114,111,112],1,false),([99,97,110],1,false),([116,97,107,101,115],0,true),([109,111,115,116],0,false),([101,120,116,114,97],0,false)]
def o_(w:aR):List (aR×Int×Bool)->Nat->Option (Int×Bool×Nat)
 | [],_=>none
 | p::l,i=>if w=p.1 then some (p.2.1,p.2.2,i) else o_ w l (i+1)
def tl(s:aR):Option (Nat×z1'):=
 match o_ ((cK s).getD 0 []) lg 0 with
 | none=>none
 | some (k,m,j)=>if (decide (((cK s).length:Int) - 1<k)||decide (((cK s).length:Int) - 1 > k)&&!m)=true then none else (E1 ((cK s).drop 1)).map λl=>(j,l)
def lO(d:bd)(s:aR):aR×bd:=match tl s with
 | none=>(arf,d)
 | some (j,l)=>Bz j d l
def iV:bd->List aR->List aR×bd
 | d,[]=>([],d)
 | d,s::l=>((lO d s).1::(iV (lO d s).2 l).1,(iV (lO d s).2 l).2)
theorem arh(d:bd)(a:List aR):(iV d a).1.length=a.length:=by
 induction a generalizing d with
 | nil=>rfl
 | cons s a aL=>simp only[iV,List.length_cons,aL]
def kr(d:bd):Int:=if (decide (ji d.1≠0)||decide (H.b' d.2≠0))=true then 120 else 0
def ij(d:bd):bd:=(d.1,(H.lf d.2 [] []).1)
abbrev aag:bd:=((([],[],0,[]),[],[],[],[],0),[],[],[],[],0,0,0,0,0,0,0)
def E2(d:bd)(l:List aR):List aR×bd×Int:=
 if kr d≠0 then ([],aag,kr d) else if l.length > 40 then ([],aag,2) else ((iV (ij d) l).1,(iV (ij d) l).2,0)
structure c7(d:bd):Prop where
 gY:fB d.1
 u2:ji d.1=0
 o':H.b' d.2=0
 yW:H.kn d.2.1<=60
theorem c7.val{d:bd}(h:c7 d):mf d.1:=Bm h.gY h.u2
theorem c7.ari{d:bd}(h:c7 d):kr d=0:=by simp[kr,h.u2,h.o']
theorem c7.E3{d:bd}(h:c7 d):H.aad d.2:=H.yP h.o'
theorem c7.fy{d:bd}(h:c7 d):H.fy d.2:=by
 have:=h.E3;exact⟨⟨by have:=this.dZ;omega,by have:=this.dP;omega,by have:=this.hZ;omega,by have:=this.n4;omega⟩,λ_=>h.yW⟩
theorem c7.jE{d:bd}(h:c7 d):H.jE d.2:=h.fy.gY
structure eE(k:Nat)(l:z1'):Prop where
 Qk:k<=l.length
 Jj:l.length<=10000
 num:∀ n∈l,0<=n/\n<=999999
theorem eE.bl{k:Nat}{l:z1'}(h:eE k l)(i:Nat):0<=bl l i/\bl l i<=999999:=by
 rcases Nat.lt_or_ge i l.length with G | G
 ·have:=h.num l[i] (by simp);grind
 ·grind
end Go.Fer.aw
namespace Go.Fer.aw
open A (W)
open H (fw)
abbrev Jk:aO:=⟨.int .i64,.str,λ_=>True,rZ⟩
abbrev E4:aO:=⟨.aB u0 .str,.str,λx=>x.1.length<=60000/\(∀ w∈x.1,w.length<=21)/\x.2.length=1,λx=>Go.Lib.join x.1 x.2⟩
theorem aah:∀ (l:List aR) (s:aR) (n:Nat),(∀ w∈l,w.length<=n)->(Go.Lib.join l s).length<=l.length*(n+s.length)
 | [],s,n,h=>by simp[Go.Lib.join_nil]
 | x::r,s,n,h=>by
  rw[Go.Lib.join_cons];have aF:∀ (r:List aR),(∀ w∈r,w.length<=n)->(Go.Lib.joinTail s r).length<=r.length*(n+s.length):=by
   intro r;induction r with
   | nil=>intro _;simp[Go.Lib.joinTail]
   | cons y r aL=>
    intro h;have E:=aL λw hw=>h w (by grind);have U:=h y (by simp);simp only[Go.Lib.joinTail,List.map_cons,List.flatten_cons,List.length_append,List.length_cons,Nat.succ_mul]at E ⊢;omega
  have E:=aF r λw hw=>h w (by grind);have U:=h x (by simp);simp only[List.length_append,List.length_cons,Nat.succ_mul];omega
theorem Ql(l:z1'):(r0 l).length<=l.length*22+4:=by
 unfold r0;split
 ·simp
 ·have:=aah (l.map rZ) [32] 21 λw hw=>by
   obtain⟨n,_,rfl⟩:=List.mem_map.1 hw;exact P1 n
  grind
abbrev yX:aO:=⟨fR,.str,λx=>x.length<=60000,r0⟩
theorem arj(x):A.le (YC Jk.sh E4.sh x) (yX.sh x):=A.bw λh=>by
 change x.length<=60000 at h;unfold YC;show _=A.pure (r0 x);unfold r0;by_cases ai:x=[]
 ·grind
 ·have al:x.length≠0:=by grind
  rw[if_neg (by grind),if_neg ai];rw[A.f_ x (λi (o:List aR)=>(x,(x.length:Int),(i:Int),o,())) (λn o=>.next (o++[rZ n])) (λo=>.next (o,())) (λi o=>o.length=i) [] ?_ rfl ?_ ?_]
  ·rw[eL,sR,List.nil_append,A.aK,A.b7];rw[show E4.sh (x.map rZ,[32])=A.pure (Go.Lib.join (x.map rZ) [32]) from A.bR ⟨by grind,λw hw=>by
    obtain⟨n,_,rfl⟩:=List.mem_map.1 hw;exact P1 n,rfl⟩ _,A.aK]
  ·rfl
  ·intro i G o ag;have hw:=bF (n:=(i:Int)+1) (by omega) (by omega);refine⟨?_,λbe cY=>?_⟩
   ·simp only[bZ,cX G,if_true,dk G,cP G,A.br,cp,hw];rw[show Jk.sh x[i]=A.pure (rZ x[i]) from rfl,A.aK,A.bq (fw (by grind))];rfl
   ·grind
  simp
abbrev qR:aO:=⟨.aB (.int .i64) fR,.str,λx=>x.2.length<=60000,λx=>qQ x.1 x.2⟩
theorem ark(x):A.le (YB yX.sh x) (qR.sh x):=A.bw λh=>by
 change x.2.length<=60000 at h;unfold YB;show _=A.pure (qQ x.1 x.2);unfold qQ;rw[show yX.sh x.2=A.pure (r0 x.2) from A.bR h _,A.aK];grind
abbrev yY:aO:=⟨.aB mI (.int .i64),.str,λ_=>True,yS⟩
theorem arl(x):A.le (YA qR.sh x) (yY.sh x):=A.bw λ_=>by
 unfold YA;rw[show qR.sh (x.2,[x.1.1,x.1.2])=A.pure (yS x) from A.bR (show 2<=60000 by decide) _,A.aK]
theorem yZ{e:Int}{l:z1'}(h:l.length<=60000):qR.sh (e,l)=A.pure (qQ e l):=A.bR h _
theorem Qm{l:z1'}(h:l.length<=60000):yX.sh l=A.pure (r0 l):=A.bR h _
theorem Jl(x:(Int×Int)×Int):yY.sh x=A.pure (yS x):=rfl
def fA(k:Nat)(g:bd->z1'->aR×bd)(x:z1'×bd×Unit):A (aR×bd×Unit):=A.dR (c7 x.2.1/\eE k x.1) ((g x.2.1 x.1).1,(g x.2.1 x.1).2,())
theorem nE:Int.toNat 0=0:=rfl
theorem nF:Int.toNat 1=1:=rfl
theorem nG:Int.toNat 2=2:=rfl
theorem nH:Int.toNat 3=3:=rfl
theorem nI:Int.toNat 4=4:=rfl
theorem nJ:Int.toNat 5=5:=rfl
theorem nK{an:Type}{k:Nat}{l:z1'}(h:eE k l)(m:A an)(i:Int)(G:0<=i/\i<(k:Int)):A.ae (0<=i/\i<Int.ofNat l.length) m=m:=
 A.bq ⟨G.1,by have:=h.Qk;grind⟩ m
def BA(x:List H.aZ×z1'×bd×Unit):A (aR×bd×Unit):=A.dR (c7 x.2.2.1/\x.1.length<2 ^ 63/\x.2.1.length<2 ^ 63) ((p1 x.2.2.1 x.1 x.2.1).1,(p1 x.2.2.1 x.1 x.2.1).2,())
theorem arn(x):A.le (Yw H.By.sh x) (BA x):=A.bw λh=>by
 obtain⟨m,v,d,⟨⟩⟩:=x;obtain⟨au,E,U⟩:=h;unfold Yw;rw[A.br,show H.By.sh (d.2,m,v)=A.pure (H.lf d.2 m v) from A.bR ⟨au.jE,E,U⟩ _,A.aK];unfold p1;by_cases e:(H.lf d.2 m v).2=0<;>simp[e]
theorem Qn{d:bd}(au:c7 d)(m:List H.aZ)(v:z1')(E:m.length<2 ^ 63)(U:v.length<2 ^ 63):BA (m,v,d,())=A.pure ((p1 d m v).1,(p1 d m v).2,()):=A.bR ⟨au,E,U⟩ _
theorem aro(x):A.le (Yv BA x) (fA 5 P3 x):=A.bw λh=>by
 obtain⟨l,d,⟨⟩⟩:=x;obtain⟨au,al⟩:c7 d/\eE _ l:=h;unfold Yv;simp (disch:=decide) only [nK al,A.br,nE,nF,nG,nH,nI,nJ];rw[Qn au _ _ (by simp) (by simp),A.aK];rfl
theorem arp(x):A.le (Yx BA x) (fA 4 P4 x):=A.bw λh=>by
 obtain⟨l,d,⟨⟩⟩:=x;obtain⟨au,al⟩:c7 d/\eE _ l:=h;unfold Yx;simp (disch:=decide) only [nK al,A.br,nE,nF,nG,nH,nI,nJ];rw[Qn au _ _ (by simp) (by simp),A.aK];rfl
theorem OF(x):A.le (Yy BA x) (fA 1 P5 x):=A.bw λh=>by
 obtain⟨l,d,⟨⟩⟩:=x;obtain⟨au,al⟩:c7 d/\eE _ l:=h;unfold Yy;rw[Qn au _ _ (by simp) (show l.length<2 ^ 63 by have:=al.Jj;omega),A.aK];rfl
theorem arq(x):A.le (Yz H.Ik.sh yY.sh x) (fA 1 P6 x):=A.bw λh=>by
 obtain⟨l,d,⟨⟩⟩:=x;obtain⟨au,al⟩:c7 d/\eE _ l:=h;unfold Yz;simp (disch:=decide) only [nK al,A.br,nE,nF,nG,nH,nI,nJ];rw[show H.Ik.sh (d.2,bl l 0)=A.pure _ from A.bR au.fy _];simp only[A.iX,A.fG,A.br,Jl];rfl
theorem ars(x):A.le (YD H.uE.sh yY.sh x) (fA 1 P7 x):=A.bw λh=>by
 obtain⟨l,d,⟨⟩⟩:=x;obtain⟨au,al⟩:c7 d/\eE _ l:=h;unfold YD;simp (disch:=decide) only [nK al,A.br,nE,nF,nG,nH,nI,nJ];rw[show H.uE.sh (d.2,bl l 0)=A.pure _ from A.bR au.fy _];simp only[A.iX,A.fG,A.br,Jl];rfl
theorem art(x):A.le (YE H.yn.sh yY.sh x) (fA 1 P8 x):=A.bw λh=>by
 obtain⟨l,d,⟨⟩⟩:=x;obtain⟨au,al⟩:c7 d/\eE _ l:=h;unfold YE;simp (disch:=decide) only [nK al,A.br,nE,nF,nG,nH,nI,nJ];rw[show H.yn.sh (d.2,bl l 0)=A.pure _ from A.bR au.fy _];simp only[A.iX,A.fG,A.br,Jl];rfl
theorem aru(x):A.le (YF H.yo.sh yY.sh x) (fA 1 P9 x):=A.bw λh=>by
 obtain⟨l,d,⟨⟩⟩:=x;obtain⟨au,al⟩:c7 d/\eE _ l:=h;unfold YF;simp (disch:=decide) only [nK al,A.br,nE,nF,nG,nH,nI,nJ];rw[show H.yo.sh (d.2,bl l 0)=A.pure _ from A.bR au.fy _];simp only[A.iX,A.fG,A.br,Jl];rfl
theorem Qo{a b:Int}:(d_ a b).length=(b+1 - a).toNat:=by simp[d_];omega
theorem aai(c:H.aX)(u t:Int):(H.ns c u t).1.length<=101:=Nat.le_trans (List.length_filter_le ..) (by rw[Qo];decide)
theorem arv{c:H.aX}{u t:Int}(h:(H.ns c u t).2=0):0<(H.ns c u t).1.length:=by
 unfold H.ns at h ⊢;rcases H.A4 c (H.wc u t) with⟨E,_⟩ | ⟨E,U,ah,a6⟩
 ·omega
 ·have ay:=H.mJ U;have cN:(0<=u/\u<=9)/\0<=t/\t<=9999:=by
   unfold H.wc at ah;rw[Bool.and_eq_true,H.lI,H.lI]at ah;exact ah
  have eQ:H.cF c≠[]:=by
   intro he;unfold H.ey at E;grind
  obtain⟨w,T,aV⟩:=List.exists_cons_of_ne_nil eQ;have hw:H.h6 c w=true:=H.wi (by grind);have ak:=H.Ym ay hw cN.1 t;have aa:-1<=H.lK c w u t/\H.lK c w u t<=99:=by
   rcases H.OY c w u t with h | ⟨s,aD,h⟩
   ·omega
   ·rw[h];obtain⟨e,he,rfl⟩:=List.mem_map.1 aD;have:=H.OV ay (List.mem_filter.1 he).1;omega
  refine List.length_pos_of_mem (a:=H.lK c w u t) (List.mem_filter.2 ⟨oW.2 aa,?_⟩);rw[List.contains_iff_mem];unfold H.Il;grind
theorem arw(x):A.le (YG H.yp.sh qR.sh yX.sh x) (fA 2 P' x):=A.bw λh=>by
 obtain⟨l,d,⟨⟩⟩:=x;obtain⟨au,al⟩:c7 d/\eE _ l:=h;unfold YG;simp (disch:=decide) only [nK al,A.br,nE,nF,nG,nH,nI,nJ];have E:=aai d.2 (bl l 0) (bl l 1);have U:=arv (c:=d.2) (u:=bl l 0) (t:=bl l 1);have hc:H.yp.sh (d.2,bl l 0,bl l 1)=A.pure (H.ns d.2 (bl l 0) (bl l 1)):=A.bR au.fy _;simp only[hc];show _=A.pure (P_ (H.ns d.2 (bl l 0) (bl l 1)),d,());generalize H.ns d.2 (bl l 0) (bl l 1)=r at *
 simp only[A.iX,A.fG,A.br];rw[A.bq (λaa=>⟨⟨aa,trivial⟩,⟨by decide,by grind⟩,trivial⟩),yZ (by omega),A.aK];unfold P_;by_cases e:(decide (r.2≠0)||decide (r.1.getD 0 0>=0))=true
 ·grind
 ·rw[if_neg e,if_neg e];have bH:r.2=0:=by grind
  have aq:=U bH;by_cases az:r.1.length=1
  ·grind
  ·rw[if_neg (by grind),if_neg az];rw[A.bq ⟨by decide,by grind,Int.le_refl _⟩];have pP:List.take (Int.ofNat r.1.length).toNat r.1=r.1:=by simp
   rw[pP];rw[Qm (by grind),A.aK];have lZ:=Ql (r.1.drop 1);rw[A.bq (fw (by grind))];rfl
theorem arx(c:H.aX)(t:Int):(H.s6 c t).1.length<=10/\(H.s6 c t).2.1.length<=10:=by
 unfold H.s6;split
 ·simp
 ·exact⟨Nat.le_trans (List.length_filter_le ..) (by rw[Qo];decide),Nat.le_trans (List.length_filter_le ..) (by rw[Qo];decide)⟩
theorem ary(x):A.le (YH H.Im.sh qR.sh yX.sh x) (fA 1 Qb x):=A.bw λh=>by
 obtain⟨l,d,⟨⟩⟩:=x;obtain⟨au,al⟩:c7 d/\eE _ l:=h;unfold YH;simp (disch:=decide) only [nK al,A.br,nE,nF,nG,nH,nI,nJ];have E:=arx d.2 (bl l 0);have hc:H.Im.sh (d.2,bl l 0)=A.pure (H.s6 d.2 (bl l 0)):=A.bR au.fy _;simp only[hc];show _=A.pure (Qa (H.s6 d.2 (bl l 0)),d,());generalize H.s6 d.2 (bl l 0)=r at *
 simp only[A.iX,A.fG,A.br];rw[yZ (by simp),Qm (by omega),Qm (by omega)];have eF:=Ql r.1;have mj:=Ql r.2.1;unfold Qa;by_cases e:r.2.2=0
 ·simp only[A.aK];rw[A.bq (fw (by grind)),A.bq (fw (by grind))];simp[e]
 ·simp[e]
theorem arz(w:bx)(i m k:Int):0<=uR w i m k/\uR w i m k<4:=by
 unfold uR Iv;grind
theorem arA(x):A.le (YJ Bf.sh qR.sh x) (fA 3 Qc x):=A.bw λh=>by
 obtain⟨l,d,⟨⟩⟩:=x;obtain⟨au,al⟩:c7 d/\eE _ l:=h;unfold YJ;simp (disch:=decide) only [nK al,A.br,nE,nF,nG,nH,nI,nJ];have hc:Bf.sh (d.1.1,bl l 0,bl l 1,bl l 2)=A.pure (qO d.1.1 (bl l 0) (bl l 1) (bl l 2)):=A.bR au.gY.1 _;simp only[hc];show _=A.pure (uW (qO d.1.1 (bl l 0) (bl l 1) (bl l 2)),d,());have E:0<=(qO d.1.1 (bl l 0) (bl l 1) (bl l 2)).1/\(qO d.1.1 (bl l 0) (bl l 1) (bl l 2)).1<4:=by
  have:=arz d.1.1 (bl l 0) (bl l 1) (bl l 2);unfold qO;grind
 generalize qO d.1.1 (bl l 0) (bl l 1) (bl l 2)=r at *
 simp only[A.iX,A.fG,A.br];rw[yZ (by simp),A.bq ⟨E.1,E.2⟩];unfold uW;by_cases e:r.2=0<;>simp[e]
theorem arB{s:bJ}(h:mf s)(w:Int):(uZ s w).1.length<=2000:=by
 have:=h.IS;unfold uZ Z7;grind
theorem arC(x):A.le (YR I8.sh qR.sh x) (fA 1 Qg x):=A.bw λh=>by
 obtain⟨l,d,⟨⟩⟩:=x;obtain⟨au,al⟩:c7 d/\eE _ l:=h;unfold YR;simp (disch:=decide) only [nK al,A.br,nE,nF,nG,nH,nI,nJ];rw[show I8.sh (d.1,bl l 0)=A.pure (uZ d.1 (bl l 0)) from A.bR au.gY _];have:=arB au.val (bl l 0);simp only[A.iX,A.fG,A.br];rw[yZ (show (uZ d.1 (bl l 0)).1.length<=60000 by omega),A.aK];rfl
def Jm(x:z1'×Unit):A (z1'×Unit):=A.dR (x.1.length<=3000000) x
theorem arD(x):A.le (YS I9.sh Jm qR.sh x) (fA 0 Qh x):=A.bw λh=>by
 obtain⟨l,d,⟨⟩⟩:=x;obtain⟨au,al⟩:c7 d/\eE _ l:=h;have hm:=al.Jj;change l.length<=10000 at hm;unfold YS;rw[show Jm (l,())=A.pure (l,()) from A.bR (by grind) _,A.aK];rw[A.f_ l (λi (o:z1')=>((l.length:Int),(i:Int),o++l.drop i,d,())) (λn o=>.next (o++[n - 1])) (λo=>.next (o,d,())) (λi o=>o.length=i) [] ?_ rfl ?_ ?_]
 ·rw[eL,sR,List.nil_append,A.aK,A.b7,A.br];rw[show I9.sh (d.1,l.map (· - 1))=A.pure (Bw d.1 (l.map (· - 1))) from A.bR ⟨au.gY,by grind⟩ _,A.aK,yZ (by simp),A.aK];rfl
 ·simp
 ·intro i G o ag;have hw:=bF (n:=(i:Int)+1) (by omega) (by omega);have ax:=al.num l[i] (by simp);have gZ:=bF (n:=l[i] - 1) (by omega) (by omega);subst ag;have ch:o.length<(o++l.drop o.length).length:=by grind
  have ay:(o++l.drop o.length)[o.length]=l[o.length]:=by simp
  have aD:(o++l.drop o.length).set o.length (l[o.length] - 1)=o++[l[o.length] - 1]++l.drop (o.length+1):=by
   rw[List.set_append_right _ _ (Nat.le_refl _),Nat.sub_self,List.drop_eq_getElem_cons G,List.set_cons_zero,List.append_assoc];rfl
  refine⟨?_,λbe cY=>?_⟩
  ·simp only[bZ,cX G,if_true,cP ch,A.br,cp,hw];rw[show (o++l.drop o.length).getD (Int.toNat (o.length:Int)) 0=l[o.length] by grind,gZ,Int.toNat_natCast,aD];rfl
  ·grind
 simp
theorem arE(x):A.le (YT I6.sh qR.sh x) (fA 0 Qi x):=A.bw λh=>by
 obtain⟨l,d,⟨⟩⟩:=x;obtain⟨au,al⟩:c7 d/\eE _ l:=h;unfold YT;rw[A.br,show I6.sh d.1=A.pure (yM d.1 true) from A.bR au.gY _,A.aK,yZ (by simp),A.aK];rfl
theorem arF(x):A.le (YU Bv.sh qR.sh x) (fA 0 Qj x):=A.bw λh=>by
 obtain⟨l,d,⟨⟩⟩:=x;obtain⟨au,al⟩:c7 d/\eE _ l:=h;unfold YU;rw[A.br,show Bv.sh d.1=A.pure (wK d.1) from A.bR au.gY _,A.aK,yZ (by simp),A.aK];rfl
def Qp{an:Type}(x:List an×Unit):A (List an×Unit):=A.bind (A.any λ(b:Bool)=>b=true->x.1=[]) λ(y:Bool)=>if y=true then A.pure ([],()) else A.ae (bQ (Add.add 0 (List.length x.1))) (A.pure ([]++x.1,()))
abbrev fS(t:ad):aO:=⟨.slice t,.slice t,λx=>x.length<=3000000,λx=>x⟩
def qS{an:Type}(x:List an×Unit):A (List an×Unit):=A.dR (x.1.length<=3000000) x
theorem wO{an:Type}(x:List an×Unit):A.le (Qp x) (qS x):=A.sP λh=>by
 unfold Qp;rw[A.gb];refine⟨⟨false,by simp⟩,λb aa=>?_⟩;change b=true->x.1=[]at aa;obtain⟨l,⟨⟩⟩:=x;cases b with
 | true=>rw[show l=[] from aa rfl];exact A.eb.2 rfl
 | false=>
  simp only[Bool.false_eq_true,if_false];exact A.kP.2 ⟨by change l.length<=3000000 at h;simp only[hO,bQ];omega,A.eb.2 (by simp)⟩
theorem arG(x:z1'×Unit):A.le (Qp x) (Jm x):=wO x
def aaj{an:Type}(z:an)(x:Int×Int×List an×Unit):A ((Nat×Nat)×List an×Unit):=
 A.ae (0<=x.1/\x.1<=x.2.1/\x.2.1<=Int.ofNat (List.length x.2.2.1)/\Int.ofNat (List.length x.2.2.1)<=Int.ofNat (List.length x.2.2.1)) (if decide
 (x.1=x.2.1)=true then A.pure ((0,List.length x.2.2.1),x.2.2.1,()) else A.ae ((0:Int)<=0/\0<=x.1/\x.1<=Int.ofNat (List.length x.2.2.1))
 (A.ae (0<=x.2.1/\x.2.1<=Int.ofNat (List.length x.2.2.1)/\Int.ofNat (List.length x.2.2.1)<=Int.ofNat (List.length x.2.2.1)) (A.ae (Add.add
 (Int.toNat x.1) (List.length (List.drop (Int.toNat x.2.1) (List.take (Int.toNat (Int.ofNat (List.length x.2.2.1))) x.2.2.1)))<=List.length x.2.2.1)
 (A.ae (0<=Int.ofNat (Add.add (Int.toNat x.1) (List.length (List.drop (Int.toNat x.2.1) (List.take (Int.toNat (Int.ofNat (List.length x.2.2.1)))
 x.2.2.1))) - Int.toNat 0)/\Int.ofNat (Add.add (Int.toNat x.1) (List.length (List.drop (Int.toNat x.2.1) (List.take (Int.toNat (Int.ofNat (List.length
 x.2.2.1))) x.2.2.1))) - Int.toNat 0)<=Int.ofNat (List.length x.2.2.1)/\Int.ofNat (List.length x.2.2.1)<=Int.ofNat (List.length (List.take
 (Int.toNat x.1) x.2.2.1++List.drop (Int.toNat x.2.1) (List.take (Int.toNat (Int.ofNat (List.length x.2.2.1))) x.2.2.1)++List.drop (Add.add
 (Int.toNat x.1) (List.length (List.drop (Int.toNat x.2.1) (List.take (Int.toNat (Int.ofNat (List.length x.2.2.1))) x.2.2.1)))) x.2.2.1) - Int.toNat
 0)) (A.ae True (A.pure ((Int.toNat 0,Add.add (Int.toNat x.1) (List.length (List.drop (Int.toNat x.2.1) (List.take (Int.toNat (Int.ofNat (List.length
 x.2.2.1))) x.2.2.1)))),List.take (Add.add (Int.toNat 0) (Int.toNat (Int.ofNat (Add.add (Int.toNat x.1) (List.length (List.drop (Int.toNat x.2.1)
 (List.take (Int.toNat (Int.ofNat (List.length x.2.2.1))) x.2.2.1))) - Int.toNat 0)))) (List.take (Int.toNat x.1) x.2.2.1++List.drop (Int.toNat
 x.2.1) (List.take (Int.toNat (Int.ofNat (List.length x.2.2.1))) x.2.2.1)++List.drop (Add.add (Int.toNat x.1) (List.length (List.drop (Int.toNat
 x.2.1) (List.take (Int.toNat (Int.ofNat (List.length x.2.2.1))) x.2.2.1)))) x.2.2.1)++List.replicate (Add.add (Int.toNat 0) (Int.toNat (Int.ofNat
 (List.length x.2.2.1))) - Add.add (Int.toNat 0) (Int.toNat (Int.ofNat (Add.add (Int.toNat x.1) (List.length (List.drop (Int.toNat x.2.1) (List.take
 (Int.toNat (Int.ofNat (List.length x.2.2.1))) x.2.2.1))) - Int.toNat 0)))) z++List.drop (Add.add (Add.add (Int.toNat 0) (Int.toNat (Int.ofNat
 (Add.add (Int.toNat x.1) (List.length (List.drop (Int.toNat x.2.1) (List.take (Int.toNat (Int.ofNat (List.length x.2.2.1))) x.2.2.1))) - Int.toNat
 0)))) (List.length (List.replicate (Add.add (Int.toNat 0) (Int.toNat (Int.ofNat (List.length x.2.2.1))) - Add.add (Int.toNat 0) (Int.toNat (Int.ofNat
 (Add.add (Int.toNat x.1) (List.length (List.drop (Int.toNat x.2.1) (List.take (Int.toNat (Int.ofNat (List.length x.2.2.1))) x.2.2.1))) - Int.toNat
 0)))) z))) (List.take (Int.toNat x.1) x.2.2.1++List.drop (Int.toNat x.2.1) (List.take (Int.toNat (Int.ofNat (List.length x.2.2.1))) x.2.2.1)++
 List.drop (Add.add (Int.toNat x.1) (List.length (List.drop (Int.toNat x.2.1) (List.take (Int.toNat (Int.ofNat (List.length x.2.2.1))) x.2.2.1))))
 x.2.2.1),())))))))
def Jn{an:Type}(z:an)(x:Int×Int×List an×Unit):A ((Nat×Nat)×List an×Unit):=A.dR (0<=x.1/\x.2.1=x.1+1/\x.1<(x.2.2.1.length:Int)/\x.2.2.1.length<=3000000) ((0,x.2.2.1.length - 1),x.2.2.1.eraseIdx x.1.toNat++[z],())
theorem arH{an:Type}(z:an)(x):A.le (aaj z x) (Jn z x):=A.bw λh=>by
 obtain⟨i,j,l,⟨⟩⟩:=x;obtain⟨aY,E,U,ah⟩:0<=i/\j=i+1/\i<(l.length:Int)/\l.length<=3000000:=h;subst E;obtain⟨n,rfl⟩:∃ n:Nat,i=n:=⟨i.toNat,by omega⟩
 have ax:n<l.length:=by omega
 have az:((n:Int)+1).toNat=n+1:=by omega
 unfold aaj;simp only[bZ,Int.toNat_natCast,az,List.take_length,hO,Int.toNat_zero,Nat.sub_zero,Nat.zero_add,List.length_drop];have aN:n+(l.length - (n+1))=l.length - 1:=by omega
 have cL:(l.take n++l.drop (n+1)++l.drop (l.length - 1))=l.eraseIdx n++l.drop (l.length - 1):=by rw[List.eraseIdx_eq_take_drop_succ]
 have ee:(l.eraseIdx n).length=l.length - 1:=by rw[List.length_eraseIdx_of_lt ax]
 have hv:l.length - (l.length - 1)=1:=by omega
 rw[A.bq (by omega),if_neg (by simp;omega),A.bq (by omega),A.bq (by omega),A.bq (by omega)];rw[aN,cL,A.bq (by simp[ee]),A.br];show _=A.pure ((0,l.length - 1),l.eraseIdx n++[z],());have jF:(l.eraseIdx n++l.drop (l.length - 1)).take (l.length - 1)=l.eraseIdx n:=by rw[List.take_append_of_le_length (by omega),List.take_of_length_le (by omega)]
 have kU:(l.eraseIdx n++l.drop (l.length - 1)).drop l.length=[]:=List.drop_eq_nil_of_le (by simp[ee]);simp only[hv,jF,List.replicate_one,List.length_cons,List.length_nil,Nat.zero_add];rw[show l.length - 1+1=l.length by omega,kU,List.append_nil]
def wP(x:bJ×Unit):A wk:=A.dR (yN x.1) (iR x.1)
theorem Jo{x:z1'}(h:x.length<=2000000):H.o3.sh x=A.pure x:=A.bR (by show List.length x<=3000000;omega) _
theorem y0{t:ad}{x:(ad.slice t).aj}(h:List.length x<=2000000):(fS t).sh x=A.pure x:=A.bR (by show List.length x<=3000000;omega) _
theorem aak{gC:Type}{s:bJ}(h:yN s)(fin:bJ->A gC):Ir (fS kK).sh (fS k9).sh (fS j0).sh qS H.o3.sh (fS ny).sh (fS mN).sh (fS pX).sh s fin=fin s:=by
 obtain⟨⟨ck,da,eZ,AX⟩,U,ah,a6,bL,dv,gl⟩:=h;obtain⟨⟨sp,mk,cut,aW⟩,st,j4,lh,r1,ir⟩:=s;change sp.length<=2000000 at ck;change mk.length<=2000000 at da;change aW.length<=2000000 at eZ;change ∀ m∈mk,m.length<=2000000/\∀ s∈m,s.2.1.length<=2000000 at AX;change st.length<=2000000 at U;change j4.length<=2000000 at ah;change lh.length<=2000000 at a6;change r1.length<=2000000 at bL;change ∀ p∈j4,p.2.2.2.2.length<=2000000 at dv;change ∀ p∈lh,p.1.length<=2000000 at gl;have aQ:(fS kK).sh sp=A.pure sp:=y0 ck;have aS:(fS k9).sh mk=A.pure mk:=y0 da;have bN:(fS j0).sh aW=A.pure aW:=y0 eZ;have fm:H.o3.sh st=A.pure st:=Jo U;have l2:(fS ny).sh j4=A.pure j4:=y0 ah;have pA:(fS mN).sh lh=A.pure lh:=y0 a6;have Hs:(fS pX).sh r1=A.pure r1:=y0 bL;unfold Ir;simp only[aQ,aS,bN,A.iX,A.fG,A.br];rw[A.ed mk (λi (_:Unit)=>((mk.length:Int),(i:Int),cut,st,j4,lh,r1,ir,0,0,sp,mk,aW,())) (λp b=>.next b) (λ_=>.next (cut,st,j4,lh,r1,ir,0,0,sp,mk,aW,())) () ?_ ?_ ?_]
 ·rw[eL,A.aK,A.b7];simp only[fm,l2,pA,Hs,A.iX,A.fG,A.br];rw[A.ed j4 (λi (_:Unit)=>((j4.length:Int),(i:Int),cut,ir,0,0,sp,mk,aW,st,j4,lh,r1,())) (λp b=>.next b) (λ_=>.next (cut,ir,0,0,sp,mk,aW,st,j4,lh,r1,())) () ?_ ?_ ?_]
  ·rw[eL,A.aK,A.b7];rw[A.ed lh (λi (_:Unit)=>((lh.length:Int),(i:Int),cut,ir,0,0,sp,mk,aW,st,j4,lh,r1,())) (λp b=>.next b) (λ_=>.next (cut,ir,0,0,sp,mk,aW,st,j4,lh,r1,())) () ?_ ?_ ?_]
   ·rw[eL,A.aK,A.b7]
   ·rfl
   ·intro i G b;have hw:=bF (n:=(i:Int)+1) (by omega) (by omega);have hc:H.o3.sh lh[i].1=A.pure lh[i].1:=Jo (gl _ (List.getElem_mem G));have m':lh.set i (lh[i].1,lh[i].2)=lh:=List.set_getElem_self G;simp only[bZ,cX G,if_true,dk G,cP G,A.br,cp,hw];simp only[hc,A.iX,A.fG,A.br,Int.toNat_natCast,m'];rfl
   ·simp
  ·rfl
  ·intro i G b;have hw:=bF (n:=(i:Int)+1) (by omega) (by omega);have hc:H.o3.sh j4[i].2.2.2.2=A.pure j4[i].2.2.2.2:=Jo (dv _ (List.getElem_mem G));have m':j4.set i (j4[i].1,j4[i].2.1,j4[i].2.2.1,j4[i].2.2.2.1,j4[i].2.2.2.2)=j4:=List.set_getElem_self G;simp only[bZ,cX G,if_true,dk G,cP G,A.br,cp,hw];simp only[hc,A.iX,A.fG,A.br,Int.toNat_natCast,m'];rfl
  ·simp
 ·rfl
 ·intro i G b;have hw:=bF (n:=(i:Int)+1) (by omega) (by omega);obtain⟨hm,aD⟩:=AX _ (List.getElem_mem G);have hc:qS (mk[i],())=A.pure (mk[i],()):=A.bR (by show mk[i].length<=3000000;omega) _;have arI:mk.set i mk[i]=mk:=List.set_getElem_self G;simp only[bZ,cX G,if_true,dk G,cP G,A.br,cp,hc,A.aK];simp only[Int.toNat_natCast];rw[A.ed mk[i] (λj (_:Unit)=>(i,(mk.length:Int),(i:Int),(mk[i].length:Int),(j:Int),cut,st,j4,lh,r1,ir,0,0,sp,(mk,i),aW,mk[i],())) (λp b=>.next b) (λ_=>.next ((mk.length:Int),(i:Int),cut,st,j4,lh,r1,ir,0,0,sp,(mk,i),aW,mk[i],())) () ?_ ?_ ?_]
  ·rw[eL,A.aK,A.b7];simp only[hw,arI];rfl
  ·rfl
  ·intro j aG b;have hw:=bF (n:=(j:Int)+1) (by omega) (by omega);have hc:H.o3.sh mk[i][j].2.1=A.pure mk[i][j].2.1:=Jo (aD _ (List.getElem_mem aG));have m':mk[i].set j (mk[i][j].1,mk[i][j].2.1,mk[i][j].2.2)=mk[i]:=List.set_getElem_self aG;simp only[Prod.dc,Prod.fv,Prod.gR,bZ,cX aG,if_true,dk aG,cP aG,A.br,cp,hw];simp only[hc,A.iX,A.fG,A.br,Int.toNat_natCast,m'];rfl
  ·simp
 ·simp
theorem arJ(x):A.le (an4 (fS kK).sh (fS k9).sh (fS j0).sh qS H.o3.sh (fS ny).sh (fS mN).sh (fS pX).sh x) (wP x):=A.bw λh=>aak h _
abbrev Jp:aO:=⟨lb,lb,yN,λs=>s⟩
theorem arK(x):A.le (an3 (fS kK).sh (fS k9).sh (fS j0).sh qS H.o3.sh (fS ny).sh (fS mN).sh (fS pX).sh x) (Jp.sh x):=A.bw λh=>aak h _
def wQ(x:bJ×bd×Unit):A (aR×bd×Unit):=A.dR (c7 x.2.1/\fB x.1) ((ov x.2.1 x.1).1,(ov x.2.1 x.1).2,())
theorem arL(x):A.le (YL pZ.sh x) (wQ x):=A.bw λh=>by
 obtain⟨s,d,⟨⟩⟩:=x;obtain⟨au,aD⟩:c7 d/\fB s:=h;unfold YL;rw[show pZ.sh s=A.pure (ji s) from A.bR aD _,A.aK];show _=A.pure ((ov d s).1,(ov d s).2,());unfold ov;by_cases e:ji s=0<;>simp[e]
theorem arM{d:bd}(au:c7 d){s:bJ}(aD:fB s):wQ (s,d,())=A.pure ((ov d s).1,(ov d s).2,()):=A.bR ⟨au,aD⟩ _
theorem Jq{d:bd}(au:c7 d)(s:bJ)(aD:fB s):A.bind (wQ (s,d,())) (λy=>A.pure (y.1,y.2.1,()))=A.pure ((ov d s).1,(ov d s).2,()):=by rw[arM au aD,A.aK]
theorem c7.copy{d:bd}(h:c7 d):yN d.1:=aqL h.val
theorem E5{d:bd}(h:c7 d):wP (d.1,())=A.pure (iR d.1):=A.bR h.copy _
theorem arN(x):A.le (YI yy.sh wP g_.sh x) (fA 4 yT x):=A.bw λh=>by
 obtain⟨l,d,⟨⟩⟩:=x;obtain⟨au,al⟩:c7 d/\eE _ l:=h;have hc:=au.copy;have aD:ht (nD d.1.1 (bl l 0,bl l 1,bl l 2,bl l 3)):=⟨au.gY.1.1,au.gY.1.2.1,by have:=hc.1.2.2.1;simp only[nD,List.length_append,List.length_cons,List.length_nil];omega,au.gY.1.2.2.2⟩
 unfold YI;rw[A.br,E5 au,A.aK];simp (disch:=decide) only [nK al,A.br,nE,nF,nG,nH,nI,nJ];rw[A.bq (by have:=hc.1.2.2.1;simp only[hO,bQ,iR];omega)];show A.bind (g_.sh (nD d.1.1 (bl l 0,bl l 1,bl l 2,bl l 3))) _=A.pure ((yT d l).1,(yT d l).2,());rw[show g_.sh (nD d.1.1 (bl l 0,bl l 1,bl l 2,bl l 3))=A.pure (b' (nD d.1.1 (bl l 0,bl l 1,bl l 2,bl l 3))) from A.bR aD _,A.aK];have hlen:yy.sh (nD d.1.1 (bl l 0,bl l 1,bl l 2,bl l 3),bl l 0)=A.pure (wy (nD d.1.1 (bl l 0,bl l 1,bl l 2,bl l 3)) (bl l 0)):=A.bR aD _;have Cz:yy.sh (((iR d.1).1,(iR d.1).2.1,(iR d.1).2.2.1,(iR d.1).2.2.2.2.1++[(bl l 0,bl l 1,bl l 2,bl l 3)]),bl l 0)=A.pure (wy (nD d.1.1 (bl l 0,bl l 1,bl l 2,bl l 3)) (bl l 0)):=hlen;simp only[Cz,A.iX,A.fG,A.br];unfold yT;by_cases e:b' (nD d.1.1 (bl l 0,bl l 1,bl l 2,bl l 3))=0
 ·by_cases aN:(wy (nD d.1.1 (bl l 0,bl l 1,bl l 2,bl l 3)) (bl l 0)).2=0
  ·simp only[e,aN,ne_eq,not_true_eq_false,decide_false,Bool.false_eq_true,if_false];rfl
  grind
 grind
theorem arO(x):A.le (YK wP wQ x) (fA 2 yU x):=A.bw λh=>by
 obtain⟨l,d,⟨⟩⟩:=x;obtain⟨au,al⟩:c7 d/\eE _ l:=h;have hc:=au.copy;unfold YK;rw[A.br,E5 au,A.aK];simp (disch:=decide) only [nK al,A.br,nE,nF,nG,nH,nI,nJ];show _=A.pure ((yU d l).1,(yU d l).2,());unfold yU;have aY:=al.bl 0;have E:=al.bl 1;by_cases e:bl l 0>=(d.1.2.1.length:Int)
 ·rw[if_pos (by simpa [iR]using e),if_pos e]
 ·rw[if_neg (by simpa [iR]using e),if_neg e];have ax:(bl l 0).toNat<d.1.2.1.length:=by omega
  rw[A.bq ⟨aY.1,by show bl l 0<(d.1.2.1.length:Int);omega⟩,A.bq ⟨aY.1,by show bl l 0<(d.1.2.1.length:Int);omega⟩];have af:∀ n∈d.1.2.1,0<=n/\n<=10:=λn ax=>by
   have:=au.val.s8.2;have fW:=au.u2;unfold ji at fW;grind [nz,bX]
  have aa:=af _ (List.getElem_mem ax);have ay:d.1.2.1.getD (bl l 0).toNat 0=d.1.2.1[(bl l 0).toNat]:=by grind
  have hw:=bF (n:=d.1.2.1.getD (bl l 0).toNat 0+bl l 1) (by omega) (by omega);have gZ:IntKind.wrap .i64 (Add.add ((iR d.1).2.2.2.2.2.1.getD (bl l 0).toNat 0) (bl l 1))=d.1.2.1.getD (bl l 0).toNat 0+bl l 1:=hw;rw[gZ];exact Jq au (d.1.1,d.1.2.1.set (bl l 0).toNat (d.1.2.1.getD (bl l 0).toNat 0+bl l 1),d.1.2.2) ⟨au.gY.1,by show (List.set d.1.2.1 _ _).length<_;rw[List.length_set];exact au.gY.2.1,au.gY.2.2⟩
theorem arP(x):A.le (YM wP wQ x) (fA 3 Qd x):=A.bw λh=>by
 obtain⟨l,d,⟨⟩⟩:=x;obtain⟨au,al⟩:c7 d/\eE _ l:=h;have hc:=au.copy;have bL:=hc.2.2.2.2.1;obtain⟨eI,dN,eK,oQ,tm,tn,tp⟩:=au.gY;unfold YM;rw[A.br,E5 au,A.aK];simp (disch:=decide) only [nK al,A.br,nE,nF,nG,nH,nI,nJ];rw[A.bq (by simp only[hO,bQ,iR];omega)];exact Jq au (d.1.1,d.1.2.1,d.1.2.2.1,d.1.2.2.2.1,d.1.2.2.2.2.1++[(bl l 0,bl l 1,bl l 2)],d.1.2.2.2.2.2) ⟨eI,dN,eK,oQ,by grind,tn,tp⟩
theorem arQ(x):A.le (YN wP wQ x) (fA 4 Qe x):=A.bw λh=>by
 obtain⟨l,d,⟨⟩⟩:=x;obtain⟨au,al⟩:c7 d/\eE _ l:=h;have hc:=au.copy;have bL:=hc.2.2.1;have hm:=al.Jj;have hle:4<=l.length:=al.Qk;obtain⟨eI,dN,eK,oQ,tm,tn,tp⟩:=au.gY;unfold YN;rw[A.br,E5 au,A.aK];simp (disch:=decide) only [nK al,A.br,nE,nF,nG,nH,nI,nJ];rw[A.bq ⟨by decide,by grind,Int.le_refl _⟩,A.bq (by simp only[hO,bQ,iR];omega)];simp only[bZ,Int.toNat_natCast,List.take_length];exact Jq au (d.1.1,d.1.2.1,d.1.2.2.1++[(bl l 0,bl l 1,bl l 2,bl l 3,l.drop 4)],d.1.2.2.2) ⟨eI,dN,by grind,oQ,tm,λp aq=>by
  grind,tp⟩
theorem arR(x):A.le (YO wP wQ x) (fA 5 Qf x):=A.bw λh=>by
 obtain⟨l,d,⟨⟩⟩:=x;obtain⟨au,al⟩:c7 d/\eE _ l:=h;have hc:=au.copy;have bL:=hc.2.2.2.1;have hm:=al.Jj;have hle:5<=l.length:=al.Qk;obtain⟨eI,dN,eK,oQ,tm,tn,tp⟩:=au.gY;unfold YO;rw[A.br,E5 au,A.aK];simp (disch:=decide) only [nK al,A.br,nE,nF,nG,nH,nI,nJ];rw[A.bq ⟨by decide,by grind,Int.le_refl _⟩,A.bq (by simp only[hO,bQ,iR];omega)];simp only[bZ,Int.toNat_natCast,List.take_length];exact Jq au (d.1.1,d.1.2.1,d.1.2.2.1,d.1.2.2.2.1++[(l.drop 5,(bl l 0,bl l 1),bl l 2,bl l 3,bl l 4)],d.1.2.2.2.2) ⟨eI,dN,eK,by grind,tm,tn,λp aq=>by
  grind⟩
abbrev Jr:dB:=([],(0,0),0,0,0)
theorem arS(x):A.le (YP (fS mN).sh (Jn Jr) x) (fA 1 yV x):=A.bw λh=>by
 obtain⟨l,d,⟨⟩⟩:=x;obtain⟨au,al⟩:c7 d/\eE _ l:=h;have hc:=au.copy.2.2.2.1;have aY:=al.bl 0;unfold YP;simp (disch:=decide) only [nK al,A.br,nE,nF,nG,nH,nI,nJ];show _=A.pure ((yV d l).1,(yV d l).2,());unfold yV;by_cases e:bl l 0>=(d.1.2.2.2.1.length:Int)
 ·grind
 ·rw[if_neg (by grind),if_neg e];have lX:(fS mN).sh d.1.2.2.2.1=A.pure d.1.2.2.2.1:=y0 hc;have hw:=bF (n:=bl l 0+1) (by omega) (by omega);simp only[lX,A.iX,A.fG,A.br,cp,hw];rw[show Jn Jr (bl l 0,bl l 0+1,d.1.2.2.2.1,())=A.pure _ from A.bR ⟨aY.1,rfl,by grind,by grind⟩ _,A.aK];grind
theorem aal{c:H.aX}{m:List H.aZ}{v:z1'}(h:(H.lf c m v).2=0):H.b' c=0/\H.b' (H.lf c m v).1=0/\(H.lf c m v).1=H.eo c (H.dn (c.2.1++m)) (H.gi c.2.2.1 v):=by
 unfold H.lf at h ⊢;split at h
 ·omega
 split at h
 ·omega
 split at h
 ·omega
 split at h
 ·omega
 rename_i b6 a2 a3 a4;rw[if_neg b6,if_neg a2,if_neg a3,if_neg a4];have dO:H.b' c=0:=by omega
 have e3:H.b' (H.eo c m v)=0:=by omega
 refine⟨dO,?_,rfl⟩;have g1:H.iS c=true:=by unfold H.b' at dO;grind
 have ew:H.iS (H.eo c m v)=true:=by unfold H.b' at e3;grind
 have ax:H.kl (H.dn (c.2.1++m))=false:=by
  rw[H.uA];have:=(H.uA (c.2.1++m)).1 (by grind);exact λa a_ b aa=>this a (H.v' a_) b (H.v' aa)
 have l3:H.iS (H.eo c (H.dn (c.2.1++m)) (H.gi c.2.2.1 v))=true:=by
  unfold H.iS H.rJ at g1 ew ⊢;simp only[Bool.and_eq_true,List.all_eq_true,Bool.not_eq_true',Bool.or_eq_false_iff,H.eo]at g1 ew ⊢;obtain⟨⟨⟨⟨⟨⟨⟨⟨oE,z2⟩,z3⟩,z4⟩,z5⟩,aQ⟩,aS⟩,bN⟩,fm⟩:=g1;obtain⟨⟨⟨⟨_,_⟩,Qq⟩,aam⟩,_⟩:=ew;simp only[Bool.or_eq_true,not_or,bZ,Bool.not_eq_true]at a4;refine⟨⟨⟨⟨⟨⟨⟨⟨oE,a4.1⟩,a4.2⟩,z4⟩,z5⟩,aQ⟩,λs aD=>?_⟩,λn ax=>?_⟩,fm⟩
  ·rcases List.mem_append.1 (H.v' aD) with h | h
   ·exact aS s h
   ·exact Qq s h
  ·have:=(List.mem_filter.1 ax).2;grind
 unfold H.b';rw[if_pos l3,if_neg (by show ¬H.kl (H.dn (c.2.1++m))=true;grind)]
theorem Qr{d:bd}(au:c7 d)(m:List H.aZ)(v:z1'):c7 (p1 d m v).2:=by
 unfold p1;split
 ·exact au
 ·rename_i h;obtain⟨E,U,ah⟩:=aal (c:=d.2) (m:=m) (v:=v) (by omega);exact⟨au.gY,au.u2,U,by rw[ah];exact au.yW⟩
theorem Js{d:bd}(au:c7 d){s:bJ}(aD:fB s):c7 (ov d s).2:=by
 unfold ov;split
 ·exact au
 ·rename_i h;exact⟨aD,by grind,au.o',au.yW⟩
theorem arT{d:bd}(au:c7 d){l:z1'}(al:l.length<=10000)(j:Nat):c7 (Bz j d l).2:=by
 have hc:=au.copy;obtain⟨eI,dN,eK,oQ,tm,tn,tp⟩:=au.gY;obtain⟨bE,c2,c3,c4,c5,lW,oD⟩:=au.copy;unfold Bz;split<;>try exact au
 ·exact Qr au _ _
 ·exact Qr au _ _
 ·exact Qr au _ _
 ·unfold yT;split
  ·exact au
  split
  ·exact au
  rename_i h _;have h:b' (nD d.1.1 (bl l 0,bl l 1,bl l 2,bl l 3))=0:=by omega
  refine⟨⟨⟨eI.1,eI.2.1,by have:=hc.1.2.2.1;simp only[nD,List.length_append,List.length_cons,List.length_nil];omega,eI.2.2.2⟩,dN,eK,oQ,tm,tn,tp⟩,?_,au.o',au.yW⟩;have aD:=au.u2;unfold ji at aD ⊢;rw[if_neg (by omega)];have:nz (nD d.1.1 (bl l 0,bl l 1,bl l 2,bl l 3),d.1.2)=nz d.1:=rfl;grind
 ·unfold yU;split
  ·exact au
  ·exact Js au ⟨eI,by grind,eK,oQ,tm,tn,tp⟩
 ·exact Js au ⟨eI,dN,eK,oQ,by grind,tn,tp⟩
 ·exact Js au ⟨eI,dN,by grind,oQ,tm,λp aq=>by
   grind,tp⟩
 ·exact Js au ⟨eI,dN,eK,by grind,tm,tn,λp aq=>by
   grind⟩
 ·unfold yV;split
  ·exact au
  ·refine⟨⟨eI,dN,eK,by grind,tm,tn,λp aq=>tp p (List.mem_of_mem_eraseIdx aq)⟩,?_,au.o',au.yW⟩;have aD:=au.u2;unfold ji at aD ⊢;split at aD
   ·omega
   ·rename_i va;rw[if_neg va];split at aD
    ·rename_i af;rw[if_pos];unfold nz at af ⊢;simp only[Bool.and_eq_true,List.all_eq_true,decide_eq_true_eq]at af ⊢;obtain⟨⟨⟨⟨⟨⟨⟨⟨dr,dI⟩,oF⟩,uU⟩,dc⟩,fv⟩,gR⟩,iz⟩,jX⟩:=af;exact⟨⟨⟨⟨⟨⟨⟨⟨dr,dI⟩,oF⟩,uU⟩,by grind⟩,λx ai=>fv x (List.mem_of_mem_eraseIdx ai)⟩,gR⟩,iz⟩,jX⟩
    omega
theorem aan:∀ (s:aR) (n k:Nat),n<10 ^ k->k+s.length<=18->0<=gj s n->Go.Lib.parseUint10 n s=.ok (gj s n).toNat
 | [],n,k,_,_,_=>by rfl
 | c::s,n,k,E,U,ah=>by
  unfold gj at ah ⊢;split at ah
  ·omega
  ·rename_i hc;rw[if_neg hc];simp only[Bool.or_eq_true,decide_eq_true_eq,not_or]at hc;have Hm:48<=c.toNat/\c.toNat<=57:=by omega
   have ak:(10:Nat) ^ (k+1)<=10 ^ 18:=Nat.pow_le_pow_right (by decide) (by grind);have Xq:(10:Nat) ^ (k+1)=10 ^ k*10:=Nat.pow_succ ..;have e:10*(n:Int)+((c.toNat:Int) - 48)=((n*10+(c.toNat - 48):Nat):Int):=by omega
   rw[e]at ah ⊢;unfold Go.Lib.parseUint10;rw[if_pos Hm,if_neg (by omega),if_neg (by omega)];exact aan s _ (k+1) (by omega) (by grind) ah
theorem Qs{s:aR}(h:0<=e2 s):Go.Lib.atoiAll s=.ok (e2 s):=by
 unfold e2 at h ⊢;split at h
 ·omega
 ·rename_i aa;rw[if_neg aa];simp only[Bool.or_eq_true,decide_eq_true_eq,not_or]at aa;obtain⟨⟨aY,dv⟩,_⟩:=aa;cases s with
  | nil=>grind
  | cons c r=>
   have aq:=aan (c::r) 0 0 (by decide) (by omega) h;have al:=P0 (c::r) 0 0 (by decide) (by decide);have gw:(10:Int) ^ (0+(c::r).length)<=10 ^ 6:=by
    have:=Nat.pow_le_pow_right (n:=10) (by decide) (show 0+(c::r).length<=6 by omega);grind
   have au:¬(decide ((c.toNat:Int)<48)||decide ((c.toNat:Int) > 57))=true:=by
    intro hc;unfold gj at h;grind
   simp only[Bool.or_eq_true,decide_eq_true_eq,not_or]at au;unfold Go.Lib.atoiAll;simp only;rw[if_neg (by omega)];unfold Go.Lib.parseMag;grind
theorem arU{s:aR}(h:0<=e2 s):tj s=e2 s:=by
 unfold tj;rw[Qs h]
abbrev E6:aO:=⟨.str,.aB (.int .i64) .bool,λx=>x.length<=10000,rp⟩
abbrev Jt:aO:=⟨.aB .str .str,u0,λx=>x.1.length<=10000/\x.2=[32],λx=>cK x.1⟩
abbrev arV:ad:=.st (.aB bp (.aB .bool .et))
def Ju:List (aR×Int×Bool)->Nat->List (aR×A9)
 | [],_=>[]
 | p::l,i=>(p.1,p.2.1,p.2.2,some (119+i))::Ju l (i+1)
def wR:List (aR×A9):=Ju lg 0
abbrev Jv:aO:=⟨.cU,.map .str arV,λ_=>True,λ_=>wR⟩
theorem arW(x):A.le (anC x) (Jv.sh x):=A.bw λ_=>congrArg A.pure (show _=wR by decide +kernel)
theorem aao(w:aR):∀ (l:List (aR×Int×Bool)) (i:Nat),((Ju l i).find? λp=>decide (w=p.1)).map (λx=>x.2)=(o_ w l i).map λr=>(r.1,r.2.1,some (119+r.2.2))
 | [],_=>rfl
 | p::l,i=>by
  unfold Ju o_;rw[List.find?_cons];by_cases h:w=p.1
  ·simp[h]
  ·simp[h,aao w l (i+1)]
theorem aap{w:aR}:∀ {l:List (aR×Int×Bool)} {i:Nat} {r:Int×Bool×Nat},o_ w l i=some r->i<=r.2.2/\r.2.2<i+l.length/\l[r.2.2 - i]?=some (w,r.1,r.2.1)
 | [],_,_,h=>by simp[o_]at h
 | p::l,i,r,h=>by
  unfold o_ at h;split at h
  ·grind
  ·have:=aap h;grind
def Jw(j:Nat):Nat:=(lg.getD j ([],0,false)).2.1.toNat
def E7(k:Nat):z1'×bd×Unit->A (aR×bd×Unit):=fA (Jw (k - 119)) (Bz (k - 119))
theorem arX:∀ p∈lg,0<=p.2.1:=by decide
def Jx(x:List (aR×A9)×aR×bd×Unit):A (aR×bd×Unit):=A.dR (x.1=wR/\x.2.1.length<=10000/\c7 x.2.2.1) ((lO x.2.2.1 x.2.1).1,(lO x.2.2.1 x.2.1).2,())
theorem arY{l:List aR}(h:l.all (λw=>decide (0<=e2 w))=true):l.map tj=l.map e2:=List.map_congr_left λw hw=>arU (by grind)
theorem aaq{aJ:Type}(r:aJ)(fin:z1'->aJ):∀ (l:List aR) (b:z1'),e1 (λw b=>if (!decide (0<=e2 w))=true then .done r else .next (b++[tj w])) fin l b=if l.all (λw=>decide (0<=e2 w))=true then fin (b++l.map tj) else r
 | [],b=>by simp[e1]
 | w::l,b=>by
  unfold e1;rw[List.all_cons,List.map_cons];cases h:decide (0<=e2 w) with
  | true=>
   simp only[Bool.not_true,Bool.false_eq_true,if_false,Bool.true_and];rw[aaq r fin l,List.append_assoc];rfl
  | false=>rfl
theorem arZ(x):A.le (Yu Jt.sh E6.sh E7 x) (Jx x):=A.bw λh=>by
 obtain⟨ar0,s,d,⟨⟩⟩:=x;obtain⟨af,aD,au⟩:ar0=wR/\s.length<=10000/\c7 d:=h;subst af;unfold Yu;show _=A.pure ((lO d s).1,(lO d s).2,());rw[show Jt.sh (s,[32])=A.pure (cK s) from A.bR ⟨aD,rfl⟩ _,A.aK];have al:=u1 s;rw[A.bq ⟨by decide,by grind⟩];have ao:((wR.find? λp=>decide ((cK s).getD (Int.toNat 0) []=p.1)).map λx=>x.2)=(o_ ((cK s).getD 0 []) lg 0).map λr=>(r.1,r.2.1,some (119+r.2.2)):=aao _ _ _;have hw:=bF (n:=((cK s).length:Int) - 1) (by omega) (by omega);simp only[ao,bZ,hw];unfold lO tl;cases GN:o_ ((cK s).getD 0 []) lg 0 with
 | none=>simp
 | some r=>
  obtain⟨k,m,j⟩:=r;obtain⟨_,aG,ak⟩:=aap GN;simp only[Option.map_some,Option.isSome_some,Option.getD_some,Bool.not_true,Bool.false_or];by_cases aa:(decide (((cK s).length:Int) - 1<k)||decide (((cK s).length:Int) - 1 > k)&&!m)=true
  ·grind
  ·rw[if_neg aa,if_neg aa];rw[A.bq ⟨by decide,by omega,Int.le_refl _⟩];simp only[Int.toNat_natCast,List.take_length,show Int.toNat 1=1 from rfl];have vl:((cK s).drop 1).length=(cK s).length - 1:=by simp
   rw[A.f_ ((cK s).drop 1) (λi (o:z1')=>((cK s).drop 1,(((cK s).drop 1).length:Int),(i:Int),(k,m,some (119+j)),o,d,())) (λw o=>if (!decide (0<=e2 w))=true then .done (.done ([63],d,())) else .next (o++[tj w])) (λo=>.next ((k,m,some (119+j)),o,d,())) (λi o=>o.length=i) [] ?_ rfl ?_ ?_]
   ·rw[aaq,A.aK];unfold E1;by_cases a_:((cK s).drop 1).all (λw=>decide (0<=e2 w))=true
    ·rw[if_pos a_,if_pos a_,A.b7,arY a_,List.nil_append];rw[A.bq]
     ·have zc:0<=k:=arX _ (List.mem_of_getElem? ak);have ch:Jw j=k.toNat:=by
       unfold Jw;grind
      have cN:eE (Jw j) (((cK s).drop 1).map e2):=by
       simp only[Bool.or_eq_true,decide_eq_true_eq,not_or]at aa;refine⟨by grind,by grind,λn ax=>?_⟩;obtain⟨w,hw,rfl⟩:=List.mem_map.1 ax;have:=List.all_eq_true.1 a_ w hw;exact⟨by grind,(ard w).2⟩
      have ayL:E7 (119+j) (((cK s).drop 1).map e2,d,())=A.pure ((Bz j d (((cK s).drop 1).map e2)).1,(Bz j d (((cK s).drop 1).map e2)).2,()):=by
       unfold E7;rw[show 119+j - 119=j by omega];exact A.bR ⟨au,cN⟩ _
      simp_all
     ·have:j<20:=by simpa [lg]using aG
      exact⟨119+j,by
       have e:∀ j:Fin 20,(119+j.val)∈[119,120,121,122,123,124,125,126,127,128,129,130,131,132,133,134,135,136,137,138]:=by decide
       exact e ⟨j,this⟩,rfl⟩
    ·rw[if_neg a_,if_neg a_];rfl
   ·rfl
   ·intro i G o ag;have hw:=bF (n:=(i:Int)+1) (by omega) (by omega);refine⟨?_,λbe cY=>?_⟩
    ·simp only[cX G,if_true,dk G,cP G,A.br,cp,hw];rw[show E6.sh ((cK s).drop 1)[i]=A.pure (rp ((cK s).drop 1)[i]) from A.bR (Nat.le_trans (aae s (List.mem_of_mem_drop (List.getElem_mem G))) aD) _,A.aK];unfold rp;by_cases ax:0<=e2 ((cK s).drop 1)[i]
     ·simp only[ax,decide_true,Bool.not_true,Bool.false_eq_true,if_false];rw[A.bq (fw (by grind))];rfl
     simp_all
    grind
   simp
theorem Qt{d:bd}(au:c7 d){s:aR}(aD:s.length<=10000):c7 (lO d s).2:=by
 unfold lO;split
 ·exact au
 ·rename_i j l aq;refine arT au ?_ j;unfold tl at aq;split at aq
  ·grind
  ·split at aq
   ·grind
   ·unfold E1 at aq;have:=u1 s;grind
abbrev r2:aO:=⟨yQ,.int .i64,λd=>fB d.1/\H.jE d.2,kr⟩
theorem ar1(x):A.le (Yr pZ.sh H.g_.sh x) (r2.sh x):=A.bw λh=>by
 obtain⟨E,U⟩:fB x.1/\H.jE x.2:=h;unfold Yr;rw[show pZ.sh x.1=A.pure (ji x.1) from A.bR E _,A.aK,show H.g_.sh x.2=A.pure (H.b' x.2) from A.bR U _,A.lE,A.aK];show _=A.pure (kr x);unfold kr;grind
theorem ar2{l:List H.aZ}{k:Int}(ak:0<=k/\k<=99):(H.dn l).find? (λs=>s.1 == k)=l.find? λs=>s.1 == k:=by
 have ax:=H.Ip l;have hm:∀ s,l.find? (λs=>s.1 == k)=some s->s∈H.dn l:=λs aD=>List.mem_filterMap.2 ⟨k,oW.2 ak,aD⟩;cases h:l.find? (λs=>s.1 == k) with
 | none=>
  rw[List.find?_eq_none]at h ⊢;exact λs aD=>h s (H.v' aD)
 | some s=>
  have aD:=hm s h;have he:s.1=k:=by grind
  cases U:(H.dn l).find? (λs=>s.1 == k) with
  | none=>
   grind
  | some t=>
   have aF:=List.mem_of_find?_eq_some U;have ayM:t.1=k:=by grind
   have aq:(H.dn l).Pairwise λa b=>a.1≠b.1:=by
    grind
   by_cases fZ:t=s
   ·rw[fZ]
   ·exfalso;have key:∀ (L:List H.aZ),L.Pairwise (λa b=>a.1≠b.1)->t∈L->s∈L->t=s:=by
     intro L gH E U;induction L with
     | nil=>grind
     | cons a L aL=>
      rw[List.pairwise_cons]at gH;grind
    grind
theorem aar{an β:Type}{f g:an->Option β}:∀ (l:List an),(∀ a∈l,f a=g a)->l.filterMap f=l.filterMap g
 | [],_=>rfl
 | a::l,h=>by
  rw[List.filterMap_cons,List.filterMap_cons,h a (by simp),aar l λb aa=>h b (by grind)]
theorem Qu(l:List H.aZ):(H.dn l).length<=l.length:=by
 have rh:(H.dn l).map (·.1) ⊆ l.map (·.1):=by
  intro x ai;obtain⟨s,aD,rfl⟩:=List.mem_map.1 ai;exact List.mem_map_of_mem (H.v' aD)
 have:=(H.Ip l).length_le_of_subset rh;grind
theorem ar3(l:z1'):(H.gi l []).length<=l.length:=by
 unfold H.gi;have ax:((d_ 0 99).filter λid=>l.contains id||List.contains [] id).Nodup:=((H.PZ 0 99).imp λh=>by omega:(d_ 0 99).Nodup).filter _;refine ax.length_le_of_subset λx ai=>?_;grind
theorem aas{c:H.aX}(h:H.b' c=0):H.lf c [] []=(H.eo c (H.dn c.2.1) (H.gi c.2.2.1 []),0):=by
 have G:=H.yP h;have g:H.iS c=true:=by unfold H.b' at h;grind
 have U:H.b' (H.eo c [] [])=0:=by
  have:H.iS (H.eo c [] [])=true:=by
   unfold H.iS H.rJ at g ⊢;simp only[Bool.and_eq_true,List.all_eq_true,Bool.not_eq_true',Bool.or_eq_false_iff,H.eo]at g ⊢;grind
  unfold H.b';rw[if_pos this];rfl
 have eF:=Qu c.2.1;have mj:=ar3 c.2.2.1;have dP:=G.dP;have hZ:=G.hZ;unfold H.lf;rw[if_neg (by simp[h]),if_neg (by omega),List.append_nil,if_neg (by rw[G.cl];decide),if_neg];grind
structure aat(d:bd):Prop where
 aau:H.dn d.2.2.1=d.2.2.1
 aav:H.gi d.2.2.2.1 []=d.2.2.2.1
theorem aaw{d:bd}(h:c7 d):ij d=(d.1,H.eo d.2 (H.dn d.2.2.1) (H.gi d.2.2.2.1 [])):=by
 unfold ij;rw[aas h.o']
theorem Qv{d:bd}(h:c7 d):c7 (ij d):=by
 have:=aal (c:=d.2) (m:=[]) (v:=[]) (by rw[aas h.o']);exact⟨h.gY,h.u2,this.2.1,by rw[aaw h];exact h.yW⟩
theorem ar4{d:bd}(h:c7 d)(ax:aat d):ij d=d:=by
 rw[aaw h,ax.aau,ax.aav];rfl
theorem aax{p:bd->Prop}{q:aR->Prop}(aq:∀ d s,p d->q s->p (lO d s).2):∀ (l:List aR) (d:bd),p d->(∀ s∈l,q s)->p (iV d l).2
 | [],d,h,_=>h
 | s::l,d,h,bt=>aax aq l _ (aq d s h (bt s (by simp))) λt aF=>bt t (by grind)
theorem aay{d:bd}(h:c7 d){l:List aR}(al:∀ s∈l,s.length<=10000):c7 (iV d l).2:=aax (p:=c7) (λd s h aD=>Qt h aD) l d h al
def uI(x:bd×Unit):A (bd×Unit):=A.dR (c7 x.1) (ij x.1,())
theorem OE(x):A.le (Ys H.By.sh Jp.sh x) (uI x):=A.bw λh=>by
 obtain⟨d,⟨⟩⟩:=x;have h:c7 d:=h;unfold Ys;rw[show H.By.sh (d.2,[],[])=A.pure (H.lf d.2 [] []) from A.bR ⟨h.jE,by simp,by simp⟩ _,A.aK];rw[show Jp.sh d.1=A.pure d.1 from A.bR h.copy _];simp only[A.iX,A.fG,A.br];rfl
abbrev aaz(x:bd×List aR):Prop:=fB x.1.1/\H.fy x.1.2/\x.2.length<2 ^ 63/\∀ s∈x.2,s.length<=10000
theorem Qw{d:bd}(E:fB d.1)(U:H.fy d.2)(h:kr d=0):c7 d:=by
 unfold kr at h;split at h
 ·omega
 ·rename_i aa;simp only[Bool.or_eq_true,decide_eq_true_eq,not_or,ne_eq,Decidable.not_not]at aa;exact⟨E,aa.1,aa.2,U.2 aa.2⟩
abbrev u3:aO:=⟨.aB yQ u0,.aB u0 (.aB yQ (.int .i64)),aaz,λx=>E2 x.1 x.2⟩
theorem aaA:∀ (l:List aR) (o:List aR) (d:bd),l.foldl (λ(p:List aR×bd) s=>(p.1++[(lO p.2 s).1],(lO p.2 s).2)) (o,d)=(o++(iV d l).1,(iV d l).2)
 | [],o,d=>by simp[iV]
 | s::l,o,d=>by
  rw[List.foldl_cons,aaA l];simp[iV]
theorem ar5(x):A.le (Yq r2.sh uI Jv.sh Jx x) (u3.sh x):=A.bw λh=>by
 obtain⟨d,l⟩:=x;obtain⟨E,U,ah,a6⟩:aaz (d,l):=h;unfold Yq;show _=A.pure (E2 d l);unfold E2;rw[show r2.sh d=A.pure (kr d) from A.bR ⟨E,U.gY⟩ _,A.aK];by_cases e:kr d=0
 ·rw[if_neg (show ¬decide (kr d≠0)=true by grind),if_neg (show ¬kr d≠0 by omega)];have au:=Qw E U e;by_cases aN:l.length > 40
  ·grind
  ·rw[if_neg (show ¬decide (Int.ofNat l.length > 40)=true by grind),if_neg aN];rw[show uI (d,())=A.pure (ij d,()) from A.bR au _,A.aK,show Jv.sh ()=A.pure wR from rfl,A.aK];rw[A.f_ l (λi (p:List aR×bd)=>(wR,l,(l.length:Int),(i:Int),p.1,0,0,0,0,0,0,0,0,0,p.2,())) (λs p=>.next (p.1++[(lO p.2 s).1],(lO p.2 s).2)) (λp=>.next (p.1,0,0,0,0,0,0,0,0,0,p.2,())) (λi p=>c7 p.2/\p.1.length=i) ([],ij d) ?_ ⟨Qv au,rfl⟩ ?_ ?_]
   ·rw[eL,aaA,A.aK,A.b7,A.br,List.nil_append]
   ·rfl
   ·rintro i G ⟨o,vb⟩ ⟨w_,ag⟩;have hw:=bF (n:=(i:Int)+1) (by omega) (by omega);have aD:=a6 _ (List.getElem_mem G);change c7 vb at w_;change o.length=i at ag;refine⟨?_,λbe cY=>?_⟩
    ·simp only[bZ,cX G,if_true,dk G,cP G,A.br,cp,hw];rw[show Jx (wR,l[i],vb,())=A.pure _ from A.bR ⟨rfl,aD,w_⟩ _,A.aK,A.bq (fw (by grind))];rfl
    ·simp only[W.next.injEq]at cY;subst cY;exact⟨Qt w_ aD,by grind⟩
   simp
 grind
end Go.Fer.aw
namespace Go.Fer.aw
open A (W)
def qT:bd:=(Bx,[(0,0)],[],[],[],10,30,100,500,1000,2000,300)
def aaB(ar6:Unit->A bJ)(x:Unit):A bd:=A.bind (ar6 ()) λy=>A.pure (y,[(0,0)],[],[],[],10,30,100,500,1000,2000,300)
abbrev Jy:aO:=⟨.cU,yQ,λ_=>True,λ_=>qT⟩
theorem ar7(x):A.le (aaB Ja.sh x) (Jy.sh x):=A.bw λ_=>by
 unfold aaB;rw[show Ja.sh ()=A.pure Bx from rfl,A.aK];rfl
theorem ar8:kr qT=0:=by decide +kernel
end Go.Fer.aw
namespace Go.Fer.aw
open A (W)
open H (fw)
theorem ar9(x):A.le (Yp H.g_.sh pZ.sh x) (r2.sh x):=A.bw λh=>by
 obtain⟨E,U⟩:fB x.1/\H.jE x.2:=h;unfold Yp;rw[show pZ.sh x.1=A.pure (ji x.1) from A.bR E _,A.aK,show H.g_.sh x.2=A.pure (H.b' x.2) from A.bR U _,A.lE,A.aK];show _=A.pure (kr x);unfold kr;grind
theorem aaC(c:UInt8):c.1.1.1=c.toNat:=rfl
theorem aaD{n:Int}(h:0<=n)(U:n<=255):IntKind.wrap .u8 n=n:=by
 show (if (false&&decide (n % 2 ^ 8>=(2 ^ (8 - 1):Int)))=true then n % 2 ^ 8 - 2 ^ 8 else n % 2 ^ 8)=n;grind
theorem Qx{an β aJ:Type}{p:an->Bool}{r:aJ}{g:an->β->β}{fin:β->aJ}:∀ (l:List an) (b:β),e1 (λx b=>if p x=true then .done r else .next (g x b)) fin l b=if l.any p=true then r else fin (l.foldl (λb x=>g x b) b)
 | [],b=>rfl
 | x::l,b=>by
  unfold e1;rw[List.any_cons,List.foldl_cons];cases h:p x with
  | true=>rfl
  | false=>
   simp only[Bool.false_eq_true,if_false,Bool.false_or];exact Qx l (g x b)
def y1(c:UInt8):Bool:=decide ((c.toNat:Int)<48)||decide ((c.toNat:Int) > 57)
theorem ar_(c:UInt8)(s:aR)(n:Int):gj (c::s) n=if y1 c=true then -1 else gj s (10*n+((c.toNat:Int) - 48)):=rfl
theorem aaE{aJ:Type}{r:aJ}{fin:Int->aJ}:∀ (s:aR) (n:Int),0<=n->e1 (λc n=>if y1 c=true then .done r else .next (10*n+((c.toNat:Int) - 48))) fin s n=if gj s n=-1 then r else fin (gj s n)
 | [],n,h=>by
  show fin n=if n=-1 then r else fin n
  grind
 | c::s,n,h=>by
  rw[ar_];unfold e1;by_cases hc:y1 c=true
  ·grind
  ·have oS:=hc;unfold y1 at oS;simp only[Bool.or_eq_true,decide_eq_true_eq,not_or]at oS;simp only[hc];exact aaE s _ (by omega)
abbrev Jz:aO:=⟨.str,.int .i64,λ_=>True,e2⟩
theorem ar'(x):A.le (YZ x) (Jz.sh x):=A.bw λ_=>by
 unfold YZ;show _=A.pure (e2 x);unfold e2;simp only[bZ,aaC,show Int.toNat 0=0 from rfl];rw[A.bq (λaa=>⟨⟨aa,trivial⟩,⟨Int.le_refl _,by grind⟩,trivial⟩)];have e:(decide ((x.length:Int)=0)||decide ((x.length:Int) > 6)||decide ((x.length:Int) > 1)&&decide (((x.getD 0 0).toNat:Int)=48))=(decide (x.length=0)||decide (x.length > 6)||decide (x.length > 1)&&decide ((x.getD 0 0).toNat=48)):=by
  grind
 rw[e];by_cases aa:(decide (x.length=0)||decide (x.length > 6)||decide (x.length > 1)&&decide ((x.getD 0 0).toNat=48))=true
 ·grind
 ·rw[if_neg aa,if_neg aa];have dv:x.length<=6:=by
   grind
  rw[A.f_ x (λi (n:Int)=>(x,n,(i:Int),())) (λc n=>if y1 c=true then .done (.done (-1)) else .next (10*n+((c.toNat:Int) - 48))) (λn=>.next (n,())) (λi n=>0<=n/\n<10 ^ i) 0 ?_ ⟨Int.le_refl _,by decide⟩ ?_ ?_]
  ·rw[aaE _ _ (Int.le_refl _),A.aK];by_cases au:gj x 0=-1
   ·rw[if_pos au,au];rfl
   ·rw[if_neg au];rfl
  ·rfl
  ·rintro i G n ⟨aY,E⟩;have hw:=bF (n:=(i:Int)+1) (by omega) (by omega);have aq:(10:Int) ^ i<=10 ^ 5:=by
    have:=Nat.pow_le_pow_right (n:=10) (by decide) (show i<=5 by omega);grind
   have xS:(10:Int) ^ (i+1)=10 ^ i*10:=Int.pow_succ ..;refine⟨?_,λbe cY=>?_⟩
   ·simp only[cX G,if_true,dk G,cP G,A.br,cp,hw];rw[A.bq (λh=>⟨⟨h,h⟩,trivial,trivial⟩)];by_cases hc:y1 x[i]=true
    ·rw[if_pos hc];have oS:(decide ((x[i].toNat:Int)<48)||decide ((x[i].toNat:Int) > 57))=true:=hc;simp_all
    ·rw[if_neg hc];have oS:¬(decide ((x[i].toNat:Int)<48)||decide ((x[i].toNat:Int) > 57))=true:=hc;rw[if_neg oS];simp only[Bool.or_eq_true,decide_eq_true_eq,not_or]at oS;rw[aaD (by omega) (by omega),bF (n:=(x[i].toNat:Int) - 48) (by omega) (by omega),bF (n:=10*n) (by omega) (by omega),bF (n:=10*n+((x[i].toNat:Int) - 48)) (by omega) (by omega)];rfl
   ·split at cY
    ·grind
    ·rename_i hc;unfold y1 at hc;grind
  simp
def BB(o:List aR)(c:UInt8):List aR:=if c=32 then o++[[]] else o.set (o.length - 1) (o.getD (o.length - 1) []++[c])
theorem Qy:∀ (s:aR) (o:List aR) (w:aR),s.foldl BB (o++[w])=o++(match cK s with | []=>[w] | v::l=>(w++v)::l)
 | [],o,w=>by simp[cK]
 | c::s,o,w=>by
  rw[List.foldl_cons];unfold cK;by_cases hc:c=32
  ·rw[if_pos hc,show BB (o++[w]) c=o++[w]++[[]] from if_pos hc];have:=Qy s (o++[w]) [];rw[this];have al:=u1 s;grind
  ·rw[if_neg hc,show BB (o++[w]) c=_ from if_neg hc];have e:(o++[w]).set ((o++[w]).length - 1) ((o++[w]).getD ((o++[w]).length - 1) []++[c])=o++[w++[c]]:=by
    simp
   rw[e];have:=Qy s o (w++[c]);rw[this];have al:=u1 s;cases h:cK s with
   | nil=>exact absurd al.1 (by rw[h];decide)
   | cons v l=>simp
abbrev JA:aO:=⟨.str,u0,λx=>x.length<=10000,cK⟩
theorem asa(x):A.le (YY x) (JA.sh x):=A.bw λh=>by
 change x.length<=10000 at h;unfold YY;show _=A.pure (cK x);rw[A.f_ x (λi (o:List aR)=>(x,(i:Int),o,())) (λc o=>.next (BB o c)) (λo=>.next (o,())) (λi o=>1<=o.length/\o.length<=i+1/\∀ w∈o,w.length<=i) [[]] ?_ ⟨by decide,by decide,by simp⟩ ?_ ?_]
 ·rw[eL,A.aK,A.b7];have:=Qy x [] [];rw[List.nil_append]at this;rw[this];have al:=u1 x;grind
 ·rfl
 ·rintro i G o ⟨E,U,ah⟩;have hw:=bF (n:=(i:Int)+1) (by omega) (by omega);have gZ:=bF (n:=(o.length:Int) - 1) (by omega) (by omega);have az:((o.length:Int) - 1).toNat=o.length - 1:=by omega
  have aN:((i:Int)+1).toNat=i+1:=by omega
  have asb:o.length - 1<o.length:=by omega
  have ay:o.getD (o.length - 1) []=o[o.length - 1]:=by grind
  have ayN:=ah _ (List.getElem_mem asb);have au:(x.take (i+1)).drop i=[x[i]]:=by rw[List.drop_take,List.drop_eq_getElem_cons G,Nat.add_sub_cancel_left];rfl
  refine⟨?_,λbe cY=>?_⟩
  ·simp only[bZ,cX G,if_true,dk G,cP G,A.br,cp,hw,gZ,az,aaC];unfold BB;by_cases hc:x[i]=32
   ·have oS:decide ((x[i].toNat:Int)=32)=true:=by simp_all
    rw[if_pos oS,if_pos hc,A.bq (fw (by grind))];simp_all
   ·have oS:¬decide ((x[i].toNat:Int)=32)=true:=by
     intro h;apply hc;simp only[decide_eq_true_eq]at h;exact UInt8.toNat_inj.1 (show x[i].toNat=32 by omega)
    rw[if_neg oS,if_neg hc];rw[A.bq (by omega),A.bq (by omega),aN,Int.toNat_natCast,au,A.bq (fw (by grind)),A.bq (by omega)];simp_all
  ·simp only[W.next.injEq]at cY;subst cY;unfold BB;grind
 simp
def p2:List aR×z1'×z1':=(lg.map (·.1),lg.map (·.2.1),lg.map λp=>if p.2.2=true then -1 else p.2.1)
abbrev JB:aO:=⟨.cU,.aB u0 (.aB fR fR),λ_=>True,λ_=>p2⟩
theorem asc(x):A.le (anS x) (JB.sh x):=A.bw λ_=>congrArg A.pure (show _=p2 by rfl)
def JC(k:Int)(m:Bool)(n:Nat):Bool:=decide ((n:Int)>=k)&&(decide ((if m=true then -1 else k)<(0:Int))||decide ((n:Int)<=if m=true then -1 else k))
def u4(s:aR):aR×z1'×Bool:=
 if ((cK s).drop 1).any (λw=>decide (e2 w<0))=true then ([],[],false) else
 match o_ ((cK s).getD 0 []) lg 0 with
 | none=>([],[],false)
 | some (k,m,_)=>((cK s).getD 0 [],((cK s).drop 1).map e2,JC k m ((cK s).drop 1).length)
theorem aaF{aJ:Type}{w:aR}{g:Int->Bool->aJ}{r:aJ}:∀ (l:List (aR×Int×Bool)) (i:Nat),e1 (λp (_:Unit)=>if decide (p.1=w)=true then .done (g p.2.1 p.2.2) else .next ()) (λ_=>r) l ()=match o_ w l i with | none=>r | some q=>g q.1 q.2.1
 | [],_=>rfl
 | p::l,i=>by
  unfold e1 o_;by_cases h:p.1=w
  ·simp[h]
  ·have U:¬w=p.1:=λe=>h e.symm;simp only[h,decide_false,Bool.false_eq_true,if_false,U];exact aaF l (i+1)
abbrev JD:aO:=⟨.str,.aB .str (.aB fR .bool),λx=>x.length<=10000,u4⟩
theorem asd(x):A.le (YX JA.sh Jz.sh JB.sh x) (JD.sh x):=A.bw λh=>by
 change x.length<=10000 at h;unfold YX;show _=A.pure (u4 x);unfold u4;rw[show JA.sh x=A.pure (cK x) from A.bR h _,A.aK];have al:=u1 x;have ai:List.length x<=10000:=h;have vl:((cK x).drop 1).length=(cK x).length - 1:=by simp
 rw[A.f_ ((cK x).drop 1) (λi (o:z1')=>(cK x,((1+i:Nat):Int),o,())) (λw o=>if decide (e2 w<0)=true then .done (.done ([],[],false)) else .next (o++[e2 w])) (λo=>.next (cK x,o,())) (λi o=>o.length=i) [] ?_ rfl ?_ ?_]
 ·rw[Qx,A.aK];by_cases a_:((cK x).drop 1).any (λw=>decide (e2 w<0))=true
  ·rw[if_pos a_,if_pos a_];rfl
  ·rw[if_neg a_,if_neg a_,A.b7,sR,List.nil_append];rw[show JB.sh ()=A.pure p2 from rfl,A.aK];generalize nm:((cK x).drop 1).map e2=BC;have ax:BC.length=((cK x).drop 1).length:=by grind
   rw[<-ax];rw[A.f_ lg (λi (_:Unit)=>(cK x,p2.1,p2.2.1,p2.2.2,(i:Int),BC,())) (λp (_:Unit)=>if decide (p.1=(cK x).getD 0 [])=true then .done (.done ((cK x).getD 0 [],BC,JC p.2.1 p.2.2 BC.length)) else .next ()) (λ_=>.next ()) (λ_ _=>True) () ?_ trivial ?_ ?_]
   ·rw[aaF (g:=λk m=>W.done ((cK x).getD 0 [],BC,JC k m BC.length)) lg 0,A.aK];cases o_ ((cK x).getD 0 []) lg 0<;>rfl
   ·rfl
   ·intro i G _ _;have ayO:i<20:=G;have hw:=bF (n:=(i:Int)+1) (by omega) (by omega);have eF:i<p2.1.length:=G;have mj:i<p2.2.1.length:=G;have EY:i<p2.2.2.length:=G;have g1:p2.1[i]'eF=(lg[i]'G).1:=List.getElem_map ..;have ew:p2.2.1[i]'mj=(lg[i]'G).2.1:=List.getElem_map ..;have g3:p2.2.2[i]'EY=if (lg[i]'G).2.2=true then -1 else (lg[i]'G).2.1:=List.getElem_map ..
    have aq:((0:Int)<=0/\(0:Int)<((cK x).length:Int))=True:=eq_true ⟨by decide,by omega⟩;refine⟨?_,λ_ _=>trivial⟩;simp only[bZ,cX eF,if_true,dk eF,dk mj,dk EY,cP eF,cP mj,cP EY,aq,A.br,cp,hw,g1,ew,g3,show Int.toNat 0=0 from rfl];by_cases hc:decide ((lg[i]'G).1=(cK x).getD 0 [])=true
    ·rw[if_pos hc,if_pos hc];unfold JC;simp_all
    simp_all
   ·intro _ _;simp[p2]
 ·rfl
 ·intro i G o ag;have ds:1+i<(cK x).length:=by omega
  have hw:=bF (n:=((1+i:Nat):Int)+1) (by omega) (by omega);have ay:(cK x)[1+i]=((cK x).drop 1)[i]:=by grind
  refine⟨?_,λbe cY=>?_⟩
  ·simp only[bZ,cX ds,if_true,dk ds,cP ds,A.br,cp,hw,ay];rw[show Jz.sh ((cK x).drop 1)[i]=A.pure (e2 ((cK x).drop 1)[i]) from rfl,A.aK];by_cases ax:decide (e2 ((cK x).drop 1)[i]<0)=true
   ·simp_all
   ·rw[if_neg ax,if_neg ax,A.bq (fw (by grind))];rfl
  grind
 simp_all
theorem ase{s:aR}(h:s.length<=10000):JD.sh s=A.pure (u4 s):=A.bR h _
abbrev E8:aO:=⟨.aB fR fR,.bool,λx=>x.1=x.2/\x.1.length<2 ^ 63,λ_=>true⟩
theorem asf(x):A.le (YV x) (E8.sh x):=A.bw λh=>by
 obtain⟨a,b⟩:=x;obtain⟨rfl,h⟩:a=b/\a.length<2 ^ 63:=h;unfold YV;rw[if_neg (by simp)];rw[A.ed a (λi (_:Unit)=>(a,a,(i:Int),())) (λ_ b=>.next b) (λ_=>.next ()) () ?_ ?_ ?_]
 ·rw[eL,A.aK,A.b7]
 ·rfl
 ·intro i G _;have hw:=bF (n:=(i:Int)+1) (by omega) (by omega);simp_all
 simp
theorem asg{a:z1'}(h:a.length<2 ^ 63):E8.sh (a,a)=A.pure true:=A.bR ⟨rfl,h⟩ _
abbrev E9:Type:=Int×Int×Int×Int
def Qz(s:aR)(c:E9):E9:=
 if (!(u4 s).2.2)=true then c else if decide ((u4 s).1=[119,105,115,104])=true then (IntKind.wrap .i64 (c.1+1),c.2)
 else if decide ((u4 s).1=[112,105,101,99,101])=true then (c.1,IntKind.wrap .i64 (c.2.1+1),c.2.2.1,IntKind.wrap .i64 (c.2.2.2+IntKind.wrap .i64 (((u4 s).2.1.length:Int) - 4)))
 else if decide ((u4 s).1=[99,111,109,101,115])=true then (c.1,c.2.1,IntKind.wrap .i64 (c.2.2.1+1),c.2.2.2) else c
def aaG(d:bd):E9:=((d.1.2.2.2.1.length:Int),(d.1.2.2.1.length:Int),(d.1.2.2.2.2.1.length:Int),d.1.2.2.1.foldl (λn p=>IntKind.wrap .i64 (n+(p.2.2.2.2.length:Int))) 0)
def ash(c:E9):Bool:=decide (c.1 > 3)||decide (c.2.1 > 4)||decide (c.2.2.1 > 3)||decide (c.2.2.2 > 4)
def u5(d:bd)(l:List aR):Bool:=
 if (rY d.1||H.k7 d.2||decide ((l.length:Int) > 60))=true then true else if (l.any λs=>decide ((s.length:Int) > 80))=true then true
 else decide (kr d=0)&&ash (l.foldl (λc s=>Qz s c) (aaG d))
abbrev aaH(x:bd×List aR):Prop:=fB x.1.1/\H.jE x.1.2/\x.2.length<2 ^ 63
abbrev E_:aO:=⟨.aB yQ u0,.bool,aaH,λx=>u5 x.1 x.2⟩
theorem asi(x):A.le (YW r2.sh I'.sh H.wj.sh JD.sh x) (E_.sh x):=A.bw λh=>by
 obtain⟨d,l⟩:=x;obtain⟨E,U,ah⟩:aaH (d,l):=h;have jj:d.1.2.2.1.length<2 ^ 63:=E.2.2.1;change l.length<2 ^ 63 at ah;unfold YW;show _=A.pure (u5 d l);unfold u5;rw[show I'.sh d.1=A.pure (rY d.1) from A.bR E _,A.aK,show H.wj.sh d.2=A.pure (H.k7 d.2) from A.bR U _,A.lE,A.aK];have e:(rY d.1||(if (!rY d.1)=true then H.k7 d.2 else false)||decide (Int.ofNat l.length > 60))=(rY d.1||H.k7 d.2||decide ((l.length:Int) > 60)):=by grind
 rw[e];by_cases ao:(rY d.1||H.k7 d.2||decide ((l.length:Int) > 60))=true
 ·grind
 ·rw[if_neg ao,if_neg ao];rw[A.ed d.1.2.2.1 (λi (n:Int)=>(l,(d.1.2.2.2.1.length:Int),(d.1.2.2.1.length:Int),(d.1.2.2.2.2.1.length:Int),n,(i:Int),d,())) (λp n=>.next (IntKind.wrap .i64 (n+(p.2.2.2.2.length:Int)))) (λn=>.next (l,(d.1.2.2.2.1.length:Int),(d.1.2.2.1.length:Int),(d.1.2.2.2.2.1.length:Int),n,d,())) 0 ?_ ?_ ?_]
  ·rw[eL,A.aK,A.b7];rw[A.ed l (λi (c:E9)=>(l,c.1,c.2.1,c.2.2.1,c.2.2.2,(i:Int),d,())) (λs c=>if decide ((s.length:Int) > 80)=true then .done (.done true) else .next (Qz s c)) (λc=>.next (c.1,c.2.1,c.2.2.1,c.2.2.2,d,())) (aaG d) ?_ ?_ ?_]
   ·rw[Qx,A.aK];by_cases a_:(l.any λs=>decide ((s.length:Int) > 80))=true
    ·simp_all
    ·rw[if_neg a_,if_neg a_,A.b7];rw[show r2.sh d=A.pure (kr d) from A.bR ⟨E,U⟩ _,A.aK];rfl
   ·rfl
   ·intro i G c;have hw:=bF (n:=(i:Int)+1) (by omega) (by omega);simp only[Prod.dc,Prod.fv,Prod.gR,bZ,cX G,if_true,dk G,cP G,A.br,cp];by_cases hc:decide ((l[i].length:Int) > 80)=true
    ·simp_all
    ·rw[if_neg hc,if_neg hc];rw[ase (by grind),A.aK];unfold Qz;split
     ·simp_all
     ·split
      ·simp_all
      ·split
       ·simp_all
       ·split
        ·rw[A.aK,A.b7];simp only[hw];rfl
        ·rw[A.aK,A.b7];simp only[hw];rfl
   simp
  ·rfl
  ·intro i G n;have hw:=bF (n:=(i:Int)+1) (by omega) (by omega);simp_all
  simp
theorem asj{d:bd}{l:List aR}{n:Int}(E:fB d.1)(U:H.jE d.2)(h:(!u5 d l&&decide (kr d=0)&&decide ((l.length:Int)<=n))=true):c7 d/\(l.length:Int)<=n/\∀ s∈l,s.length<=80:=by
 simp only[Bool.and_eq_true,Bool.not_eq_true',decide_eq_true_eq]at h;obtain⟨⟨ao,he⟩,ax⟩:=h;unfold u5 at ao;split at ao
 ·grind
 ·rename_i a_;split at ao
  ·grind
  ·rename_i aa;simp only[Bool.or_eq_true,not_or,Bool.not_eq_true]at a_;refine⟨Qw E (H.anw a_.1.2) he,ax,λs aD=>?_⟩;grind
theorem asl:fB qT.1/\H.jE qT.2:=⟨aqQ,by decide,by decide,by decide,by decide⟩
theorem asm:H.fy qT.2:=⟨⟨by decide,by decide,by decide,by decide⟩,λ_=>by decide +kernel⟩
theorem aaI{d:bd}(au:c7 d){l:List aR}(ayP:l.length<=40)(al:∀ s∈l,s.length<=10000):u3.sh (d,l)=A.pure ((iV (ij d) l).1,(iV (ij d) l).2,0):=by
 have e:u3.sh (d,l)=A.pure (E2 d l):=A.bR ⟨au.gY,au.fy,by show l.length<2 ^ 63;omega,al⟩ _;rw[e];unfold E2;rw[if_neg (by rw[au.ari];decide),if_neg (by omega)]
end Go.Fer.aw
namespace Go.Proofs
open Go.Shelf
theorem cI{P:Program}{k:Nat}{f g:Func}(h:P.funcs[k]?=some f)(e:f=g:=by kernel_rfl):P.funcs[k]?=some g:=h.trans (congrArg some e)
open Tryz
def Tryz.aaJ:Go.Shelf.Ren:=⟨fun | 156=>258 | 165=>318 | 166=>319 | 169=>320 | 240=>358 | 241=>359 | 276=>386 | 277=>387 | n=>n,fun | 31=>48 | 9=>9 | 3=>3 | 4=>4 | 0=>0 | 20=>20 | 72=>345 | 76=>267 | 70=>343 | 37=>171 | 75=>266 | 127=>380 | 164=>405 | 5=>5 | 80=>347 | n=>n,fun | n=>n⟩
theorem Tryz.aaK : Go.Proofs.Lays.n156 Tryz.prog Tryz.aaJ := {
  mixed:=by kernel_rfl
  f156:=cI func258
  f165:=cI func318
  f166:=cI func319
  f169:=cI func320
  f240:=cI func358
  f241:=cI func359
  f276:=cI func386
  f277:=cI func387
  t0:=underlying0
  a0:=isAgg0
  z0:=sizeOf0
  v0:=zeroValue0
  t3:=underlying3
  a3:=isAgg3
  z3:=sizeOf3
  v3:=zeroValue3
  t4:=underlying4
  a4:=isAgg4
  z4:=sizeOf4
  v4:=zeroValue4
  t9:=underlying9
  a9:=isAgg9
  z9:=sizeOf9
  v9:=zeroValue9
  t20:=underlying20
  a20:=isAgg20
  z20:=sizeOf20
  v20:=zeroValue20
  t31:=underlying48
  a31:=isAgg48
  z31:=sizeOf48
  v31:=zeroValue48
  t37:=underlying171
  a37:=isAgg171
  z37:=sizeOf171
  v37:=zeroValue171
  t70:=underlying343
  a70:=isAgg343
  z70:=sizeOf343
  v70:=zeroValue343
  t72:=underlying345
  a72:=isAgg345
  z72:=sizeOf345
  v72:=zeroValue345
  t75:=underlying266
  a75:=isAgg266
  z75:=sizeOf266
  v75:=zeroValue266
  t76:=underlying267
  a76:=isAgg267
  z76:=sizeOf267
  v76:=zeroValue267
  t127:=underlying380
  a127:=isAgg380
  z127:=sizeOf380
  v127:=zeroValue380
  t164:=underlying405
  a164:=isAgg405
  z164:=sizeOf405
  v164:=zeroValue405 }
theorem Tryz.aaL : Builder.Extra Tryz.prog Tryz.aaJ := {
  sizeBuilder:=by kernel_rfl
  liesBuilder:=by kernel_rfl
  t5:=underlying5
  a5:=isAgg5
  z5:=sizeOf5
  v5:=zeroValue5
  infoByte:=by kernel_rfl
  cellsByte:=by kernel_rfl
  sizeByte:=by kernel_rfl
  neB5:=by decide }
def Tryz.asn:Go.Shelf.Ren:=⟨fun | 171=>204 | 243=>264 | 246=>330 | 283=>368 | 284=>369 | 285=>370 | 286=>371 | 129=>291 | 317=>392 | 318=>393 | 319=>394 | 320=>395 | 337=>399 | 338=>400 | n=>n,fun | 3=>3 | 9=>9 | 2=>2 | 4=>4 | 171=>386 | 0=>0 | 53=>285 | 37=>171 | 5=>5 | 173=>388 | 212=>418 | 51=>282 | 20=>20 | 213=>419 | 46=>228 | 232=>423 | 233=>424 | n=>n,fun | 17=>5 | 18=>6 | 19=>7 | n=>n⟩
theorem Tryz.aaM : Go.Proofs.LaysM.n171 Tryz.prog Tryz.asn := {
  mixed:=by kernel_rfl
  f129:=cI func291
  f171:=cI func204
  f243:=cI func264
  f246:=cI func330
  f283:=cI func368
  f284:=cI func369
  f285:=cI func370
  f286:=cI func371
  f317:=cI func392
  f318:=cI func393
  f319:=cI func394
  f320:=cI func395
  f337:=cI func399
  f338:=cI func400
  t0:=underlying0
  a0:=isAgg0
  z0:=sizeOf0
  v0:=zeroValue0
  t2:=underlying2
  a2:=isAgg2
  z2:=sizeOf2
  v2:=zeroValue2
  t3:=underlying3
  a3:=isAgg3
  z3:=sizeOf3
  v3:=zeroValue3
  t4:=underlying4
  a4:=isAgg4
  z4:=sizeOf4
  v4:=zeroValue4
  t5:=underlying5
  a5:=isAgg5
  z5:=sizeOf5
  v5:=zeroValue5
  t9:=underlying9
  a9:=isAgg9
  z9:=sizeOf9
  v9:=zeroValue9
  t20:=underlying20
  a20:=isAgg20
  z20:=sizeOf20
  v20:=zeroValue20
  t37:=underlying171
  a37:=isAgg171
  z37:=sizeOf171
  v37:=zeroValue171
  t46:=underlying228
  a46:=isAgg228
  z46:=sizeOf228
  v46:=zeroValue228
  t51:=underlying282
  a51:=isAgg282
  z51:=sizeOf282
  v51:=zeroValue282
  t53:=underlying285
  a53:=isAgg285
  z53:=sizeOf285
  v53:=zeroValue285
  t171:=underlying386
  a171:=isAgg386
  z171:=sizeOf386
  v171:=zeroValue386
  t173:=underlying388
  a173:=isAgg388
  z173:=sizeOf388
  v173:=zeroValue388
  t212:=underlying418
  a212:=isAgg418
  z212:=sizeOf418
  v212:=zeroValue418
  t213:=underlying419
  a213:=isAgg419
  z213:=sizeOf419
  t232:=underlying423
  a232:=isAgg423
  z232:=sizeOf423
  v232:=zeroValue423
  t233:=underlying424
  a233:=isAgg424
  z233:=sizeOf424
  v233:=zeroValue424
  g17:=by kernel_rfl
  g18:=by kernel_rfl
  g19:=by kernel_rfl
  i0:=by kernel_rfl
  i2:=by kernel_rfl
  i3:=by kernel_rfl
  i4:=by kernel_rfl
  i5:=by kernel_rfl
  i9:=by kernel_rfl
  i20:=by kernel_rfl
  i37:=by kernel_rfl
  i46:=by kernel_rfl
  i51:=by kernel_rfl
  i53:=by kernel_rfl
  i171:=by kernel_rfl
  i173:=by kernel_rfl
  i212:=by kernel_rfl
  i232:=by kernel_rfl
  i233:=by kernel_rfl
  m17:=by kernel_rfl
  m18:=by kernel_rfl
  m19:=by kernel_rfl }
def Tryz.aso:Go.Shelf.Ren:=⟨fun | 172=>203 | 244=>262 | 245=>263 | 247=>325 | 279=>326 | 280=>327 | 281=>328 | 282=>329 | 287=>365 | 316=>366 | 171=>204 | 205=>367 | 321=>390 | 322=>391 | 243=>264 | 246=>330 | 283=>368 | 284=>369 | 285=>370 | 286=>371 | 129=>291 | 317=>392 | 318=>393 | 319=>394 | 320=>395 | 337=>399 | 338=>400 | n=>n,fun | 9=>9 | 3=>3 | 75=>266 | 76=>267 | 4=>4 | 5=>5 | 167=>351 | 37=>171 | 0=>0 | 85=>352 | 2=>2 | 168=>354 | 53=>285 | 175=>381 | 46=>228 | 210=>384 | 127=>380 | 145=>416 | 143=>414 | 21=>21 | 171=>386 | 173=>388 | 212=>418 | 51=>282 | 20=>20 | 213=>419 | 232=>423 | 233=>424 | 80=>347 | n=>n,fun | 15=>1 | 16=>2 | 17=>5 | 18=>6 | 19=>7 | n=>n⟩
theorem Tryz.QA : Go.Proofs.LaysC.n172 Tryz.prog Tryz.aso := {
  mixed:=by kernel_rfl
  f129:=cI func291
  f171:=cI func204
  f172:=cI func203
  f205:=cI func367
  f243:=cI func264
  f244:=cI func262
  f245:=cI func263
  f246:=cI func330
  f247:=cI func325
  f279:=cI func326
  f280:=cI func327
  f281:=cI func328
  f282:=cI func329
  f283:=cI func368
  f284:=cI func369
  f285:=cI func370
  f286:=cI func371
  f287:=cI func365
  f316:=cI func366
  f317:=cI func392
  f318:=cI func393
  f319:=cI func394
  f320:=cI func395
  f321:=cI func390
  f322:=cI func391
  f337:=cI func399
  f338:=cI func400
  t0:=underlying0
  a0:=isAgg0
  z0:=sizeOf0
  v0:=zeroValue0
  t2:=underlying2
  a2:=isAgg2
  z2:=sizeOf2
  v2:=zeroValue2
  t3:=underlying3
  a3:=isAgg3
  z3:=sizeOf3
  v3:=zeroValue3
  t4:=underlying4
  a4:=isAgg4
  z4:=sizeOf4
  v4:=zeroValue4
  t5:=underlying5
  a5:=isAgg5
  z5:=sizeOf5
  v5:=zeroValue5
  t9:=underlying9
  a9:=isAgg9
  z9:=sizeOf9
  v9:=zeroValue9
  t20:=underlying20
  a20:=isAgg20
  z20:=sizeOf20
  v20:=zeroValue20
  t21:=underlying21
  a21:=isAgg21
  z21:=sizeOf21
  v21:=zeroValue21
  t37:=underlying171
  a37:=isAgg171
  z37:=sizeOf171
  v37:=zeroValue171
  t46:=underlying228
  a46:=isAgg228
  z46:=sizeOf228
  v46:=zeroValue228
  t51:=underlying282
  a51:=isAgg282
  z51:=sizeOf282
  v51:=zeroValue282
  t53:=underlying285
  a53:=isAgg285
  z53:=sizeOf285
  v53:=zeroValue285
  t75:=underlying266
  a75:=isAgg266
  z75:=sizeOf266
  v75:=zeroValue266
  t76:=underlying267
  a76:=isAgg267
  z76:=sizeOf267
  v76:=zeroValue267
  t85:=underlying352
  a85:=isAgg352
  z85:=sizeOf352
  v85:=zeroValue352
  t127:=underlying380
  a127:=isAgg380
  z127:=sizeOf380
  v127:=zeroValue380
  t143:=underlying414
  a143:=isAgg414
  z143:=sizeOf414
  v143:=zeroValue414
  t145:=underlying416
  a145:=isAgg416
  z145:=sizeOf416
  v145:=zeroValue416
  t167:=underlying351
  a167:=isAgg351
  z167:=sizeOf351
  v167:=zeroValue351
  t168:=underlying354
  a168:=isAgg354
  z168:=sizeOf354
  v168:=zeroValue354
  t171:=underlying386
  a171:=isAgg386
  z171:=sizeOf386
  v171:=zeroValue386
  t173:=underlying388
  a173:=isAgg388
  z173:=sizeOf388
  v173:=zeroValue388
  t175:=underlying381
  a175:=isAgg381
  z175:=sizeOf381
  v175:=zeroValue381
  t210:=underlying384
  a210:=isAgg384
  z210:=sizeOf384
  v210:=zeroValue384
  t212:=underlying418
  a212:=isAgg418
  z212:=sizeOf418
  v212:=zeroValue418
  t213:=underlying419
  a213:=isAgg419
  z213:=sizeOf419
  t232:=underlying423
  a232:=isAgg423
  z232:=sizeOf423
  v232:=zeroValue423
  t233:=underlying424
  a233:=isAgg424
  z233:=sizeOf424
  v233:=zeroValue424
  g15:=by kernel_rfl
  g16:=by kernel_rfl
  g17:=by kernel_rfl
  g18:=by kernel_rfl
  g19:=by kernel_rfl
  t80:=underlying347
  a80:=isAgg347
  z80:=sizeOf347
  v80:=zeroValue347
  i0:=by kernel_rfl
  i2:=by kernel_rfl
  i3:=by kernel_rfl
  i4:=by kernel_rfl
  i5:=by kernel_rfl
  i9:=by kernel_rfl
  i20:=by kernel_rfl
  i21:=by kernel_rfl
  i37:=by kernel_rfl
  i46:=by kernel_rfl
  i51:=by kernel_rfl
  i53:=by kernel_rfl
  i75:=by kernel_rfl
  i76:=by kernel_rfl
  i80:=by kernel_rfl
  i85:=by kernel_rfl
  i127:=by kernel_rfl
  i143:=by kernel_rfl
  i145:=by kernel_rfl
  i167:=by kernel_rfl
  i168:=by kernel_rfl
  i171:=by kernel_rfl
  i173:=by kernel_rfl
  i175:=by kernel_rfl
  i210:=by kernel_rfl
  i212:=by kernel_rfl
  i232:=by kernel_rfl
  i233:=by kernel_rfl
  m15:=by kernel_rfl
  m16:=by kernel_rfl
  m17:=by kernel_rfl
  m18:=by kernel_rfl
  m19:=by kernel_rfl
  c0:=by kernel_rfl
  c2:=by kernel_rfl
  c3:=by kernel_rfl
  c4:=by kernel_rfl
  c5:=by kernel_rfl
  c9:=by kernel_rfl
  c20:=by kernel_rfl
  c21:=by kernel_rfl
  c37:=by kernel_rfl
  c46:=by kernel_rfl
  c51:=by kernel_rfl
  c53:=by kernel_rfl
  c75:=by kernel_rfl
  c76:=by kernel_rfl
  c80:=by kernel_rfl
  c85:=by kernel_rfl
  c127:=by kernel_rfl
  c143:=by kernel_rfl
  c145:=by kernel_rfl
  c167:=by kernel_rfl
  c168:=by kernel_rfl
  c171:=by kernel_rfl
  c173:=by kernel_rfl
  c175:=by kernel_rfl
  c210:=by kernel_rfl
  c212:=by kernel_rfl
  c213:=by kernel_rfl
  c232:=by kernel_rfl
  c233:=by kernel_rfl }
open Go.RowKit in
theorem Tryz.strconv_Atoi_ok(s:ByteArray)(zC:s.size<=9223372036854775806)(v:Int)(h:Lib.atoiAll s.data.toList=.ok v)(w:World) :
  Calls Tryz.prog 203 #[.string s] w λe w'=>e=.returned (.tuple #[.int .i64 v,.nilIface])/\(w'=w\/∃ t,w'=Lib.bytesWorld w 5 t):=Any.strconv_Atoi_ok Tryz.QA s zC v h w
open Go.RowKit in
theorem Tryz.strconv_Atoi_syntax(s:ByteArray)(sj:s.size<=281474976710656)(h:Lib.atoiAll s.data.toList=Lib.atoiAll [])(hC:Value)(w:World)(af:w.cell? ⟨1,0,none⟩=some hC)(pR:hC=.nilIface\/∃ lQ mi,hC=.iface lQ mi) :
  Calls Tryz.prog 203 #[.string s] w λe w'=>∃ N,e=.returned (.tuple #[.int .i64 (0),.iface 354 (.pointer (some ⟨N,0,none⟩))])/\w.heap.size<=N/\w'.heap[N]?=some (.cells #[.string ⟨#[65,116,111,105]⟩,.string s,hC] 384 (0,0))/\Below w.heap.size w w':=Any.strconv_Atoi_syntax Tryz.QA s sj h hC w af pR
open Go.RowKit in
theorem Tryz.strconv_Atoi_range(s:ByteArray)(sj:s.size<=281474976710656)(h:Lib.atoiAll s.data.toList=.range)(hC:Value)(w:World)(af:w.cell? ⟨2,0,none⟩=some hC)(pR:hC=.nilIface\/∃ lQ mi,hC=.iface lQ mi) :
  Calls Tryz.prog 203 #[.string s] w λe w'=>∃ N,e=.returned (.tuple #[.int .i64 (Lib.atoiSat s.data.toList),.iface 354 (.pointer (some ⟨N,0,none⟩))])/\w.heap.size<=N/\w'.heap[N]?=some (.cells #[.string ⟨#[65,116,111,105]⟩,.string s,hC] 384 (0,0))/\Below w.heap.size w w':=Any.strconv_Atoi_range Tryz.QA s sj h hC w af pR
def Tryz.asp:Go.Shelf.Ren:=⟨fun | 146=>139 | 221=>202 | 268=>259 | 138=>260 | 143=>261 | 195=>321 | 197=>322 | 218=>323 | 219=>324 | 260=>360 | 217=>361 | 225=>362 | 224=>363 | 267=>364 | 266=>388 | 314=>389 | n=>n,fun | 9=>9 | 31=>48 | 3=>3 | 4=>4 | 0=>0 | 105=>348 | 21=>21 | 5=>5 | 46=>228 | 119=>408 | 139=>411 | 138=>410 | 146=>283 | 51=>282 | n=>n,fun | 1=>0 | 3=>3 | 4=>4 | n=>n⟩
theorem Tryz.asq : Go.Proofs.Lays.n146 Tryz.prog Tryz.asp := {
  mixed:=by kernel_rfl
  f138:=cI func260
  f143:=cI func261
  f146:=cI func139
  f195:=cI func321
  f197:=cI func322
  f217:=cI func361
  f218:=cI func323
  f219:=cI func324
  f221:=cI func202
  f224:=cI func363
  f225:=cI func362
  f260:=cI func360
  f266:=cI func388
  f267:=cI func364
  f268:=cI func259
  f314:=cI func389
  t0:=underlying0
  a0:=isAgg0
  z0:=sizeOf0
  v0:=zeroValue0
  t3:=underlying3
  a3:=isAgg3
  z3:=sizeOf3
  v3:=zeroValue3
  t4:=underlying4
  a4:=isAgg4
  z4:=sizeOf4
  v4:=zeroValue4
  t5:=underlying5
  a5:=isAgg5
  z5:=sizeOf5
  v5:=zeroValue5
  t9:=underlying9
  a9:=isAgg9
  z9:=sizeOf9
  v9:=zeroValue9
  t21:=underlying21
  a21:=isAgg21
  z21:=sizeOf21
  v21:=zeroValue21
  t31:=underlying48
  a31:=isAgg48
  z31:=sizeOf48
  v31:=zeroValue48
  t46:=underlying228
  a46:=isAgg228
  z46:=sizeOf228
  v46:=zeroValue228
  t51:=underlying282
  a51:=isAgg282
  z51:=sizeOf282
  v51:=zeroValue282
  t105:=underlying348
  a105:=isAgg348
  z105:=sizeOf348
  v105:=zeroValue348
  t119:=underlying408
  a119:=isAgg408
  z119:=sizeOf408
  t138:=underlying410
  a138:=isAgg410
  z138:=sizeOf410
  v138:=zeroValue410
  t139:=underlying411
  a139:=isAgg411
  z139:=sizeOf411
  v139:=zeroValue411
  t146:=underlying283
  a146:=isAgg283
  z146:=sizeOf283
  v146:=zeroValue283
  g1:=by kernel_rfl
  g3:=by kernel_rfl
  g4:=by kernel_rfl }
def Tryz.asr:Go.Shelf.Ren:=⟨fun | 189=>161 | 125=>215 | 257=>214 | 128=>290 | 129=>291 | 294=>281 | 295=>282 | 296=>283 | 297=>284 | 298=>285 | 299=>286 | 216=>287 | 300=>288 | 301=>289 | 328=>340 | 329=>341 | 330=>342 | 331=>343 | 332=>344 | 215=>339 | 343=>383 | n=>n,fun | 28=>27 | 3=>3 | 46=>228 | 0=>0 | 51=>282 | 53=>285 | 4=>4 | 183=>314 | 182=>313 | 131=>193 | 5=>5 | 9=>9 | 218=>359 | 222=>363 | 228=>398 | 229=>331 | n=>n,fun | n=>n⟩
theorem Tryz.aaN : Go.Proofs.Lays.n189 Tryz.prog Tryz.asr := {
  mixed:=by kernel_rfl
  f125:=cI func215
  f128:=cI func290
  f129:=cI func291
  f189:=cI func161
  f215:=cI func339
  f216:=cI func287
  f257:=cI func214
  f294:=cI func281
  f295:=cI func282
  f296:=cI func283
  f297:=cI func284
  f298:=cI func285
  f299:=cI func286
  f300:=cI func288
  f301:=cI func289
  f328:=cI func340
  f329:=cI func341
  f330:=cI func342
  f331:=cI func343
  f332:=cI func344
  f343:=cI func383
  t0:=underlying0
  a0:=isAgg0
  z0:=sizeOf0
  v0:=zeroValue0
  t3:=underlying3
  a3:=isAgg3
  z3:=sizeOf3
  v3:=zeroValue3
  t4:=underlying4
  a4:=isAgg4
  z4:=sizeOf4
  v4:=zeroValue4
  t5:=underlying5
  a5:=isAgg5
  z5:=sizeOf5
  v5:=zeroValue5
  t9:=underlying9
  a9:=isAgg9
  z9:=sizeOf9
  v9:=zeroValue9
  t28:=underlying27
  a28:=isAgg27
  z28:=sizeOf27
  v28:=zeroValue27
  t46:=underlying228
  a46:=isAgg228
  z46:=sizeOf228
  v46:=zeroValue228
  t51:=underlying282
  a51:=isAgg282
  z51:=sizeOf282
  v51:=zeroValue282
  t53:=underlying285
  a53:=isAgg285
  z53:=sizeOf285
  v53:=zeroValue285
  t131:=underlying193
  a131:=isAgg193
  z131:=sizeOf193
  v131:=zeroValue193
  t182:=underlying313
  a182:=isAgg313
  z182:=sizeOf313
  v182:=zeroValue313
  t183:=underlying314
  a183:=isAgg314
  z183:=sizeOf314
  v183:=zeroValue314
  t218:=underlying359
  a218:=isAgg359
  z218:=sizeOf359
  v218:=zeroValue359
  t222:=underlying363
  a222:=isAgg363
  z222:=sizeOf363
  v222:=zeroValue363
  t228:=underlying398
  a228:=isAgg398
  z228:=sizeOf398
  v228:=zeroValue398
  t229:=underlying331
  a229:=isAgg331
  z229:=sizeOf331
  v229:=zeroValue331 }
def Tryz.ass:Go.Shelf.Ren:=⟨fun | 4=>257 | n=>n,fun | 22=>27 | 25=>3 | 3=>3 | 4=>4 | 9=>9 | 20=>20 | 0=>0 | n=>n,fun | n=>n⟩
theorem Tryz.aaO : Go.Proofs.Lays8.n4 Tryz.prog Tryz.ass := {
  mixed:=by kernel_rfl
  f4:=⟨Tryz.f257.name,by decide,cI func257⟩
  t0:=underlying0
  a0:=isAgg0
  z0:=sizeOf0
  v0:=zeroValue0
  t3:=underlying3
  a3:=isAgg3
  z3:=sizeOf3
  v3:=zeroValue3
  t4:=underlying4
  a4:=isAgg4
  z4:=sizeOf4
  v4:=zeroValue4
  t9:=underlying9
  a9:=isAgg9
  z9:=sizeOf9
  v9:=zeroValue9
  t20:=underlying20
  a20:=isAgg20
  z20:=sizeOf20
  v20:=zeroValue20
  t22:=underlying27
  a22:=isAgg27
  z22:=sizeOf27
  v22:=zeroValue27 }
def Tryz.ast:Go.Shelf.Ren:=⟨fun | 4=>256 | n=>n,fun | 22=>34 | 25=>125 | 3=>3 | 4=>4 | 9=>9 | 20=>20 | 0=>0 | n=>n,fun | n=>n⟩
theorem Tryz.aaP : Go.Proofs.Lays8.n4 Tryz.prog Tryz.ast := {
  mixed:=by kernel_rfl
  f4:=⟨Tryz.f256.name,by decide,cI func256⟩
  t0:=underlying0
  a0:=isAgg0
  z0:=sizeOf0
  v0:=zeroValue0
  t3:=underlying3
  a3:=isAgg3
  z3:=sizeOf3
  v3:=zeroValue3
  t4:=underlying4
  a4:=isAgg4
  z4:=sizeOf4
  v4:=zeroValue4
  t9:=underlying9
  a9:=isAgg9
  z9:=sizeOf9
  v9:=zeroValue9
  t20:=underlying20
  a20:=isAgg20
  z20:=sizeOf20
  v20:=zeroValue20
  t22:=underlying34
  a22:=isAgg34
  z22:=sizeOf34
  v22:=zeroValue34 }
end Go.Proofs
namespace Go.Fer.aw
theorem aaQ:∀ s:aR,(Go.Lib.index s [32]=-1/\cK s=[s])\/∃ t r,s=t++32::r/\Go.Lib.index s [32]=(t.length:Int)/\cK s=t::cK r
 | []=>.inl ⟨rfl,rfl⟩
 | b::l=>by
  unfold Go.Lib.index;by_cases aa:b=32
  ·subst aa;exact .inr ⟨[],l,rfl,by rfl,by rfl⟩
  ·have aq:List.isPrefixOf [32] (b::l)=false:=by
    grind
   rw[aq];have aD:=u1 l;rcases aaQ l with⟨E,U⟩ | ⟨t,r,E,U,ah⟩
   ·rw[E];refine .inl ⟨rfl,?_⟩;unfold cK;grind
   ·rw[U];refine .inr ⟨b::t,r,by grind,?_,?_⟩
    ·rfl
    ·conv=>lhs;unfold cK
     grind
theorem asu:∀ (n:Nat) (s:aR),s.length<=n->Go.Lib.splitK [32] 0 (Go.Lib.count s [32]) s=cK s:=by
 intro n;induction n with
 | zero=>
  intro s h;have:s=[]:=List.eq_nil_of_length_eq_zero (by omega);subst this;rfl
 | succ n aL=>
  intro s h;rcases aaQ s with⟨E,U⟩ | ⟨t,r,E,U,ah⟩
  ·rw[Go.Lib.count_miss E,U];rfl
  ·rw[Go.Lib.count_hit (by simp) U,ah,Nat.add_comm,Go.Lib.splitK,U];have:((t.length:Int) == -1)=false:=by rfl
   rw[this];have e:((t.length:Int)).toNat=t.length:=rfl;have Ek:s.drop (t.length+1)=r:=by simp_all
   grind
end Go.Fer.aw
namespace Go.Fer.ox
open Go Go.Proofs Go.RowKit
section
variable {P:Program} {F:Nat->Prop} {w:World}
theorem QB(x:List UInt8):(ByteArray.mk x.toArray).data.toList=x:=by simp
theorem JE(x:List UInt8):(ByteArray.mk x.toArray).size=x.length:=by rfl
theorem QC{args:List Value}{x:List UInt8}(h:fr P .str F w args x):args=[.string ⟨x.toArray⟩]/\x.length<2 ^ 63:=by
 obtain⟨v,rfl,af⟩:=(r7 rfl).1 h;obtain⟨rfl,al⟩:=ml.1 af;grind
theorem asv{args:List Value}{x y:List UInt8}(h:fr P (.aB .str .str) F w args (x,y)):args=[.string ⟨x.toArray⟩,.string ⟨y.toArray⟩]/\x.length<2 ^ 63/\y.length<2 ^ 63:=by
 obtain⟨v,us,rfl,af,hu⟩:=Fy h;obtain⟨rfl,al⟩:=ml.1 af;obtain⟨rfl,gw⟩:=QC hu;grind
theorem asw(w:World)(k:Nat)(os:Array Obj):Below w.heap.size w (Go.Sort.grow (w.drewN k) os):=by
 refine⟨rfl,rfl,rfl,?_,λj aG=>?_⟩
 ·simp
 ·show (w.heap++os)[j]?=_;grind
theorem JF(h:nQ Tryz.prog F w){b:Nat}(aa:b<6):F b/\Rq b λi=>w.cell? ⟨b,i,none⟩:=h b (Nat.lt_of_lt_of_le aa (of_decide_eq_true (by rfl)))
end
theorem aaR(sep:ByteArray):∀ (k:Nat) (s:ByteArray),∀ x∈Lib.splitB sep 0 k s,x.size<=s.size
 | 0,s,x,ai=>by
  unfold Lib.splitB at ai;grind
 | k+1,s,x,ai=>by
  unfold Lib.splitB at ai;split at ai
  ·grind
  ·simp only[List.mem_cons]at ai;rcases ai with rfl | ai
   ·rw[ByteArray.size_extract];omega
   ·have:=aaR sep k _ x ai;rw[ByteArray.size_extract]at this;omega
def qm(s sep:List UInt8):List (List UInt8):=(Lib.splitB ⟨sep.toArray⟩ 0 (Lib.countB ⟨s.toArray⟩ ⟨sep.toArray⟩) ⟨s.toArray⟩).map (·.data.toList)
theorem asx(s:List UInt8):qm s [32]=aw.cK s:=by
 unfold qm;rw[Lib.splitB_data];exact aw.asu s.length s (Nat.le_refl _)
abbrev asy:Code:=Tryz.f139.body.getD .skip
theorem asz:h8 Tryz.prog 139 (.aB .str .str) (.slice .str) aw.Jt.sh where
 enter:=um Tryz.func139 (show Tryz.f139.body=some asy by rfl) (by rfl)
 iY:=λF w args x bo gu a_ aD=>by
  obtain⟨s,sep⟩:=x;obtain⟨aD,E⟩:s.length<=10000/\sep=[32]:=aD;subst E;obtain⟨rfl,al,gw⟩:=asv a_;obtain⟨_,m,hm⟩:=JF gu (b:=0) (by decide);have cd:1<=(ByteArray.mk [32].toArray).size:=by decide
  refine (Any.strings_Split Tryz.asq (by kernel_rfl) ⟨s.toArray⟩ ⟨[32].toArray⟩ m w (by rw[JE];omega) hm cd).mono ?_;rintro e w' ⟨rfl,rfl⟩;have hlen:=Lib.splitB_all ⟨[32].toArray⟩ cd 0 _ ⟨s.toArray⟩ rfl;have rC:=Lib.countB_le ⟨[32].toArray⟩ cd _ ⟨s.toArray⟩ (Nat.le_refl _);rw[JE]at rC;have kf:=aaR ⟨[32].toArray⟩ (Lib.countB ⟨s.toArray⟩ ⟨[32].toArray⟩) ⟨s.toArray⟩;rw[JE]at kf;have xk:(qm s [32]).length=Lib.countB ⟨s.toArray⟩ ⟨[32].toArray⟩+1:=by unfold qm;grind
  refine⟨_,qm s [32],rfl,asx s,⟨[_],rfl,(r7 rfl).2 ⟨_,rfl,(dU rfl).2 ⟨rfl,some ⟨w.heap.size,0,none⟩,Lib.countB ⟨s.toArray⟩ ⟨[32].toArray⟩+1,by rw[xk],by omega,by omega,nofun,λp aq hc=>?_⟩⟩⟩,?_⟩
  ·cases aq;refine⟨.inr ⟨Nat.le_refl _,by simp⟩,rfl,λi G=>?_⟩;have ds:i<(Lib.splitB ⟨[32].toArray⟩ 0 (Lib.countB ⟨s.toArray⟩ ⟨[32].toArray⟩) ⟨s.toArray⟩).length:=by omega
   generalize aU:Lib.splitB ⟨[32].toArray⟩ 0 (Lib.countB ⟨s.toArray⟩ ⟨[32].toArray⟩) ⟨s.toArray⟩=B at ds kf hlen;have jy:(qm s [32])[i]=B[i].data.toList:=by
    have U:qm s [32]=B.map (·.data.toList):=by unfold qm;rw[aU]
    grind
   have bH:Value.string B[i]=.string ⟨(B[i].data.toList).toArray⟩:=by simp
   refine⟨[.string B[i]],⟨.inr ⟨Nat.le_refl _,by simp⟩,rfl,λj aG=>?_⟩,?_,?_⟩
   ·have aG:j=0:=by grind
    subst aG;rw[vh (qa w _)];have az:0+i*ad.size .str+0=i:=by show 0+i*1+0=i;omega
    grind
   ·simp_all
   ·have:=kf _ (List.getElem_mem ds);have e:(B[i]).data.toList.length=(B[i]).size:=Array.length_toList;grind
  ·exact (Below.refl _ _).alloc (Nat.le_refl _) _
theorem aaS{F : Nat -> Prop}{w : World}(h : nQ Tryz.prog F w) : Lib.TabIs Tryz.prog w "internal/strconv.uint64pow10" .u64 Lib.pow10Tab := by
 have bL:∀ i,w.cell? ⟨5,i,none⟩=if i<20 then some (.int .u64 (10 ^ i)) else none:=(JF h (b:=5) (by decide)).2
 unfold Lib.TabIs World.var?;rw[show Tryz.prog.globalNamed "internal/strconv.uint64pow10" = some 5 by rfl];show (match w.heap[5]? with | some (.cells cs _ _)=>some cs | _=>none)=_;have aY:=bL 0;cases ag:w.heap[5]? with
 | none=>simp[World.cell?,ag]at aY
 | some o=>
  cases o with
  | cells cs T s3=>
   simp only[Option.some.injEq];apply Array.ext_getElem?;intro i;have G:=bL i;simp only[World.cell?,ag,Option.isSome_none,Bool.false_eq_true,if_false]at G;rw[G];split
   ·rename_i BD;simp only[List.getElem?_toArray,List.getElem?_map,Lib.pow10Tab];grind
   ·rename_i BD;rw[Array.getElem?_eq_none];simp[Lib.pow10Tab];omega
  | _=>simp[World.cell?,ag]at aY
abbrev asA:Code:=Tryz.f204.body.getD .skip
theorem asB{P:Program}{F:Nat->Prop}{w:World}{args:List Value}{x:Int}(h:fr P (.int .i64) F w args x):args=[.int .i64 x]/\fU .i64 x:=by
 obtain⟨v,rfl,af⟩:=(r7 rfl).1 h;obtain⟨rfl,al⟩:=gW.1 af;grind
theorem asC{n:Int}(h:fU .i64 n):-9223372036854775808<=n/\n<=9223372036854775807:=h
theorem asD:h8 Tryz.prog 204 (.int .i64) .str aw.Jk.sh where
 enter:=um Tryz.func204 (show Tryz.f204.body=some asA by rfl) (by rfl)
 iY:=λF w args x bo gu a_ aD=>by
  change Int at x;obtain⟨rfl,M⟩:=asB a_;obtain⟨aY,E⟩:=asC M;refine (Any.strconv_Itoa Tryz.aaM x aY E w (aaS gu)).mono ?_;rintro e w' ⟨rfl,k,os,rfl⟩;have ai:aw.rZ x=Lib.itoa x:=by unfold aw.rZ;rw[bF aY (by omega)]
  refine⟨_,aw.rZ x,rfl,rfl,⟨[_],rfl,(r7 rfl).2 ⟨_,rfl,ml.2 ⟨by rw[ai],Nat.lt_of_le_of_lt (aw.P1 x) (by decide)⟩⟩⟩,asw w k os⟩
abbrev asE:Code:=Tryz.f258.body.getD .skip
theorem asF:h8 Tryz.prog 258 (.aB (.slice .str) .str) .str aw.E4.sh where
 enter:=um Tryz.func258 (show Tryz.f258.body=some asE by rfl) (by rfl)
 iY:=λF w args x bo gu a_ aD=>by
  obtain⟨l,sep⟩:=x;obtain⟨ax,hw,E⟩:l.length<=60000/\(∀ w∈l,w.length<=21)/\sep.length=1:=aD;have Ag:=aw.aah l sep 21 hw;have E:sep.length=1:=E;have ax:l.length<=60000:=ax;rw[E]at Ag;have aG:(Lib.join l sep).length<2 ^ 63:=by omega
  obtain⟨v,us,rfl,af,hu⟩:=Fy a_;obtain⟨rfl,_⟩:=QC hu;obtain⟨_,p,cap,iq,c2,c3,c4,c5⟩:=(dU rfl).1 af;obtain rfl:v=.slice p l.length cap:=by grind
  change l.length<=cap at c2;have fin:∀ w',Below w.heap.size w w'->∃ v y,Ending.returned (.string ⟨(Lib.join l sep).toArray⟩)=.returned v/\(aw.E4.sh (l,sep)).bM y/\tz Tryz.prog .str (u9 F w w') w' v y/\Below w.heap.size w w':=λw' aa=>
   ⟨_,Lib.join l sep,rfl,rfl,⟨[_],rfl,(r7 rfl).2 ⟨_,rfl,ml.2 ⟨rfl,aG⟩⟩⟩,aa⟩
  by_cases al:l=[]
  ·subst al;refine (Any.strings_Join_none Tryz.aaK Tryz.aaL p cap ⟨sep.toArray⟩ w).mono ?_;rintro e w' ⟨rfl,rfl⟩;exact fin _ (Below.refl _ _)
  ·have lr:0<l.length:=List.length_pos_iff.2 al;obtain⟨q,rfl⟩:∃ q,p=some q:=by
    cases p with
    | none=>grind
    | some q=>simp
   obtain⟨d1,d2,d3⟩:=c5 q rfl (by omega);obtain⟨asG,o,sp⟩:=q;obtain rfl:sp=none:=d2;have hlen:(l.map λx:List UInt8=>ByteArray.mk x.toArray).length=l.length:=List.length_map ..;have Ks:(l.map λx:List UInt8=>ByteArray.mk x.toArray).map (·.data.toList)=l:=by rw[List.map_map];exact (List.map_congr_left λx _=>QB x).trans (List.map_id _)
   have:=Any.strings_Join Tryz.aaK Tryz.aaL asG o cap (l.map λx:List UInt8=>ByteArray.mk x.toArray) ⟨sep.toArray⟩ w (λj x ai=>by
    rw[List.getElem?_map]at ai;obtain⟨y,aT,rfl⟩:=Option.map_eq_some_iff.1 ai;obtain⟨Ag,rfl⟩:=List.getElem?_eq_some_iff.1 aT;obtain⟨bk,⟨_,_,cL⟩,ee⟩:=d3 j Ag;obtain⟨rfl,_⟩:=ee;have:=cL 0 (by simp);simpa [ad.size]using this) (bo _ d1) (by omega) (by omega) (by grind)
   rw[hlen,Ks,QB]at this;refine this.mono ?_;simp_all
end Go.Fer.ox
namespace Go.Proofs
open Go.RowKit
theorem Tryz.asH{P:Program}{w w':World}{n:String}{k:IntKind}{zs:z1'}(h:Lib.TabIs P w n k zs)(aa:Below w.heap.size w w'):Lib.TabIs P w' n k zs:=by
 unfold Lib.TabIs World.var? at *
 cases ay:P.globalNamed n with
 | none=>rw[ay]at h;cases h
 | some g=>
  rw[ay]at h;simp only[Option.bind_some]at h ⊢;by_cases ch:g<w.heap.size
  ·rw[aa.block g ch];exact h
  ·rw[Array.getElem?_eq_none (by omega)]at h;cases h
set_option maxHeartbeats 4000000 in
set_option maxRecDepth 1000000 in
theorem Tryz.asI(s:ByteArray)(w:World)(v:Int)(zC:s.size<=9223372036854775806)(h:Lib.atoiAll s.data.toList=.ok v)(aY:-9223372036854775808<=v)(E:v<=9223372036854775807)
  (asJ : Lib.TabIs Tryz.prog w "internal/strconv.uint64pow10" .u64 Lib.pow10Tab) :
  Calls Tryz.prog 140 #[.string s] w λe w'=>e=.returned (.tuple #[.int .i64 v,.bool (decide (s.size<=6)&&decide (0<=v)&&decide (Lib.itoa v=s.data.toList))])/\Below w.heap.size w w':=by
 go_enter Tryz.func140,Tryz.ntmps140;go_wp2_with fail;refine (Tryz.strconv_Atoi_ok s zC v h w).mono ?_;rintro e ck ⟨rfl,l1⟩;have mA:Below w.heap.size w ck:=by
  rcases l1 with rfl | ⟨t,rfl⟩
  ·exact Below.refl _ _
  ·exact Lib.bytesWorld_below w 5 t
 have asK:=Tryz.asH asJ mA;clear l1;by_cases aQ:(s.size:Int)<=6
 ·by_cases aS:v>=0
  ·go_wp2_with fail;refine (Any.strconv_Itoa Tryz.aaM v aY E ck asK).mono ?_;rintro e da ⟨rfl,k,os,rfl⟩;have q9:Below w.heap.size w (Go.Sort.grow (ck.drewN k) os):=mA.trans ⟨rfl,rfl,rfl,by show _<=(ck.heap++os).size;simp,λj aG=>by
    have:=mA.size;show (ck.heap++os)[j]?=_;rw[Array.getElem?_append_left (by omega)]⟩
   generalize Go.Sort.grow (ck.drewN k) os=da at q9;go_wp2;go_returns;refine⟨congrArg Ending.returned (congrArg Value.tuple ?_),q9⟩;show #[Value.int IntKind.i64 v,Value.bool (Lib.itoa v == s.toList)]=_;rw[Go.ByteArray.toList_eq,show decide (s.size<=6)=true from decide_eq_true (by omega),show decide (0<=v)=true from decide_eq_true aS,Bool.true_and,Bool.true_and,show (Lib.itoa v == s.data.toList)=decide (Lib.itoa v=s.data.toList) by rw[Bool.eq_iff_iff];simp]
  ·go_wp2;go_returns;refine⟨congrArg Ending.returned (congrArg Value.tuple ?_),mA⟩;show #[Value.int IntKind.i64 v,Value.bool false]=_;rw[show decide (0<=v)=false from decide_eq_false (by omega),Bool.and_false,Bool.false_and]
 ·go_wp2;go_returns;refine⟨congrArg Ending.returned (congrArg Value.tuple ?_),mA⟩;show #[Value.int IntKind.i64 v,Value.bool false]=_;rw[show decide (s.size<=6)=false from decide_eq_false (by omega),Bool.false_and,Bool.false_and]
set_option maxHeartbeats 4000000 in
set_option maxRecDepth 1000000 in
theorem Tryz.asL(s:ByteArray)(w:World)(sj:s.size<=281474976710656)(h:Lib.atoiAll s.data.toList=Lib.atoiAll [])(hC:Value)(af:w.cell? ⟨1,0,none⟩=some hC)(pR:hC=.nilIface\/∃ lQ mi,hC=.iface lQ mi) :
  Calls Tryz.prog 140 #[.string s] w λe w'=>e=.returned (.tuple #[.int .i64 0,.bool false])/\Below w.heap.size w w':=by
 go_enter Tryz.func140,Tryz.ntmps140;go_wp2_with fail;refine (Tryz.strconv_Atoi_syntax s sj h hC w af pR).mono ?_;rintro e ck ⟨N,rfl,_,_,mA⟩;go_wp2;go_returns;exact⟨rfl,mA⟩
set_option maxHeartbeats 4000000 in
set_option maxRecDepth 1000000 in
theorem Tryz.asM(s:ByteArray)(w:World)(sj:s.size<=281474976710656)(h:Lib.atoiAll s.data.toList=.range)(hC:Value)(af:w.cell? ⟨2,0,none⟩=some hC)(pR:hC=.nilIface\/∃ lQ mi,hC=.iface lQ mi) :
  Calls Tryz.prog 140 #[.string s] w λe w'=>e=.returned (.tuple #[.int .i64 (Lib.atoiSat s.data.toList),.bool false])/\Below w.heap.size w w':=by
 go_enter Tryz.func140,Tryz.ntmps140;go_wp2_with fail;refine (Tryz.strconv_Atoi_range s sj h hC w af pR).mono ?_;rintro e ck ⟨N,rfl,_,_,mA⟩;go_wp2;go_returns;exact⟨rfl,mA⟩
end Go.Proofs
namespace Go.Fer.aw
open A (W)
theorem aaT:∀ (s:aR) (n:Int),0<=n->gj s n≠-1->n<=gj s n
 | [],n,_,_=>Int.le_refl _
 | c::s,n,h,E=>by
  unfold gj at E ⊢;split at E
  ·omega
  ·rename_i hc;rw[if_neg hc];simp only[Bool.or_eq_true,decide_eq_true_eq,not_or]at hc;have:=aaT s _ (by omega) E;omega
theorem QD(d:UInt8):∀ (s:aR) (n:Int),0<=n->gj (s++[d]) n=if gj s n=-1 then -1 else if (decide ((d.toNat:Int)<48)||decide ((d.toNat:Int) > 57))=true then -1 else 10*gj s n+((d.toNat:Int) - 48)
 | [],n,h=>by
  show gj [d] n=if n=-1 then _ else _
  rw[if_neg (by omega)];rfl
 | c::s,n,h=>by
  rw[List.cons_append];conv=>lhs;unfold gj
  by_cases hc:(decide ((c.toNat:Int)<48)||decide ((c.toNat:Int) > 57))=true
  ·rw[if_pos hc,show gj (c::s) n=-1 by unfold gj;grind,if_pos rfl]
  ·rw[if_neg hc,show gj (c::s) n=gj s (10*n+((c.toNat:Int) - 48)) from (if_neg hc:(if (decide ((c.toNat:Int)<48)||decide ((c.toNat:Int) > 57))=true then (-1:Int) else _)=_)];simp only[Bool.or_eq_true,decide_eq_true_eq,not_or]at hc;exact QD d s _ (by omega)
theorem JG(k:Nat)(h:k<10):((UInt8.ofNat (48+k)).toNat:Int)=48+k:=by
 have:(UInt8.ofNat (48+k)).toNat=(48+k) % 256:=UInt8.toNat_ofNat';omega
theorem aaU(u:Nat):gj (Go.Lib.decDigits u) 0=u:=by
 induction u using Nat.strongRecOn with
 | _ u aL=>
  unfold Go.Lib.decDigits;split
  ·rename_i h;have:=JG u h;unfold gj;rw[if_neg (by grind),this];show (10*0+(48+(u:Int) - 48))=u;omega
  ·rename_i h;have au:=JG (u % 10) (by omega);rw[QD _ _ _ (Int.le_refl _),aL (u / 10) (by omega),if_neg (by omega),if_neg (by grind),au];omega
theorem aaV(u:Nat):Go.Lib.decDigits u≠[]/\(1<(Go.Lib.decDigits u).length->((Go.Lib.decDigits u).getD 0 0).toNat≠48):=by
 induction u using Nat.strongRecOn with
 | _ u aL=>
  by_cases h:u<10
  ·rw[Go.Lib.decDigits_one h];simp
  ·obtain⟨E,U⟩:=aL (u / 10) (by omega);have e:Go.Lib.decDigits u=Go.Lib.decDigits (u / 10)++[UInt8.ofNat (48+u % 10)]:=by
    conv=>lhs;unfold Go.Lib.decDigits
    grind
   rw[e];refine⟨by simp,λ_=>?_⟩;have al:0<(Go.Lib.decDigits (u / 10)).length:=List.length_pos_iff.2 E;rw[show (Go.Lib.decDigits (u / 10)++[UInt8.ofNat (48+u % 10)]).getD 0 0=(Go.Lib.decDigits (u / 10)).getD 0 0 by
    grind]
   by_cases ah:1<(Go.Lib.decDigits (u / 10)).length
   ·omega
   ·have p7:u / 10<10:=by
     refine Classical.byContradiction λax=>ah ?_;have aN:Go.Lib.decDigits (u / 10)=Go.Lib.decDigits (u / 10 / 10)++[UInt8.ofNat (48+u / 10 % 10)]:=by
      conv=>lhs;unfold Go.Lib.decDigits
      grind
     grind
    rw[Go.Lib.decDigits_one p7];have:=JG (u / 10) p7;grind
theorem asN:∀ (n:Nat) (s:aR),s.length=n->s≠[]->(1<s.length->(s.getD 0 0).toNat≠48)->gj s 0≠-1->Go.Lib.decDigits (gj s 0).toNat=s:=by
 intro n;induction n with
 | zero=>simp
 | succ n aL=>
  intro s E U ah a6;obtain⟨a,d,rfl⟩:∃ a d,s=a++[d]:=⟨s.dropLast,s.getLast U,(List.dropLast_concat_getLast U).symm⟩
  rw[QD _ _ _ (Int.le_refl _)]at a6 ⊢;split at a6
  ·omega
  ·rename_i a_;split at a6
   ·omega
   ·rename_i au;rw[if_neg a_,if_neg au];simp only[Bool.or_eq_true,decide_eq_true_eq,not_or]at au;have Mm:UInt8.ofNat (48+(d.toNat - 48))=d:=by
     apply UInt8.toNat_inj.1;rw[UInt8.toNat_ofNat'];omega
    by_cases ax:a=[]
    ·subst ax;have e:(10*gj [] 0+((d.toNat:Int) - 48)).toNat=d.toNat - 48:=by show (10*0+((d.toNat:Int) - 48)).toNat=_;omega
     rw[e,Go.Lib.decDigits_one (by omega),Mm];rfl
    ·have al:0<a.length:=List.length_pos_iff.2 ax;have cV:(a.getD 0 0).toNat≠48:=by
      grind
     have aq:1<=gj a 0:=by
      cases a with
      | nil=>grind
      | cons c r=>
       unfold gj at a_ ⊢;split at a_
       ·omega
       ·rename_i hc;rw[if_neg hc];simp only[Bool.or_eq_true,decide_eq_true_eq,not_or]at hc;have ayQ:c.toNat≠48:=cV;have:=aaT r _ (by omega) a_;omega
     have G:=aL a (by grind) ax (λ_=>cV) a_;have az:(10*gj a 0+((d.toNat:Int) - 48)).toNat / 10=(gj a 0).toNat:=by omega
     have aN:(10*gj a 0+((d.toNat:Int) - 48)).toNat % 10=d.toNat - 48:=by omega
     conv=>lhs;unfold Go.Lib.decDigits
     grind
theorem asO{s:aR}{v:Int}(h:Go.Lib.atoiAll s=.ok v):(decide (s.length<=6)&&decide (0<=v)&&decide (Go.Lib.itoa v=s))=decide (0<=e2 s):=by
 rw[Bool.eq_iff_iff];simp only[Bool.and_eq_true,decide_eq_true_eq];constructor
 ·rintro⟨⟨dv,af⟩,G⟩;obtain⟨u,rfl⟩:∃ u:Nat,v=u:=⟨v.toNat,by omega⟩
  have e:Go.Lib.itoa (u:Int)=Go.Lib.decDigits u:=by rfl
  rw[e]at G;obtain⟨aQ,aS⟩:=aaV u;rw[G]at aQ aS;unfold e2;rw[if_neg]
  ·have:=aaU u;grind
  grind
 ·intro ax;have e:=Qs ax;rw[h]at e;obtain rfl:v=e2 s:=by grind
  refine⟨⟨?_,ax⟩,?_⟩
  ·unfold e2 at ax;grind
  ·have e:Go.Lib.itoa (e2 s)=Go.Lib.decDigits (e2 s).toNat:=by unfold Go.Lib.itoa;grind
   rw[e];unfold e2 at ax ⊢;split at ax
   ·omega
   ·rename_i aa;rw[if_neg aa];simp only[Bool.or_eq_true,Bool.and_eq_true,decide_eq_true_eq,not_or,not_and]at aa;exact asN _ s rfl (λe=>aa.1.1 (by grind)) aa.2 (by omega)
theorem aaW{s:aR}(h:∀ v,Go.Lib.atoiAll s≠.ok v):decide (0<=e2 s)=false:=decide_eq_false λax=>h _ (Qs ax)
end Go.Fer.aw
namespace Go.Fer.ox
open Go Go.Proofs Go.RowKit
abbrev asP:Code:=Tryz.f140.body.getD .skip
theorem asQ:h8 Tryz.prog 140 .str (.aB (.int .i64) .bool) aw.E6.sh where
 enter:=um Tryz.func140 (show Tryz.f140.body=some asP by kernel_rfl) (by kernel_rfl)
 iY:=λF w args x bo gu a_ aD=>by
  change List UInt8 at x;have aD:x.length<=10000:=aD;obtain⟨rfl,al⟩:=QC a_;have aa:=QB x;have bj:=JE x;have fin:∀ (n:Int) (b:Bool) (w':World),fU .i64 n->aw.rp x=(n,b)->Below w.heap.size w w'->∃ v y,Ending.returned (.tuple #[.int .i64 n,.bool b])=.returned v/\(aw.E6.sh x).bM y/\tz Tryz.prog (.aB (.int .i64) .bool) (u9 F w w') w' v y/\Below w.heap.size w w':=λn b w' M he y2=>
   ⟨_,(n,b),rfl,he.symm,⟨[.int .i64 n,.bool b],rfl,BZ.2 ⟨gW.2 ⟨rfl,M⟩,(r7 rfl).2 ⟨_,rfl,fh.2 rfl⟩⟩⟩,y2⟩
  cases he:Lib.atoiAll x with
  | ok v=>
   have af:=Lib.atoiAll_bounds he;refine (Tryz.asI ⟨x.toArray⟩ w v (by rw[bj];omega) (by rw[aa];exact he) af.1 af.2 (aaS gu)).mono ?_;rintro e w' ⟨rfl,y2⟩;refine fin v _ w' af ?_ y2;rw[aa,bj,aw.asO he];unfold aw.rp aw.tj;rw[he]
  | range=>
   obtain⟨_,hC,af,pR⟩:=JF gu (b:=2) (by decide);refine (Tryz.asM ⟨x.toArray⟩ w (by rw[bj];omega) (by rw[aa];exact he) hC af pR).mono ?_;rintro e w' ⟨rfl,y2⟩;rw[aa]at *
   refine fin _ _ w' (Lib.atoiSat_bounds x) ?_ y2;unfold aw.rp aw.tj;rw[he,aw.aaW λv h=>by rw[he]at h;cases h]
  | _=>
   obtain⟨_,hC,af,pR⟩:=JF gu (b:=1) (by decide);refine (Tryz.asL ⟨x.toArray⟩ w (by rw[bj];omega) (by rw[aa];exact he) hC af pR).mono ?_;rintro e w' ⟨rfl,y2⟩;refine fin 0 _ w' (by decide) ?_ y2;unfold aw.rp aw.tj;rw[he,aw.aaW λv h=>by rw[he]at h;cases h]
end Go.Fer.ox
namespace Go.Fer
open Go.RowKit
abbrev mP:ad:=.int .i64
def QE(x:z1'×Unit):A (z1'×Unit):=A.dR (x.1.length<4611686018427387904) (x.1.mergeSort (λa b=>decide (a<=b)),())
def p3:cM:=⟨⟨[(0,.own 200001)],[(200001,.bh mP)]⟩,⟨[],[(200001,.bh mP)]⟩,[],1,QE⟩
section
variable {P:Program} {F:Nat->Prop} {w:World}
theorem aaX{cs:Array Value}{off:Nat}{xs:z1'}(h:lR P mP F w cs off xs){i:Nat}(G:i<xs.length):cs[off+i]?=some (.int .i64 xs[i])/\fU .i64 xs[i]:=by
 obtain⟨bk,E,U,ah⟩:=h i G;subst U;have:=E 0 (by simp);refine⟨?_,ah⟩;have e:off+i*ad.size mP+0=off+i:=by show off+i*1+0=off+i;omega
 rw[e]at this;exact this
theorem asR{cs:Array Value}{off:Nat}{xs:z1'}(h:∀ i (h:i<xs.length),cs[off+i]?=some (.int .i64 xs[i])/\fU .i64 xs[i]):lR P mP F w cs off xs:=λi G=>by
 obtain⟨E,U⟩:=h i G;refine⟨[.int .i64 xs[i]],λj aG=>?_,rfl,U⟩;have aG:j=0:=by simpa using aG
 subst aG;have e:off+i*ad.size mP+0=off+i:=by show off+i*1+0=off+i;omega
 rw[e];exact E
theorem asS{cs:Array Value}{T:TypeId}{b off:Nat}{xs:z1'}(aa:w.heap[b]?=some (.cells cs T (0,0)))(h:lR P mP F w cs off xs):Go.Sort.Holds (Value.int .i64) w b off xs.toArray:=λj aG=>by
 have fV:j<xs.length:=by simpa using aG
 obtain⟨E,_⟩:=aaX h fV;refine⟨?_,by simp[World.frozen?,aa]⟩;simp only[World.cell?,aa];simp only[Option.isSome_none,Bool.false_eq_true,if_false];rw[E];simp[fV]
theorem asT{cs:Array Value}{off:Nat}{xs ys:z1'}(al:ys.length=xs.length)(jo:∀ y∈ys,fU .i64 y)(cd:off+xs.length<=cs.size):lR P mP F w (Go.Sort.putCells (Value.int .i64) off ys.toArray cs) off ys:=by
 refine asR λi G=>⟨?_,jo _ (List.getElem_mem G)⟩
 have E:off+i<cs.size:=by omega
 simp[Go.Sort.putCells,E,G]
end
section
variable {P:Program} {aH:dG}
theorem asU{k:FuncId}(he:∀ args w,(callFunc k args).run P w=.ok (.enter k args) w)
  (E:∀ (ab off cap:Nat) (zs:z1') (w:World),Go.Sort.Holds (Value.int .i64) w ab off zs.toArray->ab<w.heap.size->zs.length<4611686018427387904->Calls P k #[.slice (some ⟨ab,off,none⟩) zs.length cap] w λe w'=>
   e=.returned (.tuple #[])/\∃ n os,w'=Go.Sort.grow (Go.Sort.putRow (Value.int .i64) (Go.Sort.ahead w n) ab off (zs.mergeSort λx y=>decide (x<=y)).toArray) os)
  (aY:∀ (p:Option Addr) (cap:Nat) (w:World),Calls P k #[.slice p 0 cap] w λe w'=>e=.returned (.tuple #[])/\w'=w):cS P aH k p3 where
 enter:=he
 iY C a w κ F D jt As M au rB tK h aD:=by
  obtain⟨xs,u⟩:=D;have hlen:xs.length<4611686018427387904:=aD;have cd:a.tmps.size=1:=h.dH.trans rB;have qq:=h.bU 0;have aa:=h.bD 200001;change jH C.P _ κ F w (κ 200001) (.bh mP xs) at aa;have af:a.tmps.getD 0 undef=(κ 200001).slice xs.length:=qq.2 rfl rfl;have a_:a.tmps=#[(κ 200001).slice xs.length]:=by
   apply Array.ext (by simp[cd]);intro i G dM;have:i=0:=by omega
   subst this;rw[<-af];simp[Array.getD,cd]
  have pC:∀ bn,bn=((xs.mergeSort (λx y=>decide (x<=y)),()):z1'×Unit)->(p3.sh (xs,u)).bM bn:=λbn e=>e;have n7:∀ {w':World} {F':Nat->Prop} {ys:z1'},bm C (aC.mk (p3.cm.st (xs,u)).aA λi=>if i=200001 then ⟨0,.bh mP ys⟩ else (p3.cm.st (xs,u)).ab i) a w' κ F'->bm { C with nt:=0 } (p3.bM.st (ys,())) { tmps:=#[],defers:=[] } w' κ F':=λ{w' F' ys} jU=>by
   have e:(p3.bM.st (ys,())).ab=λi=>if i=200001 then (⟨0,.bh mP ys⟩:bK) else (p3.cm.st (xs,u)).ab i:=by
    funext i;show eS [(200001,bS.bh mP ys)] i=if i=200001 then _ else eS [(200001,bS.bh mP xs)] i
    simp only[eS];by_cases G:i=200001
    ·rw[if_pos G,if_pos G]
    ·rw[if_neg G,if_neg G,if_neg G]
   refine { dH:=rfl,dfr:=au.symm,bU:=λi=>trivial,bD:=λb=>?_,own:=λb=>?_,inj:=λb be=>?_,dd:=jU.dd,hh:=jU.hh,hU:=jU.hU,hx:=jU.hx,eH:=jU.eH,size:=jU.size,ev:=jU.ev,gq:=Nat.zero_le _,ks:=jU.ks,jI:=λb r=>?_,j7:=jU.j7,kt:=λb k=>?_,eN:=λl aM L n st e=>(by cases e),jJ:=jU.jJ,iD:=jU.iD }
   ·rw[e];exact jU.bD b
   ·rw[e];exact jU.own b
   ·rw[e];exact jU.inj b be
   ·rw[e];exact jU.jI b r
   ·rw[e];exact jU.kt b k
  subst jt;rw[a_];by_cases ax:(κ 200001).e_=true
  ·have ai:xs=[]:=aa.1 ax;subst ai;have iq:(κ 200001).slice 0=.slice none 0 0:=by simp[bB.slice,ax]
   rw[show ([]:z1').length=0 from rfl,iq];refine (aY none 0 w).mono ?_;rintro e w' ⟨rfl,rfl⟩;refine⟨_,([],()),[],κ,F,rfl,pC _ (congrArg (λl=>(l,())) List.mergeSort_nil.symm),⟨[],rfl,rfl,rfl⟩,n7 ?_⟩;have e:(λi=>if i=200001 then (⟨0,.bh mP []⟩:bK) else (p3.cm.st ([],u)).ab i)=(p3.cm.st ([],u)).ab:=by
    funext i;by_cases G:i=200001
    ·subst G;rfl
    ·rw[if_neg G]
   rw[e];exact h
  ·have ax:(κ 200001).e_=false:=by simpa using ax
   obtain⟨cs,T,dO,e3,mS,r5,Fu⟩:=aa.2 ax;have gr:((p3.cm.st (xs,u)).ab 200001).body.b1 (κ 200001)=true:=by show (!(κ 200001).e_)=true;rw[ax];rfl
   have ag:=h.own 200001 gr;have iq:(κ 200001).slice xs.length=.slice (some ⟨(κ 200001).ab,(κ 200001).off,none⟩) xs.length (κ 200001).cap:=by simp[bB.slice,ax]
   rw[iq];refine (E (κ 200001).ab (κ 200001).off (κ 200001).cap xs w (asS dO Fu) ag.1 hlen).mono ?_;rintro e w' ⟨rfl,n,os,rfl⟩;have aq:(xs.mergeSort λx y=>decide (x<=y)).Perm xs:=List.mergeSort_perm _ _;generalize ka:(xs.mergeSort λx y=>decide (x<=y))=ys at aq pC;have aaY:ys.length=xs.length:=aq.length_eq;have FR:(κ 200001).off+xs.length<=cs.size:=by
    have:(κ 200001).cap*ad.size mP=(κ 200001).cap:=Nat.mul_one _;omega
   have jo:∀ y∈ys,fU .i64 y:=λy aT=>by
    have:=aq.mem_iff.1 aT;obtain⟨i,G,rfl⟩:=List.getElem_of_mem this;exact (aaX Fu G).2
   have asV:(Go.Sort.putRow (Value.int .i64) (Go.Sort.ahead w n) (κ 200001).ab (κ 200001).off ys.toArray).heap[(κ 200001).ab]?=some (.cells (Go.Sort.putCells (Value.int .i64) (κ 200001).off ys.toArray cs) T (0,0)):=by
    simp[Go.Sort.putRow,Go.Sort.mapBlock,Go.Sort.ahead,Array.getElem?_modify,dO,Go.Sort.onCells]
   have wX:bm C ((p3.cm.st (xs,u)).cz 200001 ⟨0,.bh mP ys⟩) a (Go.Sort.putRow (Value.int .i64) (Go.Sort.ahead w n) (κ 200001).ab (κ 200001).off ys.toArray) κ F:=by
    refine h.pe (b:=200001) (x:=⟨0,.bh mP ys⟩) gr ?_ ?_ nofun nofun (λr M=>?_) (by simp[Go.Sort.putRow,Go.Sort.mapBlock,Go.Sort.ahead]) ⟨rfl,rfl,rfl⟩ (λH m_ gH lv=>⟨λhc=>absurd (ax.symm.trans hc) nofun,λ_=>?_⟩)
    ·show (!(κ 200001).e_)=true;rw[ax];rfl
    ·intro b;by_cases aa:b=200001
     ·subst aa;exact⟨Nat.le_refl _,λ_=>⟨nofun,λ_=>⟨rfl,rfl,aaY,rfl⟩,nofun,nofun⟩⟩
     ·show p_ _ (if b=200001 then _ else _) _ _;rw[if_neg aa];exact p_.refl _ _
    ·simp[Go.Sort.putRow,Go.Sort.mapBlock,Go.Sort.ahead,Array.getElem?_modify,Ne.symm M]
    ·refine⟨_,T,asV,?_,?_,r5,asT aaY jo FR⟩
     ·simpa [Go.Sort.putCells]using e3
     ·show ys.length<=_;omega
   refine⟨_,(ys,()),[],κ,_,rfl,pC _ rfl,⟨[],rfl,rfl,rfl⟩,n7 (wX.grow ?_)⟩;refine⟨rfl,rfl,rfl,by simp[Go.Sort.grow],λk ak=>?_⟩;simp only[Go.Sort.grow];rw[Array.getElem?_append_left ak]
end
end Go.Fer
namespace Go.Fer
open Go.RowKit
def asW(e:ad)(x:Int×Unit):A (List e.aj×Unit):=A.dR (0<=x.1/\x.1<60000) ([],())
def u6(e:ad):cM:=⟨⟨[(0,.cx),(1,.val (.int .i64))],[]⟩,⟨[(0,.own 50000)],[(50000,.bh e)]⟩,[none],2,asW e⟩
section
variable {P:Program} {aH:dG} {e:ad}
theorem aaZ{C:b_}{a:Act}{w w':World}{κ:Nat->bB}{F:Nat->Prop}{D:(u6 e).cm.aj}(h:bm C ((u6 e).cm.st D) a w κ F)(au:C.dfr=[]){kb:bB}{v:Value}
  (af:v=kb.slice 0) (cd:w.heap.size<=w'.heap.size) (hw:∀ r,r<w.heap.size->w'.heap[r]?=w.heap[r]?) (hc:de w w') (ls:kb.e_=false->kb.ab=w.heap.size/\w.heap.size<w'.heap.size)
  (aU:kb.e_=false->∃ cs T,w'.heap[kb.ab]?=some (.cells cs T (0,0))/\kb.off+kb.cap*e.size<=cs.size/\kb.cap<2 ^ 63) :
  bm { C with nt:=1 } ((u6 e).bM.st ([],())) { tmps:=#[v],defers:=[] } w' (λi=>if i=50000 then kb else κ i) F:=by
 have aa:∀ b,((u6 e).bM.st ([],())).ab b=if b=50000 then ⟨0,.bh e []⟩ else ⟨0,.fD⟩:=λb=>rfl
 have a_:∀ b,b≠50000->((u6 e).bM.st ([],())).ab b=⟨0,.fD⟩:=λb ax=>by rw[aa,if_neg ax]
 have bL:((u6 e).bM.st ([],())).ab 50000=⟨0,.bh e []⟩:=rfl;have gr:∀ b,(((u6 e).bM.st ([],())).ab b).body.b1 (if b=50000 then kb else κ b)=true->b=50000/\kb.e_=false:=λb ag=>by
  by_cases e:b=50000
  ·subst e;rw[bL,if_pos rfl]at ag;exact⟨rfl,by simpa [bS.b1]using ag⟩
  ·rw[a_ b e]at ag;cases ag
 refine { dH:=rfl,dfr:=au.symm,bU:=λi=>?_,bD:=λb=>?_,own:=λb ag=>?_,inj:=λb be E U _=>?_,dd:=λr M=>Nat.lt_of_lt_of_le (h.dd r M) cd,hh:=h.hh,hU:=h.hU,hx:=h.hx,eH:=λr M=>?_,size:=Nat.le_trans h.size cd,ev:=h.ev.trans hc,gq:=(by unfold eT;exact (by decide:1<=100000)),ks:=h.ks,jI:=λb r M ja=>?_,j7:=h.j7,kt:=λb k ak _ G=>?_,eN:=λl aM L n st e=>(by cases e),jJ:=h.jJ,iD:=h.iD.mono (λ_ h=>h) ⟨cd,λr M=>hw r (h.dd r M)⟩ }
 ·by_cases G:i=0
  ·subst G;refine⟨⟨Nat.le_refl _,?_⟩,λ_ _=>?_⟩
   ·show v.oneCell'=true;rw[af];unfold bB.slice;split<;>rfl
   ·show v=_;rw[af];show kb.slice 0=(if (50000:Nat)=50000 then kb else κ 50000).slice 0;rw[if_pos rfl]
  ·have:((u6 e).bM.st ([],())).aA i=.undef:=by
    show ft [(0,aI.own 50000 0)] i=.undef;simp[ft,G]
   rw[this];trivial
 ·unfold cG;by_cases az:b=50000
  ·subst az;rw[bL];show jH _ _ _ _ _ (if (50000:Nat)=50000 then kb else κ 50000) (.bh e []);rw[if_pos rfl];refine⟨λ_=>rfl,λax=>?_⟩;obtain⟨cs,T,E,U,ah⟩:=aU ax;exact⟨cs,T,E,U,Nat.zero_le _,ah,λi G=>absurd G (Nat.not_lt_zero _)⟩
  ·rw[a_ b az];trivial
 ·obtain⟨rfl,ax⟩:=gr b ag;obtain⟨E,U⟩:=ls ax;rw[if_pos rfl,E];refine⟨U,λao=>?_,λak=>?_⟩
  ·have:=h.dd _ ao;omega
  ·have:=h.hx _ ak;have:=h.size;omega
 ·rw[(gr b E).1,(gr be U).1]
 ·have E:=h.hx r M;rw[hw r (Nat.lt_of_lt_of_le E h.size)];exact h.eH r M
 ·by_cases az:b=50000
  ·subst az;rw[bL]at ja;rcases ja with h | h<;>cases h
  ·rw[a_ b az]at ja;rcases ja with h | h<;>cases h
 ·by_cases az:b=50000
  ·subst az;have:=h.j7 _ _ ak;unfold w9 at this;omega
  ·rw[a_ b az]at G;cases G
theorem aa0{k:FuncId}(he:∀ args w,(callFunc k args).run P w=.ok (.enter k args) w)
  (aY:∀ w:World,Calls P k #[.slice none 0 0,.int .i64 0] w λe w'=>e=.returned (.slice none 0 0)/\w'=w)
  (E:∀ (n:Nat) (w:World),0<n->n<60000->Calls P k #[.slice none 0 0,.int .i64 (n:Int)] w λy w'=>∃ (cf:Nat) (T:TypeId) (cs:Array Value),y=.returned (.slice (some ⟨w.heap.size,0,none⟩) 0 cf)/\
   w'=w.drew.alloc (.cells cs T)/\cf<2 ^ 63/\cf*e.size<=cs.size):cS P aH k (u6 e) where
 enter:=he
 iY C a w κ F D jt As M au rB tK h aD:=by
  obtain⟨n,u⟩:=D;change Int at n;obtain⟨ss,qk⟩:0<=n/\n<60000:=aD;have cd:a.tmps.size=2:=h.dH.trans rB;have asX:a.tmps.getD 0 undef=.slice none 0 0:=h.bU 0;have qb:a.tmps.getD 1 undef=.int .i64 n:=(gW.1 (h.bU 1)).1;have a_:a.tmps=#[.slice none 0 0,.int .i64 n]:=by
   apply Array.ext (by simp[cd]);intro i G dM;have:i=0\/i=1:=by omega
   rcases this with rfl | rfl
   ·rw[<-asX];simp[Array.getD,cd]
   ·rw[<-qb];simp[Array.getD,cd]
  subst jt;rw[a_];by_cases bj:n=0
  ·subst bj;refine (aY w).mono ?_;rintro y w' ⟨rfl,rfl⟩;refine⟨_,([],()),[.slice none 0 0],_,F,rfl,rfl,⟨[.slice none 0 0],rfl,rfl,[],rfl,rfl⟩,aaZ h au (kb:=⟨0,0,0,true⟩) rfl (Nat.le_refl _) (λ_ _=>rfl) (de.refl _) nofun nofun⟩
  ·obtain⟨m,rfl⟩:∃ m:Nat,n=m:=⟨n.toNat,by omega⟩
   refine (E m w (by omega) (by omega)).mono ?_;rintro y w' ⟨cf,T,cs,rfl,rfl,gu,ph⟩;refine⟨_,([],()),[.slice (some ⟨w.heap.size,0,none⟩) 0 cf],_,F,rfl,rfl,⟨[_],rfl,rfl,[],rfl,rfl⟩,aaZ h au (kb:=⟨w.heap.size,0,cf,false⟩) rfl (by simp) (λr M=>?_) ⟨rfl,rfl,rfl⟩ (λ_=>⟨rfl,by simp⟩) (λ_=>⟨cs,T,?_,by simpa using ph,gu⟩)⟩
   ·exact pd w.drew _ M
   ·show (w.drew.heap.push _)[w.heap.size]?=_;exact Array.getElem?_push_size
theorem aa1{aJ:Go.Shelf.Ren}(L:Go.Proofs.Lays8.n4 P aJ)(w:World):Calls P (aJ.f 4) #[.slice none 0 0,.int .i64 0] w λe w'=>e=.returned (.slice none 0 0)/\w'=w:=
 Go.Proofs.Any8.slices_Grow_room L none 0 0 0 w (Nat.le_refl _) (by decide) (by decide) (Nat.le_refl _)
theorem aa2{aJ:Go.Shelf.Ren}(L:Go.Proofs.Lays8.n4 P aJ)(aF:b9 P e (aJ.t 25))(aD:e.size≠0)(n:Nat)(w:World)(aY:0<n)(E:n<60000) :
  Calls P (aJ.f 4) #[.slice none 0 0,.int .i64 (n:Int)] w λy w'=>∃ (cf:Nat) (T:TypeId) (cs:Array Value),y=.returned (.slice (some ⟨w.heap.size,0,none⟩) 0 cf)/\w'=w.drew.alloc (.cells cs T)/\cf<2 ^ 63/\cf*e.size<=cs.size:=by
 obtain⟨i0,z,oI,cd,aa,KZ,asY,_⟩:=kx aF.kv;have nl:0<i0.size:=by omega
 have tT:=(Cn (P:=P) e asY).2;refine (Go.Proofs.Any8.slices_Grow_grow L i0 z oI KZ nl none 0 0 n [] w (Nat.le_refl _) (by omega) ?_ (by omega) (by simp) (λ_=>rfl) nofun).mono ?_
 ·have:(0+n)*i0.bytes<=(0+n)*1024:=Nat.mul_le_mul_left _ aa;omega
 ·rintro y w' ⟨rfl,rfl⟩;refine⟨_,_,_,rfl,rfl,?_,?_⟩
  ·have:=grownCap_le_maxLen w (0+n) 0 (aJ.t 25) (by unfold maxLen;omega);unfold maxLen at this;omega
  ·have:=grownCap_ge w (0+n) 0 (aJ.t 25);generalize grownCap w (0+n) 0 (aJ.t 25)=cf at this;simp only[Array.size_append,size_zeroCells,tT];have az:(0+n - 0)*e.size+(cf - (0+n))*e.size=cf*e.size:=by rw[<-Nat.add_mul];congr 1;omega
   have aN:(#[]:Array Value).size=0:=rfl;omega
end
end Go.Fer
namespace Go.Fer.ox
open Go.Proofs
def E'(aH:dG)(c:cM)(sh:Nat->c.cm.aj->A c.bM.aj):List Nat->Prop
 | []=>True
 | k::l=>cS Tryz.prog aH k { c with sh:=sh k }/\E' aH c sh l
theorem E'.mem{aH:dG}{c:cM}{sh:Nat->c.cm.aj->A c.bM.aj}:∀ {l:List Nat},E' aH c sh l->∀ k∈l,cS Tryz.prog aH k { c with sh:=sh k }
 | [],_,k,h=>by cases h
 | j::l,h,k,ak=>by
  rcases List.mem_cons.1 ak with rfl | ak
  ·exact h.1
  ·exact E'.mem h.2 k ak
theorem y3{k:Nat}{e:ad}{f:List e.aj×Unit->A (List e.aj×Unit)}{sh:(ad.slice e).aj->A (ad.slice e).aj}(h:cS Tryz.prog dE k ⟨⟨[(0,.val (.slice e))],[]⟩,⟨[(0,.own 60)],[(60,.bh e)]⟩,[none],1,f⟩)
  (aq:∀ x:List e.aj,(sh x).cr->(f (x,())).cr/\∀ bn,(f (x,())).bM bn->bn.1=(sh x).val (ad.slice e).df):nT (hK.kG ⟨.slice e,.slice e,sh,true⟩).aW=true/\CB Tryz.prog k (hK.kG ⟨.slice e,.slice e,sh,true⟩):=
 ajv (by simp) h mF (b0:=60) (λx=>(x,())) (λx=>rfl) rfl (by show 1<=eT;decide) rfl (λbn=>bn.1) (λbn=>⟨rfl,rfl⟩) aq
abbrev asZ:Code:=Tryz.f161.body.getD .skip
theorem as0(aH:dG):cS Tryz.prog aH 161 p3:=
 asU (um Tryz.func161 (show Tryz.f161.body=some asZ by kernel_rfl) (by kernel_rfl)) (λab off cap zs w E U ah=>calls_of_every_depth λcn=>AnyS.slices_Sort_int_in Tryz.aaN cn ab off cap zs w E U ah)
  λp cap w=>Any.slices_Sort_int_none Tryz.aaN p cap w
theorem as1:QE=H.yg:=by
 funext x;unfold QE H.yg;rw[show x.1.mergeSort (λa b=>decide (a<=b))=H.fx H.hs x.1 from (H.AM ((List.pairwise_mergeSort (le:=λa b:Int=>decide (a<=b)) (λa b c E U=>by simp at E U ⊢;omega) (λa b=>by simp;omega) x.1).imp λh=>by simpa using h) (List.mergeSort_perm _ _).symm).symm]
def QF:cM:=⟨⟨[(0,.own 200001)],[(200001,.bh t3)]⟩,⟨[],[(200001,.bh t3)]⟩,[],1,H.yg⟩
theorem aa3:cS Tryz.prog dE 161 QF:=by
 have:=as0 dE;unfold p3 at this;rw[as1]at this;exact this
abbrev as2:Code:=Tryz.f257.body.getD .skip
abbrev as3:Code:=Tryz.f256.body.getD .skip
def aa4:cM:=⟨⟨[(0,.cx),(1,.val t3)],[]⟩,⟨[(0,.own 50000)],[(50000,.bh t3)]⟩,[none],2,H.Jc⟩
def aa5:cM:=⟨⟨[(0,.cx),(1,.val t3)],[]⟩,⟨[(0,.own 50000)],[(50000,.bh H.hq)]⟩,[none],2,H.Jd⟩
theorem as4:cS Tryz.prog dE 257 aa4:=
 aa0 (e:=t3) (um Tryz.func257 (show Tryz.f257.body=some as2 by kernel_rfl) (by kernel_rfl)) (aa1 Tryz.aaO) (aa2 Tryz.aaO (oc.cb (id:=3) rfl (by decide)) (by decide))
theorem as5:cS Tryz.prog dE 256 aa5:=
 aa0 (e:=H.hq) (um Tryz.func256 (show Tryz.f256.body=some as3 by kernel_rfl) (by kernel_rfl)) (aa1 Tryz.aaP) (aa2 Tryz.aaP (oc.cb (id:=125) rfl (by decide)) (by decide))
def g1:=ajt.cons (n:=139) (c:=aw.Jt.dx) ⟨asz,λ_ _=>A.vO⟩
def ew:=g1.cons (n:=204) (c:=aw.Jk.dx) ⟨asD,λ_ _=>A.vO⟩
def g3:=ew.cons (n:=258) (c:=aw.E4.dx) ⟨asF,λ_ _=>A.vO⟩
def as6:=g3.cons (n:=140) (c:=aw.E6.dx) ⟨asQ,λ_ _=>A.vO⟩
end Go.Fer.ox
namespace Go.Fer.aw
open A (W)
open H (fw)
def j5(n:Int):aR:=if n<0 then P2 else Go.Lib.decDigits n.toNat
theorem QG(u:Nat):Go.Lib.decDigits u=(if u<10 then [] else Go.Lib.decDigits (u / 10))++[UInt8.ofNat (48+u % 10)]:=by
 split
 ·rw[Go.Lib.decDigits_one (by omega),Nat.mod_eq_of_lt (by omega)];rfl
 ·conv=>lhs;unfold Go.Lib.decDigits
  rw[dif_neg (by omega)]
theorem aa6(k:Nat):UInt8.ofNat (Int.toNat (IntKind.wrap .u8 (IntKind.wrap .i64 (Add.add 48 (Int.tmod (k:Int) 10)))))=UInt8.ofNat (48+k % 10):=by
 have e:Int.tmod (k:Int) 10=((k % 10:Nat):Int):=rfl;rw[e,cp,bF (by omega) (by omega),aaD (by omega) (by omega)];congr 1
theorem aa7:∀ (k u:Nat),u<10 ^ (k+1)->Go.Lib.nDigits u<=k+1
 | 0,u,h=>by rw[Go.Lib.nDigits_small (by omega)];omega
 | k+1,u,h=>by
  unfold Go.Lib.nDigits;split
  ·omega
  ·have:=aa7 k (u / 10) (by rw[Nat.pow_succ]at h;omega);omega
abbrev JH:aO:=⟨.int .i64,.str,λn=>n<2 ^ 63,j5⟩
theorem as7(x):A.le (Y1 x) (JH.sh x):=A.bw λh=>by
 change x<2 ^ 63 at h;unfold Y1;show _=A.pure (j5 x);unfold j5;by_cases ai:x<0
 ·rw[if_pos (decide_eq_true ai),if_pos ai]
 ·rw[if_neg (by simpa using ai),if_neg ai,A.bq (by decide)];obtain⟨u,rfl⟩:∃ u:Nat,x=u:=⟨x.toNat,by omega⟩
  have BD:=Go.Lib.nDigits_le20 u (by omega);rw[<-Go.Lib.decDigits_length]at BD;have e:=QG u;rw[A.acX (res:=W.next (Go.Lib.decDigits u,())) (λs=>∃ k:Nat,s.1=(k:Int)/\k<=u/\Go.Lib.decDigits u=(if k<10 then [] else Go.Lib.decDigits (k / 10))++s.2.1) (λs=>s.1.toNat) ?_ _ ⟨u,rfl,Nat.le_refl _,by rw[aa6];exact e⟩,A.aK]
  ·rfl
  ·rintro⟨n,t,⟨⟩⟩ ⟨k,E,U,ah⟩;change n=(k:Int) at E;subst E;change _=_++t at ah;have as8:=congrArg List.length ah;rw[List.length_append]at as8;have Ek:Int.tdiv (k:Int) 10=((k / 10:Nat):Int):=rfl;by_cases ak:k<10
   ·right;rw[if_pos ak,List.nil_append]at ah;simp only[Ek];rw[if_neg (by simp;omega),A.aK,ah]
   ·left;rw[if_neg ak,QG (k / 10),List.append_assoc]at ah;refine⟨(((k / 10:Nat):Int),[UInt8.ofNat (48+k / 10 % 10)]++t,()),?_,⟨k / 10,rfl,by omega,ah⟩,by show (((k / 10:Nat):Int)).toNat<((k:Int)).toNat;omega⟩;simp only[Ek];rw[if_pos (by simp;omega),A.bq (by decide),A.bq (by decide),A.bq (fw (by simp only[hO];omega)),bF (by omega) (by omega),aa6]
theorem QH{n:Int}(h:n<=999999):(j5 n).length<=6:=by
 unfold j5;split
 ·decide
 ·rw[Go.Lib.decDigits_length];exact aa7 5 _ (by omega)
def pa(w:aR)(l:z1'):aR:=l.foldl (λs n=>s++([32]++j5 n)) w
abbrev JI:aO:=⟨.aB .str fR,.str,λx=>x.1.length<=1000/\x.2.length<=1000/\∀ n∈x.2,n<=999999,λx=>pa x.1 x.2⟩
theorem as9(x):A.le (Y9 JH.sh x) (JI.sh x):=A.bw λh=>by
 obtain⟨w,l⟩:=x;obtain⟨E,U,ah⟩:w.length<=1000/\l.length<=1000/\∀ n∈l,n<=999999:=h;unfold Y9;show _=A.pure (pa w l);rw[A.f_ l (λi (s:aR)=>(s,l,(i:Int),())) (λn s=>.next (s++([32]++j5 n))) (λs=>.next (s,())) (λi s=>s.length<=1000+7*i) w ?_ (by omega) ?_ ?_]
 ·rw[eL,A.aK];rfl
 ·rfl
 ·intro i G s aD;have hw:=bF (n:=(i:Int)+1) (by omega) (by omega);have ax:=ah _ (List.getElem_mem G);have aF:=QH ax;refine⟨?_,λbe cY=>?_⟩
  ·simp only[bZ,cX G,if_true,dk G,cP G,A.br,cp,hw];rw[show JH.sh l[i]=A.pure (j5 l[i]) from A.bR (show l[i]<2 ^ 63 by omega) _,A.aK,A.bq (fw (by simp only[hO];omega)),A.bq (fw (by simp only[hO];omega))];rfl
  ·simp only[W.next.injEq]at cY;subst cY;simp only[List.length_append,List.length_cons,List.length_nil];omega
 ·simp
theorem QI{w:aR}{l:z1'}(E:w.length<=1000)(U:l.length<=1000)(ah:∀ n∈l,n<=999999):JI.sh (w,l)=A.pure (pa w l):=A.bR ⟨E,U,ah⟩ _
theorem JJ{n:Nat}:∀ {l:z1'} {w:aR},(∀ n∈l,n<=999999)->w.length<=n->(pa w l).length<=n+7*l.length
 | [],w,_,h=>h
 | k::l,w,h,hw=>by
  have aF:=QH (h k (by simp));have:=JJ (n:=n+7) (l:=l) (w:=w++([32]++j5 k)) (λn ax=>h n (by simp[ax])) (by simp;omega);show (pa (w++([32]++j5 k)) l).length<=_;simp only[List.length_cons];omega
theorem aa8:∀ (a b:aR),cK (a++32::b)=cK a++cK b
 | [],b=>by simp[cK]
 | c::a,b=>by
  have aL:=aa8 a b;have al:=u1 a;simp only[List.cons_append,cK];split
  ·rw[aL];rfl
  ·rw[aL];cases h:cK a with
   | nil=>exact absurd al.1 (by rw[h];decide)
   | cons v l=>rfl
theorem aa9:∀ (w:aR),(∀ c∈w,c≠32)->cK w=[w]
 | [],_=>rfl
 | c::w,h=>by
  have aL:=aa9 w λd au=>h d (by simp[au]);simp only[cK];rw[if_neg (h c (by simp)),aL]
theorem as_(u:Nat):∀ c∈Go.Lib.decDigits u,c≠32:=by
 induction u using Nat.strongRecOn with
 | _ u aL=>
  intro c hc;rw[QG,List.mem_append]at hc;rcases hc with hc | hc
  ·split at hc
   ·cases hc
   ·exact aL (u / 10) (by omega) c hc
  ·rw[List.mem_singleton]at hc;subst hc;have:=JG (u % 10) (by omega);intro e;rw[e]at this;have:((32:UInt8).toNat:Int)=32:=by decide
   omega
theorem as'(n:Int):cK (j5 n)=[j5 n]:=by
 refine aa9 _ ?_;unfold j5;split
 ·decide
 ·exact as_ _
theorem aa_:∀ (l:z1') (w:aR),cK (pa w l)=cK w++l.map j5
 | [],w=>by simp[pa]
 | n::l,w=>by
  show cK (pa (w++32::j5 n) l)=_;rw[aa_ l,aa8,as'];simp
theorem aa'{n:Int}(aY:0<=n)(E:n<=999999):e2 (j5 n)=n:=by
 have al:=QH E;unfold j5 at al ⊢;rw[if_neg (by omega)]at al ⊢;obtain⟨aQ,aS⟩:=aaV n.toNat;have aq:=List.length_pos_iff.2 aQ;unfold e2;rw[if_neg,aaU]
 ·omega
 ·simp only[Bool.or_eq_true,Bool.and_eq_true,decide_eq_true_eq,not_or,not_and];exact⟨⟨by omega,by omega⟩,aS⟩
theorem ata{l:z1'}(h:∀ n∈l,0<=n/\n<=999999):E1 (l.map j5)=some l:=by
 unfold E1;have e:(l.map j5).map e2=l:=by
  rw[List.map_map];conv=>rhs;rw[<-List.map_id l]
  exact List.map_congr_left λn ax=>aa' (h n ax).1 (h n ax).2
 rw[e,if_pos];rw[List.all_map,List.all_eq_true];intro n ax;have:=h n ax;have:=aa' (h n ax).1 (h n ax).2;simp only[Function.comp,decide_eq_true_eq];omega
theorem QJ{w:aR}{k:Int}{m:Bool}{j:Nat}{l:z1'}(hw:cK w=[w])(ao:o_ w lg 0=some (k,m,j))(ak:k<=(l.length:Int)/\((l.length:Int)<=k\/m=true))(al:∀ n∈l,0<=n/\n<=999999):tl (pa w l)=some (j,l):=by
 unfold tl;rw[aa_,hw];have az:(([w]++l.map j5).getD 0 [])=w:=rfl;have aN:(([w]++l.map j5).drop 1)=l.map j5:=rfl;have cL:((([w]++l.map j5).length:Int) - 1)=(l.length:Int):=by simp
 rw[az,aN,cL,ao,ata al];simp only;rw[if_neg]
 ·rfl
 ·simp only[Bool.or_eq_true,Bool.and_eq_true,decide_eq_true_eq,Bool.not_eq_true',not_or,not_and,Bool.not_eq_false];refine⟨by omega,λh=>?_⟩;rcases ak.2 with U | U
  ·omega
  ·exact U
def BE:List aR:=[[108,101,110,100,32,49,32,48,32,49,48,48,32,51,32,55],[98,97,99,107,32,50,32,48,32,49,55,49,32,51],[115,116,111,99,107,32,48,32,49]]
theorem aba:c7 qT:=Qw asl.1 asm ar8
theorem atb:(iV (ij qT) BE).1.length=3/\H.rN (iV (ij qT) BE).2.2 1=((300,300),0)/\wK (iV (ij qT) BE).2.1=(1,0):=by decide +kernel
abbrev Fa:aO:=⟨.cU,.bool,λ_=>True,λ_=>true⟩
theorem atc(x):A.le (Y0 u3.sh H.uE.sh Bv.sh Jy.sh x) (Fa.sh x):=A.bw λ_=>by
 unfold Y0;rw[show Jy.sh ()=A.pure qT from rfl,A.aK];show A.bind (u3.sh (qT,BE)) _=A.pure true;have au:=aay (Qv aba) (l:=BE) (by decide);obtain⟨aQ,aS,bN⟩:=atb;rw[aaI aba (by decide) (by decide),A.aK];generalize iV (ij qT) BE=r at *
 rw[show H.uE.sh (r.2.2,1)=A.pure (H.rN r.2.2 1) from A.bR au.fy _,A.aK,show Bv.sh r.2.1=A.pure (wK r.2.1) from A.bR au.gY _,A.aK,aS,bN];simp[aQ]
theorem atd:Fa.sh ()=A.pure true:=rfl
abbrev Fb:aO:=⟨.aB u0 bp,.bool,λx=>(∀ a∈x.1,a=tk)/\x.2=(x.1.length:Int)/\x.1.length<2 ^ 63,λ_=>true⟩
theorem ate(x):A.le (Y5 x) (Fb.sh x):=A.bw λh=>by
 obtain⟨l,n⟩:=x;obtain⟨E,U,ah⟩:(∀ a∈l,a=tk)/\n=(l.length:Int)/\l.length<2 ^ 63:=h;subst U;unfold Y5;rw[A.ed l (λi (_:Unit)=>(l,(l.length:Int),(i:Int),())) (λ_ b=>.next b) (λ_=>.next (l,(l.length:Int),())) () ?_ ?_ ?_]
 ·rw[eL,A.aK,A.b7];simp
 ·rfl
 ·intro i G _;have hw:=bF (n:=(i:Int)+1) (by omega) (by omega);have:=E _ (List.getElem_mem G);simp only[bZ,cX G,if_true,dk G,cP G,A.br,cp,hw,this];rfl
 ·simp
abbrev Fc:aO:=⟨yQ,yQ,λd=>yN d.1/\H.H4 d.2,λd=>d⟩
theorem atf(x):A.le (Y2 I_.sh H.vW.sh x) (Fc.sh x):=A.bw λh=>by
 unfold Y2;rw[show I_.sh x.1=A.pure x.1 from A.bR h.1 _,show H.vW.sh x.2=A.pure x.2 from A.bR h.2 _];simp only[A.iX,A.br,A.fG]
theorem c7.atg{d:bd}(h:c7 d):H.H4 d.2:=by
 have:=h.E3;exact⟨by have:=this.dZ;omega,by have:=this.dP;omega,by have:=this.hZ;omega,by have:=this.n4;omega⟩
theorem ath{d:bd}(h:c7 d):Fc.sh d=A.pure d:=A.bR ⟨h.copy,h.atg⟩ _
theorem ati{d:bd}(E:fB d.1)(U:H.jE d.2):E_.sh (d,[])=A.pure (u5 d []):=A.bR ⟨E,U,by show 0<2 ^ 63;decide⟩ _
theorem atj{d:bd}(E:fB d.1)(U:H.jE d.2)(ao:u5 d []=false)(he:kr d=0):c7 d/\d.1.1.1.length<=6/\d.1.1.2.2.2.length<=10/\d.1.2.2.2.1.length<=3/\d.1.2.2.1.length<=4/\d.1.2.2.2.2.1.length<=3:=by
 have au:c7 d:=(asj (l:=[]) (n:=40) E U (by rw[ao,he];rfl)).1;refine⟨au,?_⟩;have aD:=au.u2;have hc:b' d.1.1=0:=(Ps aD).1;have aQ:rY d.1=false:=by
  unfold u5 at ao;split at ao
  ·cases ao
  ·grind
 unfold rY at aQ;split at aQ
 ·cases aQ
 ·rename_i b6;split at aQ
  ·cases aQ
  split at aQ
  ·cases aQ
  rw[if_neg (by omega)]at aQ;have aS:k7 d.1.1=false:=by grind
  unfold k7 at aS;split at aS
  ·cases aS
  split at aS
  ·cases aS
  rw[if_neg (by omega)]at aS;split at aS
  ·cases aS
  simp only[Bool.or_eq_false_iff,decide_eq_false_iff_not]at aQ aS;omega
end Go.Fer.aw
namespace Go.Fer.H
open A (W)
structure gU(c d:aX):Prop where
 b6:d.1=c.1
 a2:d.2.2.2=c.2.2.2
 ac:e9 d=e9 c
 aQ:b' c=0
 aS:b' d=0
section
variable {c d:aX}
theorem gU.hC(h:gU c d)(w:z1')(u:Int):b4 d w u=b4 c w u:=by unfold b4 oh;rw[h.ac]
theorem gU.QK(h:gU c d)(w:z1')(u:Int):gz d w u=gz c w u:=by unfold gz;rw[h.hC]
theorem gU.atk(h:gU c d)(w:z1'):h6 d w=h6 c w:=by
 unfold h6 rM;rw[h.b6];refine congrArg _ ?_;exact congrArg (List.all (d_ 0 9)) (funext λu=>by rw[h.hC])
theorem gU.abb(h:gU c d):∀ (l:z4') (w:z1'),k6 d l w=k6 c l w
 | [],w=>by unfold k6;rw[h.atk]
 | s::l,w=>by
  unfold k6;refine congrArg (λf=>List.flatMap f _) (funext λn=>?_);exact h.abb l _
theorem gU.cF(h:gU c d):Go.Fer.H.cF d=Go.Fer.H.cF c:=by
 unfold Go.Fer.H.cF;rw[h.b6];exact h.abb _ _
theorem gU.JK(h:gU c d)(b:Bool):ey d b=ey c b:=by
 unfold ey;rw[h.aQ,h.aS,h.cF]
theorem gU.abc(h:gU c d)(w:z1')(n:Int):iT d w n=iT c w n:=by
 unfold iT;rw[h.a2];exact congrArg (λf=>List.findSome? f (d_ 0 9)) (funext λu=>by rw[h.QK])
theorem gU.atl(h:gU c d)(n:Int):uC d n=uC c n:=by unfold uC;rw[h.ac]
theorem gU.atm(h:gU c d)(n:Int):ko d n=ko c n:=by
 unfold ko;rw[h.atl,h.JK];simp only[h.abc]
theorem gU.atn(h:gU c d)(n:Int):rN d n=rN c n:=by
 unfold rN;rw[h.atm,h.a2]
theorem gU.sum(h:gU c d)(w:z1')(g:Int):yl d w g=yl c w g:=by
 unfold yl;rw[h.ac,h.a2];simp only[h.abc]
theorem gU.ato(h:gU c d)(g:Int):uF d g=uF c g:=by
 unfold uF;rw[h.JK];simp only[h.sum]
theorem gU.atp(h:gU c d)(u t:Int):ns d u t=ns c u t:=by
 unfold ns Il;rw[h.JK];simp only[h.QK]
theorem gU.bM(h:gU c d)(w:z1')(t:Int):yk d w t=yk c w t:=by
 unfold yk;simp only[h.QK]
theorem gU.ik(h:gU c d)(t:Int):uG d t=uG c t:=by
 unfold uG;rw[h.JK,h.a2];simp only[h.bM]
end
theorem atq{a b:List aZ}(a_:pO a)(h:∀ s,s∈a<->s∈b):dn a=dn b:=by
 have key:∀ id:Int,(a.find? λs=>s.1 == id)=b.find? λs=>s.1 == id:=by
  intro id;cases ao:b.find? λs=>s.1 == id with
  | none=>
   rw[List.find?_eq_none]at ao ⊢;exact λs aD=>ao s ((h s).1 aD)
  | some s=>
   have E:=List.mem_of_find?_eq_some ao;have U:=List.find?_some ao;have ah:(a.find? λs=>s.1 == id).isSome=true:=List.find?_isSome.2 ⟨s,(h s).2 E,U⟩;obtain⟨t,aF⟩:=Option.isSome_iff_exists.1 ah;have a6:=List.mem_of_find?_eq_some aF;have bL:=List.find?_some aF;simp only[beq_iff_eq]at U bL;rw[aF,a_ t a6 s ((h s).2 E) (by omega)]
 unfold dn;exact congrArg (λf=>List.filterMap f (d_ 0 99)) (funext key)
theorem QL{l:List aZ}(ax:pO l)(hid:∀ s∈l,bX s.1 0 99=true)(s:aZ):s∈dn l<->s∈l:=by
 refine⟨v',λaD=>?_⟩;unfold dn;refine List.mem_filterMap.2 ⟨s.1,oW.2 (lI.1 (hid s aD)),?_⟩;have ah:(l.find? λt=>t.1 == s.1).isSome=true:=List.find?_isSome.2 ⟨s,aD,by simp⟩;obtain⟨t,aF⟩:=Option.isSome_iff_exists.1 ah;have a6:=List.mem_of_find?_eq_some aF;have bL:=List.find?_some aF;simp only[beq_iff_eq]at bL;rw[aF,ax t a6 s aD bL]
theorem Fe{a b:List aZ}(h:pO b)(aD:∀ s∈a,s∈b):pO a:=λx ai y aT he=>h x (aD x ai) y (aD y aT) he
theorem JL{c:aX}(ay:gJ c){sl:List aZ}{ep:z1'}(E:sl.length<=12)(U:∀ s∈sl,s∈c.2.1)(ah:ep.length<=12)(a6:∀ n∈ep,bX n 0 99=true):b' (eo c sl ep)=0:=by
 have e:iS (eo c sl ep)=true:=by
  have:=ay.ir;unfold iS rJ at this ⊢;simp only[Bool.and_eq_true,Bool.not_eq_true',Bool.or_eq_false_iff,decide_eq_false_iff_not,List.all_eq_true]at this ⊢;obtain⟨⟨⟨⟨⟨bj,aY⟩,aQ⟩,aS⟩,bN⟩,fm⟩:=this;exact⟨⟨⟨⟨⟨⟨⟨⟨bj.1.1.1,by show ¬((sl.length:Int) > 12);omega⟩,by show ¬((ep.length:Int) > 12);omega⟩,bj.2⟩,aY⟩,aQ⟩,λs aD=>aS s (U s aD)⟩,a6⟩,fm⟩
 have ax:pO (eo c sl ep).2.1:=Fe ay.og U;unfold b';rw[if_pos e,(uA _).2 ax];rfl
theorem atr{c:aX}(ay:gJ c){sl:List aZ}{ep:z1'}(E:sl.length<=12)(U:∀ s,s∈sl<->s∈c.2.1)(ah:ep.length<=12)(a6:∀ n,n∈ep<->n∈c.2.2.1):gU c (eo c sl ep):=by
 have af:=(yP ay.Eh).ep;refine⟨rfl,rfl,?_,ay.Eh,JL ay E (λs aD=>(U s).1 aD) ah λn ax=>af n ((a6 n).1 ax)⟩;unfold e9;show (dn sl).filter (λs=>!ep.contains s.1)=_;rw[atq (Fe ay.og λs aD=>(U s).1 aD) U];refine List.filter_congr λs _=>?_;rw[Bool.eq_iff_iff];simp[a6]
end Go.Fer.H
namespace Go.Fer.aw
open A (W)
open H (fw aZ aX)
theorem ats(a b:List aZ):H.dn (H.dn a++b)=H.dn (a++b):=by
 refine aar (f:=λk=>(H.dn a++b).find? λs=>s.1 == k) (g:=λk=>(a++b).find? λs=>s.1 == k) (d_ 0 99) λk ak=>?_;rw[List.find?_append,List.find?_append,ar2 (oW.1 ak)]
theorem att(V aH v:z1'):H.gi (H.gi V aH) v=H.gi V (aH++v):=by
 unfold H.gi;refine List.filter_congr λk ak=>?_;grind
def iW(s:aR):List aZ×z1':=match tl s with
 | some (0,l)=>([(bl l 0,bl l 1,bl l 2,1,bl l 3,bl l 4)],[])
 | some (1,l)=>([(bl l 0,bl l 1,bl l 2,2,bl l 3,0)],[])
 | some (2,l)=>([],l)
 | _=>([],[])
def Ff(s:aR):Prop:=∃ j l,tl s=some (j,l)/\j<3
theorem atu{s:aR}(h:Ff s)(d:bd):lO d s=p1 d (iW s).1 (iW s).2:=by
 obtain⟨j,l,aq,aG⟩:=h;unfold lO iW;rw[aq];match j,aG with
 | 0,_=>rfl
 | 1,_=>rfl
 | 2,_=>rfl
structure r3(c:aX)(A:List aZ)(aH:z1'):Prop where
 og:H.pO (c.2.1++A)
 eF:(H.dn (c.2.1++A)).length<=12
 mj:(H.gi c.2.2.1 aH).length<=12
 ids:∀ s∈c.2.1++A,bX s.1 0 99=true
theorem QM(a b:z1'):(H.gi a b).Nodup:=((H.PZ 0 99).filter _).imp λh=>by omega
theorem r3.mono{c:aX}{A JM:List aZ}{aH abd:z1'}(h:r3 c JM abd)(sr:∀ s∈A,s∈JM)(h2:∀ n∈aH,n∈abd):r3 c A aH:=by
 have aD:∀ s∈c.2.1++A,s∈c.2.1++JM:=λs aD=>by grind
 refine⟨H.Fe h.og aD,Nat.le_trans ?_ h.eF,Nat.le_trans ((QM _ _).length_le_of_subset λn ax=>?_) h.mj,λs hm=>h.ids s (aD s hm)⟩
 ·have:=(H.Ip (c.2.1++A)).length_le_of_subset (l₂:=(H.dn (c.2.1++JM)).map (·.1)) λn ax=>by
   obtain⟨s,hm,rfl⟩:=List.mem_map.1 ax;exact List.mem_map_of_mem ((H.QL h.og h.ids s).2 (aD s (H.v' hm)))
  simpa using this
 ·unfold H.gi at ax ⊢;grind
def kM(c:aX)(A:List aZ)(aH:z1'):aX:=H.eo c (H.dn (c.2.1++A)) (H.gi c.2.2.1 aH)
theorem atv{c:aX}{A m:List aZ}{aH v:z1'}(h:r3 c A aH)(hc:H.b' (kM c A aH)=0) :
  ((H.lf (kM c A aH) m v).2=0->(H.lf (kM c A aH) m v).1=kM c (A++m) (aH++v)/\H.b' (H.eo c m v)=0/\r3 c (A++m) (aH++v))/\
  (H.b' (H.eo c m v)=0->r3 c (A++m) (aH++v)->(H.lf (kM c A aH) m v).2=0):=by
 have ee:H.dn (H.dn (c.2.1++A)++m)=H.dn (c.2.1++(A++m)):=by rw[ats,List.append_assoc]
 have jF:∀ s,s∈H.dn (c.2.1++A)++m<->s∈c.2.1++(A++m):=λs=>by rw[<-List.append_assoc,List.mem_append,List.mem_append (s:=c.2.1++A),H.QL h.og h.ids]
 have kU:H.lf (kM c A aH) m v=if H.b' (kM c A aH)≠0 then (H.wN,H.b' (kM c A aH)) else if H.b' (H.eo c m v)≠0 then (H.wN,H.b' (H.eo c m v)) else
  if H.kl (H.dn (c.2.1++A)++m)=true then (H.wN,91) else
  if (decide (Int.ofNat (H.dn (H.dn (c.2.1++A)++m)).length > 12)||decide (Int.ofNat (H.gi (H.gi c.2.2.1 aH) v).length > 12))=true then (H.wN,90) else (H.eo c (H.dn (H.dn (c.2.1++A)++m)) (H.gi (H.gi c.2.2.1 aH) v),0):=rfl
 rw[ee,att,if_neg (by omega)]at kU;by_cases ak:H.b' (H.eo c m v)=0
 ·rw[if_neg (by omega)]at kU;have hid:∀ s∈c.2.1++(A++m),bX s.1 0 99=true:=λs aD=>by
   rw[<-List.append_assoc,List.mem_append]at aD;rcases aD with aD | aD
   ·exact h.ids s aD
   ·exact (H.yP ak).ids s aD
  by_cases al:H.kl (H.dn (c.2.1++A)++m)=true
  ·rw[if_pos al]at kU;rw[kU];refine⟨λh=>absurd (show (91:Int)=0 from h) (by decide),λ_ ay=>?_⟩;rw[(H.uA _).2 (H.Fe ay.og λs aD=>(jF s).1 aD)]at al;cases al
  ·rw[if_neg al]at kU;have ax:H.pO (c.2.1++(A++m)):=H.Fe ((H.uA _).1 (by simpa using al)) λs aD=>(jF s).2 aD;by_cases bj:(decide (Int.ofNat (H.dn (c.2.1++(A++m))).length > 12)||decide (Int.ofNat (H.gi c.2.2.1 (aH++v)).length > 12))=true
   ·rw[if_pos bj]at kU;rw[kU];refine⟨λh=>absurd (show (90:Int)=0 from h) (by decide),λ_ ay=>?_⟩;have:=ay.eF;have:=ay.mj;simp at bj;omega
   ·rw[if_neg bj]at kU;rw[kU];simp at bj;exact⟨λ_=>⟨rfl,ak,ax,by omega,by omega,hid⟩,λ_ _=>rfl⟩
 ·rw[if_pos ak]at kU;rw[kU];exact⟨λh=>absurd h ak,λh=>absurd h ak⟩
def rm(L:List aR):List aZ:=L.flatMap λs=>(iW s).1
def y4(L:List aR):z1':=L.flatMap λs=>(iW s).2
theorem abe(c:aX)(z:bJ):∀ (L:List aR) (A:List aZ) (aH:z1'),r3 c A aH->c7 (z,kM c A aH)->(∀ s∈L,Ff s/\s.length<=10000)->
  ((∀ a∈(iV (z,kM c A aH) L).1,a=tk)->(iV (z,kM c A aH) L).2=(z,kM c (A++rm L) (aH++y4 L))/\(∀ s∈L,H.b' (H.eo c (iW s).1 (iW s).2)=0)/\r3 c (A++rm L) (aH++y4 L))/\
  ((∀ s∈L,H.b' (H.eo c (iW s).1 (iW s).2)=0)->r3 c (A++rm L) (aH++y4 L)->∀ a∈(iV (z,kM c A aH) L).1,a=tk)
 | [],A,aH,ay,au,gH=>by
  simp only[rm,y4,List.flatMap_nil,List.append_nil];exact⟨λ_=>⟨rfl,λs aD=>by simp at aD,ay⟩,λ_ _ a a_=>by simp[iV]at a_⟩
 | s::L,A,aH,ay,au,gH=>by
  obtain⟨aD,JY⟩:=gH s (by simp);obtain⟨t1,t2⟩:=atv (m:=(iW s).1) (v:=(iW s).2) ay au.o';have ak:=Qt au JY;have e:=atu aD (z,kM c A aH);have b6:∀ X:List aZ,A++((iW s).1++X)=A++(iW s).1++X:=λX=>(List.append_assoc ..).symm;have a2:∀ X:z1',aH++((iW s).2++X)=aH++(iW s).2++X:=λX=>(List.append_assoc ..).symm;simp only[rm,y4,List.flatMap_cons,b6,a2,iV,List.forall_mem_cons];by_cases hm:(H.lf (kM c A aH) (iW s).1 (iW s).2).2=0
  ·obtain⟨t3,t4,t5⟩:=t1 hm;have aN:lO (z,kM c A aH) s=(tk,(z,kM c (A++(iW s).1) (aH++(iW s).2))):=by
    rw[e];unfold p1;rw[if_neg (by simpa using hm),t3]
   rw[aN]at ak ⊢;obtain⟨i1,i2⟩:=abe c z L _ _ t5 ak λt aF=>gH t (by simp[aF]);refine⟨λ⟨_,h⟩=>?_,λ⟨_,h⟩ rb=>⟨rfl,i2 h rb⟩⟩;obtain⟨uq,Qq,aam⟩:=i1 h;exact⟨uq,⟨t4,Qq⟩,aam⟩
  ·have aN:(lO (z,kM c A aH) s).1=yR:=by
    rw[e];unfold p1;rw[if_pos (by simpa using hm)]
   rw[aN];refine⟨λ⟨h,_⟩=>absurd h (by decide),λ⟨h,_⟩ rb=>absurd (t2 h (rb.mono (λx ai=>?_) λx ai=>?_)) hm⟩
   ·exact List.mem_append_left _ ai
   ·exact List.mem_append_left _ ai
theorem atw{d:bd}(ax:aat d):kM d.2 [] []=d.2:=by
 unfold kM;rw[List.append_nil,ax.aau,ax.aav];rfl
def y5(n:Int):aR:=pa [118,111,105,100] [n]
def wS(s:aZ):aR:=if s.2.2.2.1=1 then pa [108,101,110,100] [s.1,s.2.1,s.2.2.1,s.2.2.2.2.1,s.2.2.2.2.2] else pa [98,97,99,107] [s.1,s.2.1,s.2.2.1,s.2.2.2.2.1]
def lj(c:aX):List aR:=c.2.2.1.map y5++c.2.1.map wS
abbrev QN(s:aZ):Prop:=(0<=s.1/\s.1<=99)/\(0<=s.2.1/\s.2.1<=3)/\(0<=s.2.2.1/\s.2.2.1<=9999)/\(0<=s.2.2.2.2.1/\s.2.2.2.2.1<=9)/\(0<=s.2.2.2.2.2/\s.2.2.2.2.2<=99)/\(s.2.2.2.1=1\/s.2.2.2.1=2/\s.2.2.2.2.2=0)
theorem QO{c:aX}(h:H.b' c=0){s:aZ}(aD:s∈c.2.1):QN s:=by
 have ay:=H.mJ h;have:=ay.ir;unfold H.iS at this;simp only[Bool.and_eq_true,List.all_eq_true]at this;have E:=this.1.1.2 s aD;have ax:=ay.dZ;unfold H.k5 H.bX at E;simp only[Bool.and_eq_true,Bool.or_eq_true,decide_eq_true_eq]at E;obtain⟨⟨⟨⟨⟨aQ,aS⟩,bN⟩,fm⟩,l2⟩,pA⟩:=E;have ayR:s.2.1<=(c.1.length:Int) - 1:=aS.2;exact⟨aQ,⟨aS.1,by omega⟩,bN,fm,l2,pA⟩
theorem QP{n:Int}(h:0<=n/\n<=99):Ff (y5 n)/\iW (y5 n)=([],[n]):=by
 have e:tl (y5 n)=some (2,[n]):=QJ (k:=1) (m:=false) (by decide) (by decide) (by simp) (by simp;omega);refine⟨⟨2,[n],e,by decide⟩,?_⟩;unfold iW;rw[e];rfl
theorem QQ{s:aZ}(h:QN s):Ff (wS s)/\iW (wS s)=([s],[]):=by
 obtain⟨aQ,aS,bN,fm,l2,pA⟩:=h;unfold wS;by_cases ak:s.2.2.2.1=1
 ·rw[if_pos ak];have e:tl (pa [108,101,110,100] [s.1,s.2.1,s.2.2.1,s.2.2.2.2.1,s.2.2.2.2.2])=some (0,[s.1,s.2.1,s.2.2.1,s.2.2.2.2.1,s.2.2.2.2.2]):=QJ (k:=5) (m:=false) (by decide) (by decide) (by simp) (by simp;omega);refine⟨⟨_,_,e,by decide⟩,?_⟩;unfold iW;rw[e];show ([(s.1,s.2.1,s.2.2.1,1,s.2.2.2.2.1,s.2.2.2.2.2)],([]:z1'))=([s],[])
  rw[<-ak]
 ·rw[if_neg ak];have e:tl (pa [98,97,99,107] [s.1,s.2.1,s.2.2.1,s.2.2.2.2.1])=some (1,[s.1,s.2.1,s.2.2.1,s.2.2.2.2.1]):=QJ (k:=4) (m:=false) (by decide) (by decide) (by simp) (by simp;omega);obtain⟨dr,dI⟩:=pA.resolve_left ak;refine⟨⟨_,_,e,by decide⟩,?_⟩;unfold iW;rw[e];show ([(s.1,s.2.1,s.2.2.1,2,s.2.2.2.2.1,0)],([]:z1'))=([s],[])
  rw[<-dr,<-dI]
theorem abf{s:aZ}(h:QN s):(wS s).length<=100:=by
 obtain⟨aQ,aS,bN,fm,l2,pA⟩:=h;unfold wS;split
 ·exact Nat.le_trans (JJ (n:=4) (by simp;omega) (by decide)) (by simp)
 ·exact Nat.le_trans (JJ (n:=4) (by simp;omega) (by decide)) (by simp)
theorem abg{n:Int}(h:0<=n/\n<=99):(y5 n).length<=100:=Nat.le_trans (JJ (n:=4) (by simp;omega) (by decide)) (by simp)
theorem QR{an β:Type}{f:an->List β}{g:an->β}:∀ (l:List an),(∀ a∈l,f a=[g a])->l.flatMap f=l.map g
 | [],_=>rfl
 | a::l,h=>by rw[List.flatMap_cons,List.map_cons,h a (by simp),QR l λb aa=>h b (by simp[aa])];rfl
theorem BW{an β:Type}{f:an->List β}:∀ (l:List an),(∀ a∈l,f a=[])->l.flatMap f=[]
 | [],_=>rfl
 | a::l,h=>by rw[List.flatMap_cons,h a (by simp),BW l λb aa=>h b (by simp[aa])];rfl
theorem atx{d:bd}(au:c7 d):(∀ a∈(iV (ij (d.1,H.eo d.2 [] [])) (lj d.2)).1,a=tk)/\(iV (ij (d.1,H.eo d.2 [] [])) (lj d.2)).2=(d.1,H.eo d.2 (H.dn d.2.2.1) (H.gi [] d.2.2.2.1))/\c7 (d.1,H.eo d.2 [] []):=by
 have G:=au.E3;have ay:=H.mJ au.o';have af:=λn ax=>H.lI.1 (G.ep n ax);have aD:=λs aD=>QO (s:=s) au.o' aD;have ag:c7 (d.1,H.eo d.2 [] []):=⟨au.gY,au.u2,H.JL ay (by simp) (by simp) (by simp) (by simp),au.yW⟩
 have bH:ij (d.1,H.eo d.2 [] [])=(d.1,H.eo d.2 [] []):=ar4 ag ⟨show H.dn []=[] by decide,show H.gi [] []=[] by decide⟩;have f1:rm (lj d.2)=d.2.2.1:=by
  unfold rm lj;rw[List.flatMap_append,List.flatMap_map,List.flatMap_map,BW _ λn ax=>by rw[(QP (af n ax)).2],QR (g:=id) _ λs h=>by rw[(QQ (aD s h)).2];rfl];simp
 have f2:y4 (lj d.2)=d.2.2.2.1:=by
  unfold y4 lj;rw[List.flatMap_append,List.flatMap_map,List.flatMap_map,QR (g:=id) d.2.2.2.1 λn ax=>by rw[(QP (af n ax)).2];rfl,BW _ λs h=>by rw[(QQ (aD s h)).2]];simp
 have gH:∀ t∈lj d.2,(Ff t/\t.length<=10000)/\H.b' (H.eo (H.eo d.2 [] []) (iW t).1 (iW t).2)=0:=by
  intro t aF;unfold lj at aF;rw[List.mem_append]at aF;rcases aF with aF | aF
  ·obtain⟨n,ax,rfl⟩:=List.mem_map.1 aF;obtain⟨m1,m2⟩:=QP (af n ax);rw[m2];refine⟨⟨m1,Nat.le_trans (abg (af n ax)) (by decide)⟩,H.JL ay (by simp) (by simp) (by simp) λk ak=>?_⟩;rw[List.mem_singleton.1 ak];exact G.ep n ax
  ·obtain⟨s,h,rfl⟩:=List.mem_map.1 aF;obtain⟨m1,m2⟩:=QQ (aD s h);rw[m2];refine⟨⟨m1,Nat.le_trans (abf (aD s h)) (by decide)⟩,H.JL ay (by simp) (λk ak=>?_) (by simp) (by simp)⟩;rw[List.mem_singleton.1 ak];exact h
 have aty:=Qu d.2.2.1;have hu:(H.gi [] d.2.2.2.1).length<=d.2.2.2.1.length:=(QM _ _).length_le_of_subset λx ai=>by
  unfold H.gi at ai;simpa using (List.mem_filter.1 ai).2
 have g1:r3 (H.eo d.2 [] []) d.2.2.1 d.2.2.2.1:=⟨ay.og,by have:=G.dP;exact Nat.le_trans aty this,by have:=G.hZ;exact Nat.le_trans hu this,G.ids⟩
 have g0:r3 (H.eo d.2 [] []) [] []:=g1.mono (by simp) (by simp);have tU:kM (H.eo d.2 [] []) [] []=H.eo d.2 [] []:=atw (d:=(d.1,H.eo d.2 [] [])) ⟨show H.dn []=[] by decide,show H.gi [] []=[] by decide⟩;obtain⟨b8,cw⟩:=abe (H.eo d.2 [] []) d.1 (lj d.2) [] [] g0 (by rw[tU];exact ag) λt aF=>(gH t aF).1;rw[tU,List.nil_append,List.nil_append,f1,f2]at b8 cw;have ok:=cw (λt aF=>(gH t aF).2) g1;rw[bH];exact⟨ok,(b8 ok).1,ag⟩
theorem atz{d:bd}(au:c7 d):H.gU d.2 (H.eo d.2 (H.dn d.2.2.1) (H.gi [] d.2.2.2.1)):=by
 have G:=au.E3;have ay:=H.mJ au.o';refine H.atr ay (Nat.le_trans (Qu _) G.dP) (H.QL ay.og G.ids) (Nat.le_trans ((QM _ _).length_le_of_subset λx ai=>?_) G.hZ) λn=>?_
 ·unfold H.gi at ai;simpa using (List.mem_filter.1 ai).2
 ·unfold H.gi;simp only[List.mem_filter,oW,List.contains_nil,Bool.false_or,List.contains_iff_mem];exact⟨λh=>h.2,λh=>⟨H.lI.1 (G.ep n h),h⟩⟩
abbrev Fg:aO:=⟨H.iA,u0,λc=>H.b' c=0,lj⟩
theorem atA(x):A.le (Y7 JI.sh x) (Fg.sh x):=A.bw λh=>by
 change H.b' x=0 at h;have G:=H.yP h;have dP:=G.dP;have hZ:=G.hZ;unfold Y7;show _=A.pure (lj x);rw[A.f_ x.2.2.1 (λi (o:List aR)=>((i:Int),x,o,())) (λn o=>.next (o++[y5 n])) (λo=>.next (x,o,())) (λi o=>o.length=i) [] ?_ rfl ?_ ?_]
 ·rw[eL,sR,A.aK,A.b7,List.nil_append];rw[A.f_ x.2.1 (λi (o:List aR)=>((i:Int),x,o,())) (λs o=>.next (o++[wS s])) (λo=>.next (o,())) (λi o=>o.length=x.2.2.1.length+i) (x.2.2.1.map y5) ?_ (by simp) ?_ ?_]
  ·rw[eL,sR,A.aK];rfl
  ·rfl
  ·intro i G o ag;have hw:=bF (n:=(i:Int)+1) (by omega) (by omega);obtain⟨aQ,aS,bN,fm,l2,pA⟩:=QO h (List.getElem_mem G);refine⟨?_,λbe cY=>?_⟩
   ·simp only[bZ,cX G,if_true,dk G,cP G,A.br,cp];unfold wS;by_cases ak:x.2.1[i].2.2.2.1=1
    ·rw[if_pos (decide_eq_true ak),if_pos ak,QI (by decide) (by simp) (by simp;omega),A.aK,A.bq (fw (by simp only[hO];omega)),A.aK,A.b7];simp only[hw];rfl
    ·rw[if_neg (by simpa using ak),if_neg ak,QI (by decide) (by simp) (by simp;omega),A.aK,A.bq (fw (by simp only[hO];omega)),A.aK,A.b7];simp only[hw];rfl
   ·simp only[W.next.injEq]at cY;subst cY;simp[ag];omega
  ·simp
 ·rfl
 ·intro i ds o ag;have hw:=bF (n:=(i:Int)+1) (by omega) (by omega);have af:=H.lI.1 (G.ep _ (List.getElem_mem ds));refine⟨?_,λbe cY=>?_⟩
  ·simp only[bZ,cX ds,if_true,dk ds,cP ds,A.br,cp,hw];rw[QI (by decide) (by simp) (by simp;omega),A.aK,A.bq (fw (by simp only[hO];omega))];rfl
  ·simp only[W.next.injEq]at cY;subst cY;simp[ag]
 ·simp
theorem atB(x):A.le (an1 x) (E8.sh x):=asf x
abbrev Fh:aO:=⟨.aB H.iA (.aB H.iA (.st (.aB bp (.aB bp (.aB bp bp))))),.bool,λx=>H.fy x.1/\H.fy x.2.1/\H.gU x.2.1 x.1,λ_=>true⟩
theorem atC(x):A.le (Y8 H.uE.sh H.yn.sh H.yo.sh H.yp.sh E8.sh x) (Fh.sh x):=A.bw λh=>by
 obtain⟨a,b,g,u,m,s⟩:=x;obtain⟨E,U,ah⟩:H.fy a/\H.fy b/\H.gU b a:=h;unfold Y8;show _=A.pure true;simp only[show ∀ y,H.yn.sh (a,y)=A.pure (H.uF a y) from λy=>A.bR E _,show ∀ y,H.yn.sh (b,y)=A.pure (H.uF b y) from λy=>A.bR U _,show ∀ y,H.yp.sh (a,y)=A.pure (H.ns a y.1 y.2) from λy=>A.bR E _,show ∀ y,H.yp.sh (b,y)=A.pure (H.ns b y.1 y.2) from λy=>A.bR U _,show ∀ y,H.yo.sh (a,y)=A.pure (H.uG a y) from λy=>A.bR E _,show ∀ y,H.yo.sh (b,y)=A.pure (H.uG b y) from λy=>A.bR U _,show ∀ y,H.uE.sh (a,y)=A.pure (H.rN a y) from λy=>A.bR E _,show ∀ y,H.uE.sh (b,y)=A.pure (H.rN b y) from λy=>A.bR U _,A.aK,ah.ato,ah.atp,ah.ik,ah.atn];have:=aai b u m;rw[asg (by omega)];simp[A.lE]
theorem acV(x:bd×Int×Int×Int×Int)(E:fB x.1.1)(U:H.jE x.1.2):O8 E_.sh r2.sh Fa.sh Fc.sh u3.sh Fb.sh Fg.sh H.g_.sh Fh.sh x=A.pure true:=by
 obtain⟨d,f⟩:=x;change fB d.1 at E;change H.jE d.2 at U;unfold O8;rw[ati E U,A.aK,show r2.sh d=A.pure (kr d) from A.bR ⟨E,U⟩ _,A.lE,A.aK,atd];by_cases hc:u5 d []=false/\kr d=0
 ·obtain⟨ao,he⟩:=hc;obtain⟨au,_⟩:=atj E U ao he;rw[if_neg (by simp[ao,he])];have G:=au.E3;have af:=λn ax=>H.lI.1 (G.ep n ax);obtain⟨b8,cw,ag⟩:=atx au;have a_:=atz au;have aa:∀ t∈lj d.2,t.length<=10000:=λt aF=>by
   unfold lj at aF;rw[List.mem_append]at aF;rcases aF with aF | aF
   ·obtain⟨n,ax,rfl⟩:=List.mem_map.1 aF;exact Nat.le_trans (abg (af n ax)) (by decide)
   ·obtain⟨s,h,rfl⟩:=List.mem_map.1 aF;exact Nat.le_trans (abf (QO au.o' h)) (by decide)
  have atD:(lj d.2).length<=40:=by
   have:=G.dP;have:=G.hZ;unfold lj;rw[List.length_append,List.length_map,List.length_map];omega
  rw[show Fg.sh d.2=A.pure (lj d.2) from A.bR au.o' _,A.aK,ath au,A.aK];have M:u3.sh ((d.1,d.2.1,[],[],d.2.2.2.2),lj d.2)=_:=aaI ag atD aa;rw[M,A.aK];have ak:=aay (Qv ag) aa;have al:=arh (ij (d.1,H.eo d.2 [] [])) (lj d.2);rw[cw]at ak ⊢;generalize (iV (ij (d.1,H.eo d.2 [] [])) (lj d.2)).1=a at *
  rw[show Fb.sh (a,Int.ofNat (lj d.2).length)=A.pure true from A.bR ⟨b8,by rw[al];rfl,by show a.length<2 ^ 63;omega⟩ _,A.lE,A.aK];have dr:H.g_.sh (H.eo d.2 (H.dn d.2.2.1) (H.gi [] d.2.2.2.1))=A.pure 0:=by
   have e:H.g_.sh (H.eo d.2 (H.dn d.2.2.1) (H.gi [] d.2.2.2.1))=A.pure (H.b' (H.eo d.2 (H.dn d.2.2.1) (H.gi [] d.2.2.2.1))):=A.bR ak.jE _;rw[e,ak.o']
  have dI:Fh.sh (H.eo d.2 (H.dn d.2.2.1) (H.gi [] d.2.2.2.1),d.2,f)=A.pure true:=A.bR ⟨ak.fy,au.fy,a_⟩ _;simp[dr,dI,A.lE]
 ·rw[if_pos (by simp;grind),A.aK]
end Go.Fer.aw
namespace Go.Fer.ox
open Go.Proofs Go.Proofs.Tryz
open A (W)
set_option maxRecDepth 100000
noncomputable section
abbrev L:cE:=.eP
abbrev S(a b:cE):cE:=.seq a b
abbrev cn:cE:=S L L
abbrev C(a b:cE):cE:=.cond a b
abbrev B(a:cE):cE:=.block a
abbrev J(s:List (Nat×bY))(b:List (Nat×b3))(x y:cE):cE:=.join ⟨s,b⟩ x y
abbrev aw(s:List (Nat×bY))(b:List (Nat×b3))(x:cE):cE:=.loop ⟨s,b⟩ x
abbrev cf(s:List (Nat×bY))(b:List (Nat×b3))(t:List (Nat×bY))(c:List (Nat×b3))(u:List (Nat×bY))(d:List (Nat×b3))(x y:cE):cE:=.range ⟨s,b⟩ ⟨t,c⟩ ⟨u,d⟩ x y
abbrev v2:bY:=.val t2
abbrev a2:b3:=.bh t2
abbrev v4:bY:=.val t4
abbrev v9:bY:=.val t9
abbrev a9:b3:=.bh t9
abbrev v22:bY:=.val t22
abbrev p4:bY:=.val DN
abbrev qU:bY:=.val HC
abbrev QS:b3:=.gg oa
abbrev er:bY:=.val e0
abbrev Fi:b3:=.bh e0
abbrev v28:bY:=.val t28
abbrev BF:bY:=.val HD
abbrev p5:bY:=.val Ay
abbrev BG:b3:=.gg t32
abbrev nL:bY:=.val qz
abbrev p6:bY:=.val ob
abbrev abh:b3:=.gg Nd
abbrev BH:b3:=.gg tu
abbrev Fj:b3:=.gg wY
abbrev BI:b3:=.bh Ax
abbrev r4:bY:=.val U5
abbrev JN:b3:=.bh x4
abbrev QT:b3:=.gg x4
abbrev QU:b3:=.bh vK
abbrev wT:b3:=.bh rE
abbrev atE:b3:=.gg rE
abbrev QV:b3:=.bh x5
abbrev abi:b3:=.gg x5
abbrev atF:bY:=.val Ng
abbrev Fk:b3:=.gg qA
abbrev abj:bY:=.val U7
abbrev BJ:bY:=.val DO
abbrev abk:bY:=.val jd
abbrev wU:b3:=.bh jd
abbrev QW:bY:=.val vL
abbrev abl:bY:=.val U8
abbrev abm:bY:=.val pF
abbrev Fl:b3:=.bh pF
abbrev atG:bY:=.val U9
abbrev abn:bY:=.val Ni
abbrev abo:bY:=.val Nj
abbrev gV:b3:=.bh qB
abbrev y6:b3:=.gg qB
abbrev QX:bY:=.val Nk
abbrev kN:bY:=.val oV
abbrev atH:bY:=.val Vd
abbrev abp:b3:=.gg Nf
abbrev BK:b3:=.bh Av
abbrev abq:b3:=.gg Av
abbrev atI:bY:=.val HB
abbrev Fm:b3:=.bh vJ
abbrev abr:b3:=.bh Aw
abbrev abt:b3:=.gg Aw
abbrev atJ:bY:=.val Ve
abbrev QY:bY:=.val Nn
abbrev v228:bY:=.val t228
abbrev atK:bY:=.val Vh
abbrev atL:bY:=.val Vi
abbrev atM:bY:=.val Vj
abbrev BL:bY:=.val Vk
abbrev atN:bY:=.val Vl
abbrev atO:bY:=.val Vm
abbrev JO:bY:=.val DQ
abbrev nB:List (Nat×bY):=[(6,.ba 17 0),(56,.hJ [30000,30001,30002,30003,30004,30005,30006,30007,30008,30009]),(57,v2)]
abbrev nM:List (Nat×bY):=[(1,.ba 1 0)]
abbrev abu:List (Nat×bY):=[(1,.ba 1 0),(2,.ba 2 0),(3,.ba 1 0),(38,v2),(39,v2)]
abbrev abv:List (Nat×bY):=[(2,.ba 2 0),(7,.ba 22 0),(8,.ba 8 0),(9,.ba 9 0),(10,.own 10),(11,.ba 11 0),(24,v22),(25,v2),(26,v2)]
abbrev abw:List (Nat×bY):=[(2,.ba 2 0),(3,.ba 3 0),(4,.own 4),(5,.own 5),(7,QW),(8,v2),(9,v2),(23,v2),(29,QX),(30,v2),(31,v2)]
abbrev tq:List (Nat×bY):=[(1,.ba 1 0),(3,v2)]
abbrev abx:List (Nat×bY):=[(2,.ba 2 0),(7,.ba 30 0),(10,v2),(11,v2),(46,v2),(47,v2),(52,p4),(53,v2),(54,v2),(61,v2),(62,v2)]
abbrev atP:List (Nat×bY):=[(1,.ba 1 0),(2,.ba 2 0),(3,.ba 1 0),(5,.ik 22),(38,v2),(39,v2),(60,v2),(61,v2)]
abbrev aby:List (Nat×bY):=[(0,kN),(1,er),(2,v2),(3,.hg),(9,v2),(29,v28),(30,v2),(31,v2),(1000000,.aW e0)]
abbrev abz:List (Nat×bY):=[(0,kN),(1,.own 200001),(2,p5),(3,v2),(4,.fJ 100002),(16,nL),(17,v2),(18,v2)]
abbrev QZ:List (Nat×bY):=[(1,.ba 1 0),(2,.ba 2 0)]
abbrev abA:List (Nat×bY):=[(2,.ba 2 0),(3,.ba 3 0),(4,.own 4),(5,.own 5),(7,QW),(8,v2),(9,v2),(23,v2)]
abbrev abB:List (Nat×bY):=[(2,.ba 2 0),(7,.ba 30 0),(10,v2),(46,v2),(47,v2),(52,p4),(53,v2),(54,v2)]
abbrev abC:List (Nat×bY):=[(0,.hg),(2,.dV vL),(10,abo),(11,v2),(1000000,.aW (.aB jd t2))]
abbrev Q0:List (Nat×bY):=[(1,.ba 1 0),(2,.ba 2 0),(3,.ba 3 0),(4,v2)]
abbrev abD:List (Nat×bY):=[(2,v2),(6,.ba 6 0),(8,.ba 8 0),(9,v4),(17,abn),(18,v2),(19,v2)]
abbrev abE:List (Nat×bY):=[(4,.ba 4 0),(5,.ba 5 0),(10,.fJ 24),(28,QX),(29,v2),(30,v2)]
abbrev abF:List (Nat×bY):=[(2,.ba 2 0),(3,.ba 3 0),(4,.own 4),(5,.own 5),(7,QW),(23,v2)]
abbrev BM:List (Nat×bY):=[(1,.ba 1 0),(5,v2)]
abbrev abG:List (Nat×bY):=[(0,abj),(1,v2),(2,v2),(3,v2),(9,v2),(18,er),(19,v2),(20,v2)]
abbrev abH:List (Nat×bY):=[(1,v2),(6,kN),(8,.own 8),(9,.own 50260),(29,v2),(30,v2)]
abbrev abI:List (Nat×bY):=[(1,r4),(2,.ba 2 0),(5,v2),(6,v2),(7,v2),(8,v2),(10,v2)]
abbrev JP:List (Nat×bY):=[(1,.ba 1 0),(3,v2),(4,v2)]
abbrev abJ:List (Nat×bY):=[(1,atG),(4,.ba 4 0),(5,v4),(13,QX),(14,v2),(15,v2)]
abbrev abK:List (Nat×bY):=[(0,kN),(1,p5),(5,.own 50140),(6,v2),(16,v2),(17,v2)]
abbrev jD:List (Nat×b3):=[(17,.cells DP [er,.own 30000,.own 30001,.own 30002,.own 30003,.own 30004,.own 30005,.own 30006,.own 30007,.own 30008,.own 30009]),(30000,gV),(30001,gV),(30002,gV),(30003,gV),(30004,gV),(30005,gV),(30006,gV),(30007,gV),(30008,gV),(30009,gV),(100000,.cells rF [nL,p6,er,nL,v2,v2,v2,v2,v2,v2,v2,p6,.own 100002]),(100002,Fl)]
abbrev tr:List (Nat×b3):=[(12,y6),(17,.cells DP [er,.own 30000,.own 30001,.own 30002,.own 30003,.own 30004,.own 30005,.own 30006,.own 30007,.own 30008,.own 30009]),(30000,gV),(30001,gV),(30002,gV),(30003,gV),(30004,gV),(30005,gV),(30006,gV),(30007,gV),(30008,gV),(30009,gV),(100000,.cells rF [nL,p6,er,nL,v2,v2,v2,v2,v2,v2,v2,p6,.own 100002]),(100002,Fl)]
abbrev JQ:List (Nat×b3):=[(1,.cells t32 [.own 17,.own 22,v2,.own 27,.own 84,.own 87,.own 90,.own 93,v2]),(2,.cells t32 [.cx,.cx,v2,.cx,.cx,.cx,.cx,.cx,v2]),(17,BK),(22,Fm),(27,BI),(84,a2),(87,QV),(90,QU),(93,wT)]
abbrev abL:List (Nat×b3):=[(1,.cells t32 [.own 17,.own 22,v2,.own 27,er,v28,BF,p5,v2]),(2,.cells t32 [.cx,.cx,v2,.cx,.cx,.cx,.cx,.cx,v2]),(17,BK),(22,.gp vJ (.own 50530)),(27,BI),(50530,abr)]
abbrev wV:List (Nat×b3):=[(2,BG),(28,.mp rE t2),(30,.cells t222 [v22,p4,v2,qU,er,v28,BF,p5,v2,.cx,.fJ 28])]
abbrev abM:List (Nat×b3):=[(1,.cells t32 [.own 17,.own 22,v2,.own 27,er,v28,BF,p5,v2]),(2,.cells t32 [.cx,.cx,v2,.cx,.cx,.cx,.cx,.cx,v2]),(17,BK),(22,Fm),(27,BI)]
abbrev Q1:List (Nat×b3):=[(1,BG),(2,.cells t32 [.cx,.cx,v2,.cx,.cx,.cx,.cx,.cx,v2]),(3,.cells t32 [v22,p4,v2,qU,.own 11,.own 16,.own 20,.own 24,v2]),(11,a2),(16,QV),(20,QU),(24,wT)]
abbrev abN:List (Nat×b3):=[(1,QS),(2,.cells oa [.cx,.cx,v2,.cx]),(3,.cells oa [.own 8,.own 59,v2,.own 12]),(5,.cells vJ [.own 26]),(8,BK),(12,BI),(26,abr),(59,Fm)]
abbrev abO:List (Nat×b3):=[(4,a9),(5,.cells wY [.cx,.cx,v2,.cx,.cx,.cx,.cx,.cx,v2,.cx,.cx,.cx,.cx,v2,v2,v2,v2,v2,v2,v2]),(50230,Fk)]
abbrev abP:List (Nat×b3):=[(1,QS),(2,.cells oa [.cx,.cx,v2,.cx]),(3,.cells oa [.own 8,.own 59,v2,.own 12]),(8,BK),(12,BI),(59,Fm)]
abbrev BN:List (Nat×b3):=[(2,BH),(3,.gL t2),(4,a2),(5,a2)]
abbrev abQ:List (Nat×b3):=[(2,BG),(28,.mp rE t2),(30,.cells t222 [v22,p4,v2,qU,er,v28,BF,p5,v2,.own 109,.fJ 28]),(109,JN)]
abbrev abR:List (Nat×b3):=[(28,.mp rE t2),(30,.cells t222 [v22,p4,v2,qU,er,v28,BF,p5,v2,.own 109,.fJ 28]),(109,JN)]
abbrev abS:List (Nat×b3):=[(100000,.cells rF [nL,p6,er,nL,v2,v2,v2,v2,v2,v2,v2,p6,.own 100002]),(100002,Fl)]
abbrev nN:List (Nat×b3):=[(1,QS)]
abbrev ow:List (Nat×b3):=[(1,BH)]
abbrev abT:List (Nat×b3):=[(2,.gL oa),(22,.cells x6 [v22,p4,v2,qU,.own 61]),(61,Fi)]
abbrev qV:List (Nat×b3):=[(1,BG)]
abbrev Q2:List (Nat×b3):=[(100002,.mp t2 t2),(200001,a2)]
abbrev bH:cE:=S L (C cn L)
abbrev eh:cE:=C L L
abbrev az:cE:=S L eh
abbrev aN:cE:=S L cn
abbrev mQ:cE:=S L bH
abbrev cL:cE:=S L (S eh (S (B mQ) L))
abbrev ee:cE:=S L (S eh (S (B cn) L))
abbrev hv:cE:=S L (S L (S L (J QZ abM (S L (B (aw abu abM (S L (S eh (J abu abL (B (S L (S L (S (.nY 5 L) (S L (B (aw atP abL ee))))))) (.GG 22 L))))))) (S L (J QZ JQ (S L (B (aw [(1,.ba 1 0),(2,.ba 2 0),(100,v2),(101,v2)] JQ ee))) (J QZ JQ (S L (B (aw [(1,.ba 1 0),(2,.ba 2 0),(119,v2),(120,v2)] JQ ee))) cn))))))
abbrev jF:cE:=S L (J [(0,er),(1,v2)] [] az (S L (J [(0,er),(6,v228)] [] az (S L (S L (J [(7,.own 30)] [(30,a2)] (B (aw [(7,.own 30),(8,v2)] [(30,a2)] (S az (B L)))) cn))))))
abbrev kU:cE:=S L (S L (J [(4,.fJ 12)] [(12,.mp t2 jd)] (S L (B (aw [(4,.fJ 12),(13,p6),(14,v2),(15,v2)] [(12,.mp t2 jd)] (S L (S eh (S (B (S L (S mQ L))) L)))))) (S L (J [(9,.own 9)] [(9,wU)] (S L (B (aw [(4,.fJ 12),(9,.own 9),(39,er),(40,v2),(41,v2)] [(9,wU),(12,.jk t2 jd)] ee))) cn))))
abbrev mR:cE:=S az (S (B bH) L)
abbrev kO:cE:=S L (S bH cn)
abbrev tt:cE:=S az (S (B L) L)
abbrev qW:cE:=S L (S L aN)
abbrev BO:cE:=S L (S L (S bH aN))
abbrev Fo:cE:=S az (S (B mQ) L)
abbrev y7:cE:=B (S L (S L az))
abbrev wW:cE:=B (S L az)
abbrev abU:cE:=S L (J [] [] (S L (B (aw [(0,er),(3,v2)] [] mR))) cn)
abbrev abV:cE:=S L (B (aw [(1,.ba 1 0),(4,v2)] qV mR))
abbrev abW:cE:=S L (S L (S L (S L (S L (S L qW)))))
abbrev abX:cE:=S L (S (S L (B (S L (C cn bH)))) cn)
abbrev lk:=cM.mk ⟨[(0,.ba 100000 0),(1,.val e0)],[(100000,.gg qA)]⟩ ⟨[(0,.val t9)],[(100000,.gg qA)]⟩ [none] 2
def atQ:=mk as6 func208 cq aN an7
def atS:=mk atQ func148 H.cq aN H.ala
def atT:=mk atS func147 H.vU aN H.ale
def atU:=mk atT func149 H.vV kO H.alg
def atV:=mk atU func67 H.vZ (S L (S bH (J nM ow (S L (B (aw tq ow mR))) (J nM ow (S L (B (aw [(1,.ba 1 0),(4,v2)] ow mR))) (J nM ow (S L (B (aw BM ow mR))) (J [] [] (S L (B (aw [(1,.ba 1 0),(6,v2)] ow Fo))) cn)))))) H.alN
def atW:=mk atV func68 H.H3 aN H.alk
def atX:=mk atW func26 H.g_ (S L (S bH (J [] [] (S L (B (aw tq ow (S az (J tq ow (B (S L (B (aw JP ow mR)))) L))))) cn))) H.alP
def atY:=mk atX func251 o5 aN aoa
def atZ:=mk atY func316 uO abU aob
def at0:=mk atZ func252 tb (S L (J nM [(1,abt)] (S L (B (aw tq [(1,abt)] mR))) cn)) aod
def at1:=mk at0 func253 pT aN an8
def at2:=mk at1 func317 Bc aN an_
def at3:=mk at2 func254 rQ aN an'
def at4:=mk at3 func179 tc (S L (S bH (J nM nN (S L (B (aw tq nN Fo))) (J nM nN (S L (B (aw BM nN (S az (J BM nN (B (S bH (S L (B (aw [(1,.ba 1 0),(5,v2),(6,v2)] nN mR))))) L))))) (J [] [] (S L (B (aw [(1,.ba 1 0),(7,v2)] nN Fo))) cn))))) aof
def at5:=mk at4 func104 g_ (S L (S bH (J [] [] (S L (B (aw tq nN (S az (J tq nN (B (S L (B (aw JP nN Fo)))) L))))) cn))) aoh
def at6:=mk at5 func105 cq aN ao9
def at7:=mk at6 func180 IH (S L (J [] [] (S L (B (aw [(0,er),(1,v2),(5,v2)] [] mR))) cn)) apb
def aua:=mk at7 func106 IJ kO apl
def aub:=mk aua func107 IK aN apm
def auc:=mk aub func48 pZ (S L (S mQ (S bH (J nM qV abV (J nM qV (S L (B (aw BM qV mR))) (J nM qV (S L (B (aw [(1,.ba 1 0),(6,v2)] qV mR))) (J [] [] (S L (B (aw [(1,.ba 1 0),(7,v2)] qV Fo))) cn))))))) apn
def yb:=mk auc func15 aw.r2 kO aw.ar9
def aud:=mk yb func110 wj (S L (S bH (J nM nN (S L (B (aw tq nN (S az (J tq nN (B (S bH (S L (B (aw JP nN mR))))) L))))) (S bH (J nM nN (S L (B (aw BM nN mR))) cn))))) ao5
def aue:=mk aud func50 I' (S L (S bH (J nM qV (S L (B (aw tq qV mR))) (J nM qV abV (S bH (S L (J BM qV (S L (B (aw [(1,.ba 1 0),(5,v2),(6,v2)] qV tt))) cn))))))) aqO
def auf:=mk aue func51 H.wj (S L (S bH (S bH (S L (J [(3,v2)] [] (S L (B (aw JP ow tt))) cn))))) H.anv
def aug:=mk auf func111 aw.JA (S L (S L (J [(3,.own 5)] [(5,a9)] (S L (B (aw [(0,v9),(3,.own 5),(4,v2)] [(5,a9)] (S az (J [(0,v9),(3,.own 5),(4,v2)] [(5,a9)] (B az) L))))) cn))) aw.asa
def auh:=mk aug func112 aw.Jz (S L (S bH (S L (J [(3,v2)] [] (S L (B (aw [(0,v9),(3,v2),(4,v2)] [] (S az (S (B (S bH L)) L))))) cn)))) aw.ar'
def aui:=mk auh func113 aw.JB (S L qW) aw.asc
def auj:=mk aui func52 aw.JD (S L (S L (J [(3,.own 3),(5,r4)] [(3,a2)] (S L (B (aw [(3,.own 3),(5,r4),(6,v2)] [(3,a2)] (S az (S (B (S L (S bH L))) L))))) (S L (J [] [] (S L (B (aw [(3,.own 3),(5,r4),(8,r4),(9,er),(10,er),(11,v2)] [(3,a2)] mR))) cn))))) aw.asd
def sT:=mk auj func14 aw.E_ (S L (S bH (S L (J [(1,r4),(2,.ba 2 0),(5,v2),(6,v2),(7,v2),(8,v2)] [(2,Fj)] (S L (B (aw [(1,r4),(2,.ba 2 0),(5,v2),(6,v2),(7,v2),(8,v2),(9,v2)] [(2,Fj)] tt))) (J [(2,.ba 2 0),(5,v2),(6,v2),(7,v2),(8,v2)] [(2,Fj)] (S L (B (aw abI [(2,Fj)] (S az (J abI [(2,Fj)] (B (S bH (S L (B (S L (C L (S L (C L (S L (C cn az)))))))))) L))))) cn))))) aw.asi
def auk:=mk sT func276 (k4 j0) (S L (J [] [] (S L (B (aw [(0,qU),(1,atJ),(7,v2),(8,v2)] [] cL))) cn)) (sW j0)
def aul:=mk auk func206 (jf j0) aN (sX j0)
def aum:=jV aul [] func207 (wz j0) 1 aN (EF j0)
def aun:=l_ aum [(207,1)] func144 (jC j0) aN (EG j0)
def auo:=mk aun func145 cq aN aoq
def aup:=mk auo func266 yz aN aos
def auq:=mk aup func267 o5 aN aor
def aur:=mk auq func265 Iz aN aoz
def aus:=mk aur func292 (k4 bp) (S L (J [] [] (S L (B (aw [(0,er),(1,abl),(7,v2),(8,v2)] [] cL))) cn)) (sW bp)
def aut:=mk aus func227 (jf bp) aN (sX bp)
def auu:=jV aut [] func331 (wz bp) 1 aN (EF bp)
def auv:=l_ auu [(331,1)] func269 (jC bp) aN (EG bp)
def auw:=mk auv func270 uO abU aov
def auy:=l_ auw [] func268 tb aN aoA
def auz:=mk auy func372 (k4 qJ) (S L (J [] [] (S L (B (aw [(0,atI),(1,atM),(7,v2),(8,v2)] [] cL))) cn)) (sW qJ)
def auA:=mk auz func332 (jf qJ) aN (sX qJ)
def auB:=jV auA [] func333 (wz qJ) 1 aN (EF qJ)
def auC:=l_ auB [(333,1)] func272 (jC qJ) aN (EG qJ)
def auD:=jV auC [] func271 Bg 1 aN aoB
def auE:=mk auD func64 pT aN aot
def auF:=mk auE func65 rQ aN aou
def auG:=jV auF [] func273 Bh 1 aN aoC
def auH:=mk auG func373 (k4 kK) (S L (J [] [] (S L (B (aw [(0,v22),(1,atN),(7,v2),(8,v2)] [] cL))) cn)) (sW kK)
def auI:=mk auH func334 (jf kK) aN (sX kK)
def auJ:=jV auI [] func335 (wz kK) 1 aN (EF kK)
def auK:=l_ auJ [(335,1)] func274 (jC kK) aN (EG kK)
def auL:=mk auK func374 (k4 k9) (S L (J [] [] (S L (B (aw [(0,p4),(1,atO),(7,v2),(8,v2)] [] cL))) cn)) (sW k9)
def auM:=mk auL func336 (jf k9) aN (sX k9)
def auN:=jV auM [] func337 (wz k9) 1 aN (EF k9)
def auO:=l_ auN [(337,1)] func275 (jC k9) aN (EG k9)
def auP:=l_ auO [(271,1),(273,1)] func205 tc (S L (S L qW)) aoD
def auQ:=mk auP func141 g_ (S L (S bH (S L (J [] [] (S L (B (aw [(3,.fJ 12),(14,qU),(15,v2),(16,v2)] [(12,.mp rE t2)] (S L (S eh (S (B (S L (S L (S mQ L)))) L)))))) cn)))) aoH
def auR:=mk auQ func164 cq aN ao8
def auS:=mk auR func220 rT aN ao_
def auT:=mk auS func221 IG (S L (J [] [] (S L (B (aw [(0,er),(1,abl),(7,er),(8,v2),(9,v2)] [] cL))) cn)) apa
def auU:=jV auT [] func222 EK 1 aN ape (hc:=λx h=>by obtain⟨w,p,ao,_⟩:=h;exact sO ⟨⟨trivial,rG (congrArg (λo=>o.1) ao)⟩,rG (congrArg (λo=>o.2) ao)⟩)
def auV:=jV auU [(222,1)] func219 EL 1 aN apf (hc:=λx h=>by obtain⟨_,w,ao,_⟩:=h;exact sO ⟨trivial,rG ao⟩)
def auW:=mk auV func224 rT aN ao'
def auX:=l_ auW [] func223 EM aN apg
def auY:=jV auX [] func225 EN 1 aN aph (hc:=λx h=>by obtain⟨w,ao,_⟩:=h;exact sO ⟨trivial,rG ao⟩)
def auZ:=mk auY func226 EO aN api
def au0:=mk auZ func293 (k4 ny) (S L (J [] [] (S L (B (aw [(0,v28),(1,atK),(7,v2),(8,v2)] [] cL))) cn)) (sW ny)
def au1:=mk au0 func228 (jf ny) aN (sX ny)
def au2:=mk au1 func294 (k4 mN) (S L (J [] [] (S L (B (aw [(0,BF),(1,atH),(7,v2),(8,v2)] [] cL))) cn)) (sW mN)
def au3:=mk au2 func229 (jf mN) aN (sX mN)
def au4:=mk au3 func295 (k4 pX) (S L (J [] [] (S L (B (aw [(0,p5),(1,atL),(7,v2),(8,v2)] [] cL))) cn)) (sW pX)
def au5:=mk au4 func230 (jf pX) aN (sX pX)
def au6:=l_ au5 [(219,1),(225,1)] func171 Po (S L (S L (S L qW))) apj
def Q3:=mk au6 func100 pZ (S L (S mQ (S bH cn))) apk
def abY:cM:=⟨⟨[(0,.cx),(1,.val Nl)],[]⟩,⟨[(0,.own 50000)],[(50000,.bh t2)]⟩,[none],2,H.AO⟩
theorem au7:cS Tryz.prog dE 213 abY:=d' Q3 [] trivial func213 (S L (S (S L (B (cf [(2,.ba 2 0)] [(2,.cells e0 [.own 50000]),(50000,a2)] [(2,.ba 100002 0),(7,v2)] [(100002,.cells e0 [.own 150000]),(150000,a2)] [] [(100002,.cells e0 [.own 150000]),(150000,a2)] L (B L)))) cn)) H.alH
def abZ:cM:=⟨⟨[(0,.val Nl)],[]⟩,⟨[(0,.own 50040)],[(50040,.bh t2)]⟩,[none],1,H.AO⟩
theorem au8:cS Tryz.prog dE 160 abZ:=d' Q3 [(213,.fc abY)] ⟨au7,trivial⟩ func160 aN H.alI
def Q4:=pI Q3 mF [(160,.fc abZ),(161,.fc QF)] ⟨au8,aa3,trivial⟩ func86 H.sY qW H.alJ
def ab0:cM:=⟨⟨[(0,.hg),(1,.dV HF),(1000000,.aW t2)],[]⟩,⟨[(1000000,.aW t2)],[]⟩,[],2,H.Ob⟩
theorem au9:cS Tryz.prog dE 277 ab0:=d' (S:=H.Ob) Q4 [] trivial func277 (S L (B (aw [(0,.hg),(5,.j6 5),(1000000,.aW t2)] [(5,.ct t2 jd)] (S L (S eh wW))))) (λx=>A.le_refl _)
theorem au_:w5 Tryz.prog 277 ⟨[HF],t2,H.jY⟩:=M' (c:=ab0) au9 mF (λx l L=>(l,x.getD [],(l,L,[],false),())) rfl (by decide) (by simp[gn])
 (λx l L i ai=>by
  obtain⟨T,aV⟩:=ai;obtain⟨m,hm,_⟩:=aV;subst hm;by_cases aY:i=0
  ·subst aY;exact .inr (.inr (.inl ⟨rfl,rfl⟩))
  ·by_cases E:i=1
   ·subst E;exact .inr (.inl ⟨by decide,by decide,_,_,rfl,rfl⟩)
   by_cases U:i=b5
   ·subst U;exact .inr (.inr (.inr ⟨rfl,rfl⟩))
   ·refine .inl ?_;exact (if_neg aY).trans ((if_neg E).trans (if_neg U)))
 rfl (λbn=>⟨_,_,_,_,rfl⟩) (λx l ai=>by
  obtain⟨T,aV⟩:=ai;obtain⟨m,hm,_⟩:=aV;subst hm;have h:=H.amH l m;refine⟨h.1,λbn gh dJ e8 p fp=>?_⟩;have e:aI.aW bn.1.1 t2 bn.1.2.1 bn.1.2.2.1 bn.1.2.2.2=.aW dJ t2 e8 p false:=fp;injection e with az aN cL ee hv
  rw[<-ee];exact h.2 bn gh hv)
def au':=pI Q4 (Q4.u [] [(277,⟨[HF],t2,H.jY⟩)] ⟨au_,trivial⟩) [] trivial func210 H.yh aN H.alM
def ava:=mk au' func154 H.AS kU H.alX
def avb:=mk ava func85 H.cq aN H.alb
def avc:=mk avb func209 (H.k4 H.hq) (S L (J [] [] (S L (B (aw [(0,p6),(1,QY),(7,v2),(8,v2)] [] cL))) cn)) H.alm
def avd:=mk avc func151 (H.jf H.hq) aN H.aln
def ave:=mk avd func231 H.vU (S L (J nM [(1,abh)] (S L (B (aw [(1,.ba 1 0),(13,.own 13),(14,v2),(15,v2)] [(1,abh),(13,a2)] cL))) cn)) H.alf
def avf:=mk ave func76 H.vT aN H.ald
def avg:=mk avf func233 H.vV (S L aN) H.alh
def avh:=jV avg [] func232 H.Ec 1 aN H.ali
def avi:=mk avh func234 H.AL aN H.alj
def avj:=l_ avi [(232,1)] func172 H.vZ (S L (S bH (J nM ow (S L (B (aw [(1,.ba 1 0),(38,nL),(39,v2),(40,v2)] ow cL))) (J nM ow (S L (B (aw [(1,.ba 1 0),(57,nL),(58,v2),(59,v2)] ow cL))) (S L aN))))) H.alO
def avk:=mk avj func101 H.g_ (S L (S bH (S mQ cn))) H.alZ
def avl:=mk avk func46 aw.r2 kO aw.ar1
def Q5:=pI avl mF [(256,.fc aa5)] ⟨as5,trivial⟩ func184 H.Jf (S L (S L (J [(0,BL),(3,v2)] [] (S L (B (aw [(0,BL),(3,v2),(9,BL),(10,v2),(11,v2)] [] (S L (S eh (J [(0,BL),(3,v2),(9,BL),(10,v2),(11,v2)] [] y7 L)))))) (S L (J [(6,.own 50240)] [(50240,wU)] (S L (B (aw [(6,.own 50240),(25,BL),(26,v2),(27,v2)] [(50240,wU)] ee))) cn))))) H.aqX
def ab1:cM:=⟨⟨[(0,.val DO)],[]⟩,⟨[(0,.own 50240)],[(50240,.bh t3)]⟩,[none],1,H.Jg⟩
theorem avm:cS Tryz.prog dE 185 ab1:=d' Q5 [(257,.fc aa4)] ⟨as4,trivial⟩ func185 (S L (S L (J [(0,BJ),(3,v2)] [] (S L (B (aw [(0,BJ),(3,v2),(9,BJ),(10,v2),(11,v2)] [] (S L (S eh (J [(0,BJ),(3,v2),(9,BJ),(10,v2),(11,v2)] [] y7 L)))))) (S L (J [(6,.own 50240)] [(50240,a2)] (S L (B (aw [(6,.own 50240),(25,BJ),(26,v2),(27,v2)] [(50240,a2)] ee))) cn))))) H.aqY
def ab2:cM:=⟨⟨[(0,.own 200001)],[(200001,.bh t3)]⟩,⟨[(0,.sub 200001)],[(200001,.bh t3)]⟩,[none],1,H.Ji⟩
theorem avn:cS Tryz.prog dE 186 ab2:=d' Q5 [] trivial func186 (S L (S bH (J [(0,.own 200001)] [(200001,a2)] (S L (B (aw [(0,.own 200001),(3,v2)] [(200001,a2)] (S az (J [(0,.own 200001),(3,v2)] [(200001,a2)] (B (S L (C (S L (J [(0,.own 200001),(3,v2)] [(200001,a2)] (S L (B (aw [(0,.own 200001),(3,v2),(4,.sub 200001),(5,v2)] [(200001,a2)] (S az (J [(0,.own 200001),(3,v2),(4,.sub 200001),(5,v2)] [(200001,a2)] (B bH) L))))) aN)) L))) L))))) cn))) H.aq4
def avo:=mk Q5 func187 H.E0 kO H.ara
def u7:=pI avo mF [(161,.fc QF),(185,.fc ab1),(186,.fc ab2)] ⟨aa3,avm,avn,trivial⟩ func117 H.By (S L (S mQ (S L (S L (S mQ (S L (S bH (S L BO)))))))) H.arc
def avp:cM:=⟨⟨[(0,.val t22)],[]⟩,⟨[(0,.own 60)],[(60,.bh Av)]⟩,[none],1,aw.qS⟩
theorem avq:cS Tryz.prog dE 188 avp:=d' u7 [] trivial func188 kO aw.wO
abbrev Q6:e7:=.kG (hK.kG (aw.fS kK).dx)
theorem ab3:e7.hE Tryz.prog dE 188 Q6:=y3 (sh:=(aw.fS kK).sh) avq (λx h=>⟨h,λbn gh=>by have h:bn=_:=gh;subst h;exact (A.gQ).symm⟩)
def avr:cM:=⟨⟨[(0,.val DN)],[]⟩,⟨[(0,.own 60)],[(60,.bh vJ)]⟩,[none],1,aw.qS⟩
theorem avt:cS Tryz.prog dE 189 avr:=d' u7 [] trivial func189 kO aw.wO
abbrev Q7:e7:=.kG (hK.kG (aw.fS k9).dx)
theorem ab4:e7.hE Tryz.prog dE 189 Q7:=y3 (sh:=(aw.fS k9).sh) avt (λx h=>⟨h,λbn gh=>by have h:bn=_:=gh;subst h;exact (A.gQ).symm⟩)
def avu:cM:=⟨⟨[(0,.val HC)],[]⟩,⟨[(0,.own 60)],[(60,.bh Ax)]⟩,[none],1,aw.qS⟩
theorem avv:cS Tryz.prog dE 190 avu:=d' u7 [] trivial func190 kO aw.wO
abbrev Q8:e7:=.kG (hK.kG (aw.fS j0).dx)
theorem ab5:e7.hE Tryz.prog dE 190 Q8:=y3 (sh:=(aw.fS j0).sh) avv (λx h=>⟨h,λbn gh=>by have h:bn=_:=gh;subst h;exact (A.gQ).symm⟩)
def Q9:cM:=⟨⟨[(0,.val HB)],[]⟩,⟨[(0,.own 60)],[(60,.bh Aw)]⟩,[none],1,aw.qS⟩
theorem ab6:cS Tryz.prog dE 191 Q9:=d' u7 [] trivial func191 kO aw.wO
def ab7:cM:=⟨⟨[(0,.val e0)],[]⟩,⟨[(0,.own 60)],[(60,.bh t3)]⟩,[none],1,aw.Jm⟩
theorem ab8:cS Tryz.prog dE 192 ab7:=d' u7 [] trivial func192 kO aw.arG
abbrev Q_:e7:=.kG (hK.kG H.o3.dx)
theorem ab9:e7.hE Tryz.prog dE 192 Q_:=y3 (sh:=H.o3.sh) ab8 (λx h=>⟨h,λbn gh=>by have h:bn=_:=gh;subst h;exact (A.gQ).symm⟩)
def avw:cM:=⟨⟨[(0,.val t28)],[]⟩,⟨[(0,.own 60)],[(60,.bh x5)]⟩,[none],1,aw.qS⟩
theorem avx:cS Tryz.prog dE 193 avw:=d' u7 [] trivial func193 kO aw.wO
abbrev Q':e7:=.kG (hK.kG (aw.fS ny).dx)
theorem ab_:e7.hE Tryz.prog dE 193 Q':=y3 (sh:=(aw.fS ny).sh) avx (λx h=>⟨h,λbn gh=>by have h:bn=_:=gh;subst h;exact (A.gQ).symm⟩)
def avy:cM:=⟨⟨[(0,.val HD)],[]⟩,⟨[(0,.own 60)],[(60,.bh vK)]⟩,[none],1,aw.qS⟩
theorem avz:cS Tryz.prog dE 194 avy:=d' u7 [] trivial func194 kO aw.wO
abbrev JR:e7:=.kG (hK.kG (aw.fS mN).dx)
theorem Ra:e7.hE Tryz.prog dE 194 JR:=y3 (sh:=(aw.fS mN).sh) avz (λx h=>⟨h,λbn gh=>by have h:bn=_:=gh;subst h;exact (A.gQ).symm⟩)
def avA:cM:=⟨⟨[(0,.val Ay)],[]⟩,⟨[(0,.own 60)],[(60,.bh rE)]⟩,[none],1,aw.qS⟩
theorem avB:cS Tryz.prog dE 195 avA:=d' u7 [] trivial func195 kO aw.wO
abbrev Rb:e7:=.kG (hK.kG (aw.fS pX).dx)
theorem ab':e7.hE Tryz.prog dE 195 Rb:=y3 (sh:=(aw.fS pX).sh) avB (λx h=>⟨h,λbn gh=>by have h:bn=_:=gh;subst h;exact (A.gQ).symm⟩)
def aca:=pI u7 mF [(188,Q6),(189,Q7),(190,Q8),(191,.fc Q9),(192,Q_),(193,Q'),(194,JR),(195,Rb)] ⟨ab3,ab4,ab5,ab6,ab9,ab_,Ra,ab',trivial⟩ func118 aw.Jp hv aw.arK
def acb:cM:=⟨⟨[(0,.val wY)],[]⟩,⟨[(0,.ba 17 0)],[(17,.gg qA)]⟩,[none],1,aw.uI⟩
theorem avC:cS Tryz.prog dE 57 acb:=d' aca [] trivial func57 (S L aN) aw.OE
def Fp:=mk aca func58 aw.Jv aN aw.arW
def JS:cM:=⟨⟨[(0,.ba 100000 0),(1,.val ob),(2,.val e0)],[(100000,.gg qA)]⟩,⟨[(0,.val t9)],[(100000,.gg qA)]⟩,[none],3,aw.BA⟩
theorem Rc:cS Tryz.prog dE 196 JS:=d' Fp [] trivial func196 BO aw.arn
def Re:cM:=lk (aw.fA 5 aw.P3)
theorem avD:cS Tryz.prog dE 119 Re:=d' Fp [(196,.fc JS)] ⟨Rc,trivial⟩ func119 aN aw.aro
def avE:cM:=lk (aw.fA 4 aw.P4)
theorem avF:cS Tryz.prog dE 120 avE:=d' Fp [(196,.fc JS)] ⟨Rc,trivial⟩ func120 aN aw.arp
def avG:cM:=lk (aw.fA 1 aw.P5)
theorem avH:cS Tryz.prog dE 121 avG:=d' Fp [(196,.fc JS)] ⟨Rc,trivial⟩ func121 aN aw.OF
def avI:=mk Fp func339 H.H5 aN H.alp
def avJ:=mk avI func280 H.H6 (S L (S L (S L (S (S L (C (S bH cn) L)) (S bH (S bH (S bH cn))))))) H.alq
def avK:=mk avJ func279 H.mb aN H.alr
def avL:=mk avK func211 Iy (S L (J [] [] (S L (B (aw [(0,er),(1,v2),(7,v2),(8,v2)] [] cL))) cn)) aox
def avM:=mk avL func157 o2 aN aoy
def Fq:=jV avM [] func156 H.AZ 1 aN H.OF
abbrev y8:=AA (ajs Fq) [(156,1)] []
def acd:cM:=⟨⟨[(0,.val ob)],[]⟩,⟨[(0,.own 9),(1,.val t4)],[(9,.bh jd)]⟩,[none,none],1,H.Ic⟩
theorem avN:cS Tryz.prog y8 154 acd:=d' Fq [] trivial func154 kU H.alY
def ace:cM:=⟨⟨[(0,.own 200001),(1,.val Nn)],[(200001,.bh jd)]⟩,⟨[(0,.sub 200001)],[(200001,.bh jd)]⟩,[none],2,H.If⟩
theorem avO:cS Tryz.prog y8 155 ace:=d' Fq [] trivial func155 (S L (S L (S bH (J [(0,.own 200001),(5,v2)] [(200001,wU)] (S L (B (aw [(0,.own 200001),(1,QY),(5,v2),(6,v2)] [(200001,wU)] (S az (J [(0,.own 200001),(1,QY),(5,v2),(6,v2)] [(200001,wU)] (B mQ) L))))) aN)))) H.al0
def avP:=mk Fq func192 H.o3 kO H.alo
def avQ:=mk avP func291 H.Og (S L (J [(0,v228),(2,v2)] [] bH (J [(0,v228),(2,v2)] [] bH (J [(0,v228),(2,v2)] [] bH cn)))) H.als
def BP:=mk avQ func215 H.Oh (S L (S (C cn L) cn)) (H.alu (λ_=>A.fail))
def acf:cM:=⟨⟨[(0,.own 200001),(1,.val t2),(2,.val t2),(3,.val DQ)],[(200001,.bh qB)]⟩,⟨[],[(200001,.bh qB)]⟩,[],4,H.H8⟩
theorem avR:cS Tryz.prog y8 375 acf:=d' BP [] trivial func375 (S L (B (aw [(0,.own 200001),(1,v2),(2,v2),(3,JO),(8,v2)] [(200001,gV)] (S az (J [(0,.own 200001),(1,v2),(2,v2),(3,JO),(8,v2)] [(200001,gV)] (B (S L (B (aw [(0,.own 200001),(1,v2),(2,v2),(3,JO),(8,v2),(9,v2)] [(200001,gV)] tt)))) L))))) H.alD
def acg:cM:=⟨⟨[(0,.own 200001),(1,.val t2),(2,.val t2),(3,.val t2),(4,.val DQ)],[(200001,.bh qB)]⟩,⟨[],[(200001,.bh qB)]⟩,[],5,H.H_⟩
theorem avS:cS Tryz.prog y8 338 acg:=d' BP [(375,.fc acf)] ⟨avR,trivial⟩ func338 (S L (S L (B (aw [(0,.own 200001),(1,v2),(2,v2),(3,v2),(4,JO),(10,v4),(11,v4)] [(200001,gV)] (B (S L (S bH L))))))) H.alE
def ach:cM:=⟨⟨[(0,.own 200001),(1,.val DQ)],[(200001,.bh qB)]⟩,⟨[],[(200001,.bh qB)]⟩,[],2,H.AN⟩
theorem avT:cS Tryz.prog y8 278 ach:=d' BP [(338,.fc acg)] ⟨avS,trivial⟩ func278 cn H.alG
def aci:cM:=⟨⟨[(0,.ba 100000 0),(1,.val e0)],[(100000,.cells rF [.val qz,.val ob,.val e0,.val qz,.val t2,.val t2,.val t2,.val t2,.val t2,.val t2,.val t2,.val ob,.own 100002]),(100002,.bh pF)]⟩,⟨[(0,.val pF),(1,.val t4)],[(100000,.cells rF [.val qz,.val ob,.val e0,.val qz,.val t2,.val t2,.val t2,.val t2,.val t2,.val t2,.val t2,.val ob,.own 100002]),(100002,.bh pF)]⟩,[none,none],2,H.uI⟩
theorem avU:cS Tryz.prog y8 212 aci:=d' BP [(278,.fc ach)] ⟨avT,trivial⟩ func212 (S L (J [(0,.ba 100000 0),(1,er),(6,.ba 17 0)] [(17,.cells DP [er,.own 30000,.own 30001,.own 30002,.own 30003,.own 30004,.own 30005,.own 30006,.own 30007,.own 30008,.own 30009]),(100000,.cells rF [nL,p6,er,nL,v2,v2,v2,v2,v2,v2,v2,p6,.own 100002]),(100002,Fl),(30000,gV),(30001,gV),(30002,gV),(30003,gV),(30004,gV),(30005,gV),(30006,gV),(30007,gV),(30008,gV),(30009,gV)] L (J [(6,.ba 17 0)] jD (S L (B (aw [(1,er),(6,.ba 17 0),(21,p6),(22,v2),(23,v2)] jD (S L (S eh (J [(1,er),(6,.ba 17 0),(21,p6),(22,v2),(23,v2)] jD (B (S L (.split 8 4 10 L))) L)))))) (J [(6,.ba 17 0)] jD (S L (B (.n3 (.num 57 0 (S L (S eh (J nB jD (B (S L (S L (S L (B (aw [(6,.ba 17 0),(10,.own 30000),(56,.hJ [30000,30001,30002,30003,30004,30005,30006,30007,30008,30009]),(57,v2),(62,.own 30000),(63,v2),(64,v2)] jD (S L (S eh (S (B (S L (S L (J [(6,.ba 17 0),(10,.own 30000),(11,v2),(12,.ba 12 0),(13,v2),(56,.hJ [30000,30001,30002,30003,30004,30005,30006,30007,30008,30009]),(57,v2),(62,.own 30000),(63,v2),(64,v2)] tr az bH)))) L))))))))) L)))) (.n3 (.num 57 1 (S L (S eh (J nB jD (B (S L (S L (S L (B (aw [(6,.ba 17 0),(10,.own 30001),(56,.hJ [30000,30001,30002,30003,30004,30005,30006,30007,30008,30009]),(57,v2),(62,.own 30001),(63,v2),(64,v2)] jD (S L (S eh (S (B (S L (S L (J [(6,.ba 17 0),(10,.own 30001),(11,v2),(12,.ba 12 0),(13,v2),(56,.hJ [30000,30001,30002,30003,30004,30005,30006,30007,30008,30009]),(57,v2),(62,.own 30001),(63,v2),(64,v2)] tr az bH)))) L))))))))) L)))) (.n3 (.num 57 2 (S L (S eh (J nB jD (B (S L (S L (S L (B (aw [(6,.ba 17 0),(10,.own 30002),(56,.hJ [30000,30001,30002,30003,30004,30005,30006,30007,30008,30009]),(57,v2),(62,.own 30002),(63,v2),(64,v2)] jD (S L (S eh (S (B (S L (S L (J [(6,.ba 17 0),(10,.own 30002),(11,v2),(12,.ba 12 0),(13,v2),(56,.hJ [30000,30001,30002,30003,30004,30005,30006,30007,30008,30009]),(57,v2),(62,.own 30002),(63,v2),(64,v2)] tr az bH)))) L))))))))) L)))) (.n3 (.num 57 3 (S L (S eh (J nB jD (B (S L (S L (S L (B (aw [(6,.ba 17 0),(10,.own 30003),(56,.hJ [30000,30001,30002,30003,30004,30005,30006,30007,30008,30009]),(57,v2),(62,.own 30003),(63,v2),(64,v2)] jD (S L (S eh (S (B (S L (S L (J [(6,.ba 17 0),(10,.own 30003),(11,v2),(12,.ba 12 0),(13,v2),(56,.hJ [30000,30001,30002,30003,30004,30005,30006,30007,30008,30009]),(57,v2),(62,.own 30003),(63,v2),(64,v2)] tr az bH)))) L))))))))) L)))) (.n3 (.num 57 4 (S L (S eh (J nB jD (B (S L (S L (S L (B (aw [(6,.ba 17 0),(10,.own 30004),(56,.hJ [30000,30001,30002,30003,30004,30005,30006,30007,30008,30009]),(57,v2),(62,.own 30004),(63,v2),(64,v2)] jD (S L (S eh (S (B (S L (S L (J [(6,.ba 17 0),(10,.own 30004),(11,v2),(12,.ba 12 0),(13,v2),(56,.hJ [30000,30001,30002,30003,30004,30005,30006,30007,30008,30009]),(57,v2),(62,.own 30004),(63,v2),(64,v2)] tr az bH)))) L))))))))) L)))) (.n3 (.num 57 5 (S L (S eh (J nB jD (B (S L (S L (S L (B (aw [(6,.ba 17 0),(10,.own 30005),(56,.hJ [30000,30001,30002,30003,30004,30005,30006,30007,30008,30009]),(57,v2),(62,.own 30005),(63,v2),(64,v2)] jD (S L (S eh (S (B (S L (S L (J [(6,.ba 17 0),(10,.own 30005),(11,v2),(12,.ba 12 0),(13,v2),(56,.hJ [30000,30001,30002,30003,30004,30005,30006,30007,30008,30009]),(57,v2),(62,.own 30005),(63,v2),(64,v2)] tr az bH)))) L))))))))) L)))) (.n3 (.num 57 6 (S L (S eh (J nB jD (B (S L (S L (S L (B (aw [(6,.ba 17 0),(10,.own 30006),(56,.hJ [30000,30001,30002,30003,30004,30005,30006,30007,30008,30009]),(57,v2),(62,.own 30006),(63,v2),(64,v2)] jD (S L (S eh (S (B (S L (S L (J [(6,.ba 17 0),(10,.own 30006),(11,v2),(12,.ba 12 0),(13,v2),(56,.hJ [30000,30001,30002,30003,30004,30005,30006,30007,30008,30009]),(57,v2),(62,.own 30006),(63,v2),(64,v2)] tr az bH)))) L))))))))) L)))) (.n3 (.num 57 7 (S L (S eh (J nB jD (B (S L (S L (S L (B (aw [(6,.ba 17 0),(10,.own 30007),(56,.hJ [30000,30001,30002,30003,30004,30005,30006,30007,30008,30009]),(57,v2),(62,.own 30007),(63,v2),(64,v2)] jD (S L (S eh (S (B (S L (S L (J [(6,.ba 17 0),(10,.own 30007),(11,v2),(12,.ba 12 0),(13,v2),(56,.hJ [30000,30001,30002,30003,30004,30005,30006,30007,30008,30009]),(57,v2),(62,.own 30007),(63,v2),(64,v2)] tr az bH)))) L))))))))) L)))) (.n3 (.num 57 8 (S L (S eh (J nB jD (B (S L (S L (S L (B (aw [(6,.ba 17 0),(10,.own 30008),(56,.hJ [30000,30001,30002,30003,30004,30005,30006,30007,30008,30009]),(57,v2),(62,.own 30008),(63,v2),(64,v2)] jD (S L (S eh (S (B (S L (S L (J [(6,.ba 17 0),(10,.own 30008),(11,v2),(12,.ba 12 0),(13,v2),(56,.hJ [30000,30001,30002,30003,30004,30005,30006,30007,30008,30009]),(57,v2),(62,.own 30008),(63,v2),(64,v2)] tr az bH)))) L))))))))) L)))) (.n3 (.num 57 9 (S L (S eh (J nB jD (B (S L (S L (S L (B (aw [(6,.ba 17 0),(10,.own 30009),(56,.hJ [30000,30001,30002,30003,30004,30005,30006,30007,30008,30009]),(57,v2),(62,.own 30009),(63,v2),(64,v2)] jD (S L (S eh (S (B (S L (S L (J [(6,.ba 17 0),(10,.own 30009),(11,v2),(12,.ba 12 0),(13,v2),(56,.hJ [30000,30001,30002,30003,30004,30005,30006,30007,30008,30009]),(57,v2),(62,.own 30009),(63,v2),(64,v2)] tr az bH)))) L))))))))) L)))) (.n3 (.num 57 10 (S L (S eh L))) L))))))))))))) cn)))) H.OE
def Rf(f:Nat):cM:=⟨⟨[(0,.ba 100000 0),(1,.val e0)],[(100000,.cells rF [.val qz,.val ob,.val e0,.val qz,.val t2,.val t2,.val t2,.val t2,.val t2,.val t2,.val t2,.val ob,.own 100002]),(100002,.bh pF)]⟩,⟨[],[(100000,.cells rF [.val qz,.val ob,.val e0,.val qz,.val t2,.val t2,.val t2,.val t2,.val t2,.val t2,.val t2,.val ob,.own 100002]),(100002,.bh pF)]⟩,[],2,H.yq f⟩
theorem acj:∀f,cS Tryz.prog y8 158 (Rf f)
 |0=>Nq func158 H.amx
 |f+1=>d' BP [(158,.fc (Rf f)),(212,.fc aci)] ⟨acj f,avU,trivial⟩ func158 (S L (S (S L (C (J [] abS (S L az) L) L)) (S L (B (aw [(0,.ba 100000 0),(1,er),(4,v2),(7,v2)] abS tt))))) (H.amA f)
def avV:=pI BP (Fq.u [(156,1)] [] trivial) [(154,.fc acd),(155,.fc ace),(158,.fc (Rf 5))] ⟨avN,avO,acj 5,trivial⟩ func74 H.we (S L (S mQ (S L (S L (S L (J [(7,.ba 15 0)] [(15,.cells rF [nL,p6,er,nL,v2,v2,v2,v2,v2,v2,v2,.sub 50200,.own 30000]),(50200,wU),(30000,Fl)] bH kO)))))) H.amE
def avW:=mk avV func77 H.A0 (S L (J [(4,.ba 4 0),(5,v4)] [(4,QT)] (S L (B (aw abJ [(4,QT)] (S L (S eh (J abJ [(4,QT)] (B (S L (S L (B (S L (C L az)))))) L)))))) cn)) H.amF
def avX:=jV avW [] func152 H.A5 1 aN H.amZ
def avY:=jV avX [(152,1)] func150 H.OP 1 aN H.am0 (hc:=λx h=>by obtain⟨_,f,ao,_⟩:=h;exact sO ⟨trivial,rG ao⟩)
def Rg:=mk avY func89 H.wa (S L (S L (J [(7,v2)] [] (S L (B (aw [(1,v2),(2,v2),(7,v2),(14,nL),(15,v2),(16,v2)] [] ee))) cn))) H.al9
def ack:cM:=⟨⟨[(0,.hg),(1,.dV pF),(2,.dV vL),(1000000,.aW (.aB jd t2))],[]⟩,⟨[(1000000,.aW (.aB jd t2))],[]⟩,[],3,(H.HX H.wa.sh)⟩
theorem avZ:cS Tryz.prog dE 159 ack:=d' (S:=(H.HX H.wa.sh)) Rg [] trivial func159 (S L (B (aw abC [] (S L (S eh (J abC [] (B (S L (S L (B (aw [(0,.hg),(2,.dV vL),(5,abn),(6,v2),(10,abo),(11,v2),(1000000,.aW (.aB jd t2))] [] (S az (S (B az) L))))))) L)))))) (λx=>A.le_refl _)
theorem av0:w5 Tryz.prog 159 ⟨[pF,vL],(.aB jd t2),H.s_⟩:=M' (c:=ack) avZ mF (λx l L=>(l,x.1.getD none,x.2.getD none,(l,L,[],false),())) rfl (by decide) (by simp[gn])
 (λx l L i ai=>by
  obtain⟨T,aV⟩:=ai;obtain⟨t,b,E,U,aq,_⟩:=aV;obtain⟨xg,xf⟩:=x;change xg=some (some t) at E;change xf=some (some b) at U;subst E;subst U;by_cases aY:i=0
  ·subst aY;exact .inr (.inr (.inl ⟨rfl,rfl⟩))
  ·by_cases E:i=1
   ·subst E;exact .inr (.inl ⟨by decide,by decide,_,_,rfl,rfl⟩)
   by_cases ah:i=2
   ·subst ah;exact .inr (.inl ⟨by decide,by decide,_,_,rfl,rfl⟩)
   by_cases U:i=b5
   ·subst U;exact .inr (.inr (.inr ⟨rfl,rfl⟩))
   ·refine .inl ?_;exact (if_neg aY).trans ((if_neg E).trans ((if_neg ah).trans (if_neg U))))
 rfl (λbn=>⟨_,_,_,_,rfl⟩) (λx l ai=>by
  obtain⟨T,aV⟩:=ai;obtain⟨t,b,E,U,aq,_⟩:=aV;obtain⟨xg,xf⟩:=x;change xg=some (some t) at E;change xf=some (some b) at U;subst E;subst U;have h:=H.amK l t b aq;refine⟨h.1,λbn gh dJ e8 p fp=>?_⟩;have e:aI.aW bn.1.1 (.aB jd t2) bn.1.2.1 bn.1.2.2.1 bn.1.2.2.2=.aW dJ (.aB jd t2) e8 p false:=fp;injection e with az aN cL ee hv
  rw[<-ee];exact h.2 bn gh hv)
def av1:=pI Rg (Rg.u [] [(159,⟨[pF,vL],(.aB jd t2),H.s_⟩)] ⟨av0,trivial⟩) [] trivial func79 H.A1 aN H.amO
def av2:=jV av1 [] func153 H.OQ 1 (S L (S (S L (B (cf [(2,.dV t2),(3,.dV Nh),(5,.ba 5 0),(6,.ba 6 0)] [(5,.cells t2 [v2]),(6,.cells t4 [v4])] [(2,.dV t2),(3,.dV Nh),(5,.ba 100005 0),(6,.ba 100006 0),(12,abk),(13,v2)] [(100005,.cells t2 [v2]),(100006,.cells t4 [v4])] [] [(100005,.cells t2 [v2]),(100006,.cells t4 [v4])] cn (B bH)))) cn)) H.am1 (hc:=λx h=>by obtain⟨_,_,_,_,rfl,_⟩:=h;exact sO ⟨⟨⟨trivial,rfl⟩,rfl⟩,rfl⟩)
def av3:=l_ av2 [(150,1),(153,1)] func70 H.A6 (S L (S L (S bH kO))) H.am2
def av4:=mk av3 func71 H.yt aN H.am3
def av5:=l_ av4 [] func34 H.Ik aN H.am4
def av6:=mk av5 func199 aw.yX (S L (S bH (S L (J [(3,.own 3)] [(3,a9)] (S L (B (aw [(3,.own 3),(9,er),(10,v2),(11,v2)] [(3,a9)] ee))) cn)))) aw.arj
def av7:=mk av6 func198 aw.qR abX aw.ark
def acm:=mk av7 func197 aw.yY aN aw.arl
def av8:cM:=lk (aw.fA 1 aw.P6)
theorem av9:cS Tryz.prog dE 122 av8:=d' acm [] trivial func122 aN aw.arq
def av_:=mk acm func73 H.wb kO H.al'
def awa:=jV av_ [] func72 H.yu 1 aN H.am5
def acn:=l_ awa [(72,1)] func35 H.uE aN H.am7
def awb:cM:=lk (aw.fA 1 aw.P7)
theorem awc:cS Tryz.prog dE 123 awb:=d' acn [] trivial func123 aN aw.ars
def awd:=jV acn [] func75 H.OR 1 aN H.am8
def awe:=jV awd [] func78 H.OS 1 (S L (S L (S (S L (B (cf [(2,.dV t2),(3,.dV tu),(7,.ba 7 0)] [(7,.cells t2 [v2])] [(2,.dV t2),(3,.dV tu),(7,.ba 100007 0),(13,abk),(14,v2)] [(100007,.cells t2 [v2])] [] [(100007,.cells t2 [v2])] cn (B az)))) cn))) H.am9 (hc:=λx h=>by obtain⟨_,_,_,_,rfl,_⟩:=h;exact sO ⟨⟨⟨trivial,rfl⟩,rfl⟩,rfl⟩)
def aco:=l_ awe [(75,1),(78,1)] func36 H.yn BO H.ana
def awf:cM:=lk (aw.fA 1 aw.P8)
theorem awg:cS Tryz.prog dE 124 awf:=d' aco [] trivial func124 aN aw.art
def awh:=mk aco func81 H.yf aN H.alc
def awi:=jV awh [] func80 H.A7 1 aN H.Yj
def awj:=mk awi func83 H.yv (S L (S L (S L (J [(6,.ba 6 0),(8,.ba 8 0),(9,v4)] [(6,y6),(8,y6)] (S L (B (aw abD [(6,y6),(8,y6)] (S L (S eh (J abD [(6,y6),(8,y6)] wW L)))))) cn)))) H.anc
def awk:=jV awj [] func82 H.OW 1 (S L (S L (J [(6,v2)] [] (S L (B (aw [(0,abm),(1,.dV t2),(2,.dV tu),(6,v2),(10,v2)] [] (S L (S eh (J [(0,abm),(1,.dV t2),(2,.dV tu),(6,v2),(10,v2)] [] y7 L)))))) cn))) H.ang (hc:=λx h=>by obtain⟨_,_,_,rfl,_⟩:=h;exact sO ⟨⟨trivial,rfl⟩,rfl⟩)
def acp:=l_ awk [(80,1),(82,1)] func37 H.yo BO H.ani
def awl:cM:=lk (aw.fA 1 aw.P9)
theorem awm:cS Tryz.prog dE 125 awl:=d' acp [] trivial func125 aN aw.aru
def Rh:=jV acp [] func84 H.OZ 1 aN H.anm (hc:=λx h=>by obtain⟨a,b,ao⟩:=h;exact sO ⟨⟨trivial,rG (congrArg (λo=>o.1) ao)⟩,rG (congrArg (λo=>o.2) ao)⟩)
def acq:cM:=⟨⟨[(0,.hg),(1,.dV HE),(1000000,.aW t2)],[]⟩,⟨[(1000000,.aW t2)],[]⟩,[],2,H.Oa⟩
theorem awn:cS Tryz.prog dE 162 acq:=d' (S:=H.Oa) Rh [] trivial func162 (S L (B (aw [(0,.hg),(5,.j6 5),(1000000,.aW t2)] [(5,.ct t2 t2)] (S L (S eh wW))))) (λx=>A.le_refl _)
theorem awo:w5 Tryz.prog 162 ⟨[HE],t2,H.jY⟩:=M' (c:=acq) awn mF (λx l L=>(l,x.getD [],(l,L,[],false),())) rfl (by decide) (by simp[gn])
 (λx l L i ai=>by
  obtain⟨T,aV⟩:=ai;obtain⟨m,hm,_⟩:=aV;subst hm;by_cases aY:i=0
  ·subst aY;exact .inr (.inr (.inl ⟨rfl,rfl⟩))
  ·by_cases E:i=1
   ·subst E;exact .inr (.inl ⟨by decide,by decide,_,_,rfl,rfl⟩)
   by_cases U:i=b5
   ·subst U;exact .inr (.inr (.inr ⟨rfl,rfl⟩))
   ·refine .inl ?_;exact (if_neg aY).trans ((if_neg E).trans (if_neg U)))
 rfl (λbn=>⟨_,_,_,_,rfl⟩) (λx l ai=>by
  obtain⟨T,aV⟩:=ai;obtain⟨m,hm,_⟩:=aV;subst hm;have h:=H.amG l m;refine⟨h.1,λbn gh dJ e8 p fp=>?_⟩;have e:aI.aW bn.1.1 t2 bn.1.2.1 bn.1.2.2.1 bn.1.2.2.2=.aW dJ t2 e8 p false:=fp;injection e with az aN cL ee hv
  rw[<-ee];exact h.2 bn gh hv)
def awp:=pI Rh (Rh.u [] [(162,⟨[HE],t2,H.jY⟩)] ⟨awo,trivial⟩) [] trivial func87 H.Ia aN H.alL
def acr:=l_ awp [(84,1)] func38 H.yp (S L (S L (S bH (S L (J [(10,.fJ 24)] [(24,.mp t2 t2)] (S L (B (aw abE [(4,.gL t2),(5,.gL t2),(24,.mp t2 t2)] (S L (S eh (J abE [(4,.gL t2),(5,.gL t2),(24,.mp t2 t2)] y7 L)))))) cn))))) H.ano
def awq:cM:=lk (aw.fA 2 aw.P')
theorem awr:cS Tryz.prog dE 126 awq:=d' acr [] trivial func126 (S L (S L (S bH (S bH cn)))) aw.arw
def aws:=jV acr [] func88 H.A7 1 aN H.anf
def acs:=l_ aws [(88,1)] func39 H.Im (S L (S L (S bH (J [(4,.own 4),(5,.own 5)] [(4,a2),(5,a2)] (S L (B (aw abF BN (S L (S eh (J abF BN (B (S L (S L (J abA BN (S L (B (aw abw BN (S L (S eh (J abw BN y7 L)))))) (J abA BN az az))))) L)))))) cn)))) H.ant
def awt:cM:=lk (aw.fA 1 aw.Qb)
theorem awu:cS Tryz.prog dE 127 awt:=d' acs [] trivial func127 (S L kO) aw.ary
def awv:=mk acs func143 ED (S L aN) aoJ
def aww:=jV awv [] func142 yA 1 aN aoK (hc:=λx h=>by obtain⟨i,w,n,ao,_⟩:=h;exact sO ⟨⟨⟨trivial,rG (congrArg (λo=>o.1) ao)⟩,rG (congrArg (λo=>o.2.1) ao)⟩,rG (congrArg (λo=>o.2.2) ao)⟩)
def awx:=l_ aww [(142,1)] func63 Bi (S L (S mQ (S bH (S L (J [(7,.ba 22 0)] [(22,.cells x6 [v22,p4,v2,qU,.own 61]),(61,Fi)] (S L (B (aw [(2,.ba 2 0),(7,.ba 22 0),(24,v22),(25,v2),(26,v2)] abT (S L (S eh (J [(2,.ba 2 0),(7,.ba 22 0),(24,v22),(25,v2),(26,v2)] abT (B (S L (S L (J [(2,.ba 2 0),(7,.ba 22 0),(10,.own 10),(24,v22),(25,v2),(26,v2)] [(2,.gL oa),(10,a2),(22,.cells x6 [v22,p4,v2,qU,.own 61]),(61,Fi)] (S L (B (aw abv [(2,.gL oa),(8,.gL t2),(9,abq),(10,a2),(11,.cells t2 [v2]),(22,.cells x6 [v22,p4,v2,qU,.own 61]),(61,Fi)] (S az (J abv [(2,.gL oa),(8,.gL t2),(9,abq),(10,a2),(11,.gL t2),(22,.cells x6 [v22,p4,v2,qU,.own 61]),(61,Fi)] wW (S cn L)))))) (S bH L))))) L)))))) cn))))) aoO
def D5:=mk awx func24 yy BO aoW
def BQ:cM:=⟨⟨[(0,.val t32)],[]⟩,⟨[(0,.val t22),(1,.val DN),(2,.val t2),(3,.own 28),(4,.own 11),(5,.own 16),(6,.own 20),(7,.own 24),(8,.val t2)],[(28,.bh Ax),(11,.bh t2),(16,.bh x5),(20,.bh vK),(24,.bh rE)]⟩,[some 9],1,aw.wP⟩
theorem Fs:cS Tryz.prog dE 118 BQ:=d' D5 [(188,Q6),(189,Q7),(190,Q8),(191,.fc Q9),(192,Q_),(193,Q'),(194,JR),(195,Rb)] ⟨ab3,ab4,ab5,ab6,ab9,ab_,Ra,ab',trivial⟩ func118 hv aw.arJ
def awy:cM:=lk (aw.fA 4 aw.yT)
theorem awz:cS Tryz.prog dE 128 awy:=d' D5 [(118,.fc BQ)] ⟨Fs,trivial⟩ func128 (S L (S L (S L (S L (S bH (S mQ aN)))))) aw.arN
def awA:=mk D5 func146 Iw abX aoP
def awB:=mk awA func66 ID (S L (S L (J [(0,abj),(1,v2),(9,v2)] [] (S L (B (aw abG [] (S L (S eh (J abG [] wW L)))))) cn))) aoU
def rI:=mk awB func23 Bf (S L kO) aoY
def awC:cM:=lk (aw.fA 3 aw.Qc)
theorem awD:cS Tryz.prog dE 129 awC:=d' rI [] trivial func129 (S L kO) aw.arA
def Ft:cM:=⟨⟨[(0,.ba 100000 0),(1,.val t32)],[(100000,.gg qA)]⟩,⟨[(0,.val t9)],[(100000,.gg qA)]⟩,[none],2,aw.wQ⟩
theorem JT:cS Tryz.prog dE 200 Ft:=d' rI [] trivial func200 (S L (S bH aN)) aw.arL
def awE:cM:=lk (aw.fA 2 aw.yU)
theorem awF:cS Tryz.prog dE 130 awE:=d' rI [(118,.fc BQ),(200,.fc Ft)] ⟨Fs,JT,trivial⟩ func130 BO aw.arO
def awG:cM:=lk (aw.fA 3 aw.Qd)
theorem awH:cS Tryz.prog dE 131 awG:=d' rI [(118,.fc BQ),(200,.fc Ft)] ⟨Fs,JT,trivial⟩ func131 qW aw.arP
def awI:cM:=lk (aw.fA 4 aw.Qe)
theorem awJ:cS Tryz.prog dE 132 awI:=d' rI [(118,.fc BQ),(200,.fc Ft)] ⟨Fs,JT,trivial⟩ func132 qW aw.arQ
def awK:cM:=lk (aw.fA 5 aw.Qf)
theorem awL:cS Tryz.prog dE 133 awK:=d' rI [(118,.fc BQ),(200,.fc Ft)] ⟨Fs,JT,trivial⟩ func133 qW aw.arR
def acu:cM:=⟨⟨[(0,.own 200001),(1,.val t3),(2,.val t3)],[(200001,.bh vK)]⟩,⟨[(0,.sub 200001)],[(200001,.bh vK)]⟩,[none],3,(aw.Jn aw.Jr)⟩
theorem awM:cS Tryz.prog dE 201 acu:=d' rI [] trivial func201 (S L (S L (S bH qW))) (aw.arH aw.Jr)
def awN:cM:=lk (aw.fA 1 aw.yV)
theorem awO:cS Tryz.prog dE 134 awN:=d' rI [(194,JR),(201,.fc acu)] ⟨Ra,awM,trivial⟩ func134 (S L (S bH (S .GH cn))) aw.arS
def awP:=mk rI func217 td (S L (S L abW)) apq
def awQ:=mk awP func165 td (S L (S (C aN L) aN)) (aps (λ_=>A.fail))
def awR:=mk awQ func163 IP (S L (J [(0,nL),(1,v2)] [] az (S L (J [(0,nL),(6,v228)] [] az (S L (S L (J [(7,.own 30)] [(30,JN)] (B (aw [(7,.own 30),(8,v2)] [(30,JN)] (S az (B L)))) cn))))))) apA
def awS:=mk awR func90 Bn (S L (S mQ (S bH (S L (J [(2,.ba 2 0),(7,.ba 30 0)] wV (S L (C mQ L)) (J [(2,.ba 2 0),(7,.ba 30 0)] wV (S L (B (aw [(2,.ba 2 0),(7,.ba 30 0),(46,v2),(47,v2)] wV (S L (S eh (J [(2,.ba 2 0),(7,.ba 30 0),(46,v2),(47,v2)] wV (B (S L (S L (B (aw abB wV (S L (S eh (J abB wV (B (S L (S L (B (aw abx wV (S L (S eh (J abx wV y7 L)))))))) L)))))))) L)))))) (J [(2,.ba 2 0),(7,.ba 30 0)] abQ (S L (B (aw [(2,.ba 2 0),(7,.ba 30 0),(92,er),(93,v2),(94,v2)] abQ ee))) (J [(7,.ba 30 0)] abR (S L (B (aw [(7,.ba 30 0),(114,p5),(115,v2),(116,v2)] abR ee))) cn)))))))) apO
def acv:=mk awS func91 Pq aN apD
def acw:cM:=⟨⟨[(0,.val e0),(1,.val t3)],[]⟩,⟨[(0,.own 30)],[(30,.bh t3)]⟩,[none],2,wA⟩
theorem awT:cS Tryz.prog dE 92 acw:=d' acv [] trivial func92 jF ZE
def awU:=mk acv func168 wB (S L (S (B (S L (C cn (S L (C cn bH))))) cn)) apF
def acx:=mk awU func96 IX (S L (S L (J [(6,.own 6)] [(6,wT)] (S L (B (aw [(0,kN),(6,.own 6),(14,er),(15,v2),(16,v2)] [(6,wT)] (S L (S eh (J [(0,kN),(6,.own 6),(14,er),(15,v2),(16,v2)] [(6,wT)] (B (S L (S az (S L (S L (J [(0,kN),(6,.own 6),(10,.ba 10 0),(11,v2),(14,er),(15,v2),(16,v2)] [(6,wT),(10,abi)] (S L (B (S L (C cn az)))) (S bH (S L (B (aw [(0,kN),(6,.own 6),(10,.ba 10 0),(11,v2),(14,er),(15,v2),(16,v2),(58,er),(59,v2),(60,v2)] [(6,wT),(10,abi)] ee)))))))))) L)))))) cn))) ap0
def acy:cM:=⟨⟨[(0,.val e0),(1,.val t2)],[]⟩,⟨[(0,.own 30)],[(30,.bh t2)]⟩,[none],2,wA⟩
theorem awV:cS Tryz.prog dE 92 acy:=d' acx [] trivial func92 jF ZE
def acz:=mk acx func169 Bs aN ap'
def Ri(f:Nat):cM:=⟨⟨[(0,.val oV),(1,.own 200001),(2,.val Ay),(3,.val t2),(4,.fJ 100002)],[(100002,.mp t2 t2),(200001,.bh t2)]⟩,⟨[(0,.val t4)],[(100002,.mp t2 t2),(200001,.bh t2)]⟩,[none],5,uY f⟩
theorem acA:∀f,cS Tryz.prog dE 170 (Ri f)
 |0=>Nq func170 aqi
 |f+1=>d' acz [(170,.fc (Ri f))] ⟨acA f,trivial⟩ func170 (S L (J [] Q2 (S L (B (aw abz Q2 (S L (S eh (J abz Q2 (B (S L (S az (S L (S L (C aN L)))))) L)))))) cn)) (aqh f)
def awW:=pI acz mF [(92,.fc acy),(170,.fc (Ri 201))] ⟨awV,acA 201,trivial⟩ func98 I1 (S L (S L (S L (J [(6,v2)] [] (S L (B (aw abK [(50140,a2)] (S L (S eh (J abK [(50140,a2)] wW L)))))) cn)))) aqk
def awX:=mk awW func93 wJ (S L aN) aql
def acB:=pI awX mF [(92,.fc acw)] ⟨awT,trivial⟩ func40 I8 (S L (S L (S bH (S L (S L (J [(8,.own 8)] [(8,a2)] (S L (B (aw abH [(8,a2),(50260,a2)] (S L (S eh (J abH [(8,a2),(50260,a2)] y7 L)))))) cn)))))) aqH
def awY:cM:=lk (aw.fA 1 aw.Qg)
theorem awZ:cS Tryz.prog dE 135 awY:=d' acB [] trivial func135 (S L aN) aw.arC
def aw0:=mk acB func181 Pr aN apE
def aw1:=mk aw0 func108 IQ (S L (J [(1,er),(2,.ba 2 0)] [(2,BG)] (S L (B (aw [(1,er),(2,.ba 2 0),(7,er),(8,v2),(9,v2)] [(2,BG)] cL))) cn)) apG
def aw2:=mk aw1 func109 th (S L (J [(4,v2)] [] (S L (B (aw [(0,kN),(4,v2),(7,er),(8,v2),(9,v2)] [] (S L (S eh (J [(0,kN),(4,v2),(7,er),(8,v2),(9,v2)] [] wW L)))))) cn)) ap2
def acC:=mk aw2 func49 I9 (S L (S L (S bH (S bH cn)))) aqJ
def aw3:cM:=lk (aw.fA 0 aw.Qh)
theorem aw4:cS Tryz.prog dE 136 aw3:=d' acC [(192,.fc ab7)] ⟨ab8,trivial⟩ func136 (S L (S L (J [(0,.ba 100000 0),(5,.own 50100)] [(50100,a2),(100000,Fk)] (S L (B (aw [(0,.ba 100000 0),(5,.own 50100),(12,v2),(13,v2)] [(50100,a2),(100000,Fk)] ee))) aN))) aw.arD
def Rj:=mk acC func92 IM jF apz
def JU(f:Nat):cM:=⟨⟨[(0,.val oV),(1,.val e0),(2,.val t2),(3,.hg),(1000000,.aW e0)],[]⟩,⟨[(0,.val t4),(1000000,.aW e0)],[]⟩,[none],4,rX f⟩
theorem Rk:∀f,cS Tryz.prog dE 167 (JU f)
 |0=>Nq func167 aqv
 |f+1=>d' Rj [(167,.fc (JU f))] ⟨Rk f,trivial⟩ func167 (S L (S L (S bH (J [(0,kN),(1,er),(2,v2),(3,.hg),(9,v2),(1000000,.aW e0)] [] (S L (B (aw aby [] (S L (S eh (J aby [] (B (S L (S az bH))) L)))))) cn)))) (aqu f)
def acD:cM:=⟨⟨[(0,.val oV),(1,.hg),(1000000,.aW e0)],[]⟩,⟨[(1000000,.aW e0)],[]⟩,[],2,(HT (rX 10))⟩
theorem aw5:cS Tryz.prog dE 218 acD:=d' (S:=(HT (rX 10))) Rj [(167,.fc (JU 10))] ⟨Rk 10,trivial⟩ func218 L (λx=>A.le_refl _)
def JV:zV:=⟨oV,e0,yL,I3⟩
theorem aw6:Dd Tryz.prog 218 JV:=UU (c:=acD) aw5 mF (ic:=JV) (λx l L=>(x,l,(l,L,[],false),())) rfl (by decide) (by simp[JV])
 (λx l L i=>by
  by_cases aY:i=0
  ·subst aY;exact .inr (.inl ⟨by decide,rfl⟩)
  ·by_cases E:i=1
   ·subst E;exact .inr (.inr (.inl ⟨rfl,rfl⟩))
   ·by_cases U:i=b5
    ·subst U;exact .inr (.inr (.inr ⟨rfl,rfl⟩))
    ·refine .inl ?_;exact (if_neg aY).trans ((if_neg E).trans (if_neg U)))
 rfl (λbn=>⟨_,_,_,_,rfl⟩) (λx l aq=>by
  obtain⟨s,aD,af⟩:=aq;subst aD;have h:=aqw s af l;refine⟨h.1,λbn gh dJ e8 n fp=>?_⟩;have e:aI.aW bn.1.1 e0 bn.1.2.1 bn.1.2.2.1 bn.1.2.2.2=.aW dJ e0 e8 n false:=fp;injection e with az aN cL ee hv
  exact ee.symm.trans ((h.2 bn gh).2.2 hv))
def aw7:=pI Rj mF [(218,.ct JV)] ⟨aw6,trivial⟩ func166 PV (S L (S L (S (S L (B (cf [(1,.ba 1 0),(3,.ba 3 0)] [(1,.cells oV [kN]),(3,.cells e0 [er])] [(1,.ba 100001 0),(3,.ba 100003 0),(15,er)] [(100001,.cells oV [kN]),(100003,.cells e0 [er])] [] [(100001,.cells oV [kN]),(100003,.cells e0 [er])] L (B az)))) cn))) aqC
def aw8:=mk aw7 func94 PX (S L kO) aqD
def Rl:=mk aw8 func41 I6 aN aqE
def aw9:cM:=lk (aw.fA 0 aw.Qi)
theorem aw_:cS Tryz.prog dE 137 aw9:=d' Rl [] trivial func137 (S L aN) aw.arE
def acE:cM:=⟨⟨[(0,.val oV),(1,.hg),(1000000,.aW e0)],[]⟩,⟨[(1000000,.aW e0)],[]⟩,[],2,(HU (rX 10))⟩
theorem aw':cS Tryz.prog dE 95 acE:=d' (S:=(HU (rX 10))) Rl [(167,.fc (JU 10))] ⟨Rk 10,trivial⟩ func95 L (λx=>A.le_refl _)
def JW:zV:=⟨oV,e0,yL,PR⟩
theorem axa:Dd Tryz.prog 95 JW:=UU (c:=acE) aw' mF (ic:=JW) (λx l L=>(x,l,(l,L,[],false),())) rfl (by decide) (by simp[JW])
 (λx l L i=>by
  by_cases aY:i=0
  ·subst aY;exact .inr (.inl ⟨by decide,rfl⟩)
  ·by_cases E:i=1
   ·subst E;exact .inr (.inr (.inl ⟨rfl,rfl⟩))
   ·by_cases U:i=b5
    ·subst U;exact .inr (.inr (.inr ⟨rfl,rfl⟩))
    ·refine .inl ?_;exact (if_neg aY).trans ((if_neg E).trans (if_neg U)))
 rfl (λbn=>⟨_,_,_,_,rfl⟩) (λx l aq=>by
  obtain⟨s,aD,af⟩:=aq;subst aD;have h:=aqx s af l;refine⟨h.1,λbn gh dJ e8 n fp=>?_⟩;have e:aI.aW bn.1.1 e0 bn.1.2.1 bn.1.2.2.1 bn.1.2.2.2=.aW dJ e0 e8 n false:=fp;injection e with az aN cL ee hv
  exact ee.symm.trans ((h.2 bn gh).2.2 hv))
def axb:=mk Rl func97 PK (S L (J [] [] (S L (B (aw [(0,kN),(9,p5),(10,v2),(11,v2)] [] (S L (S eh (J [(0,kN),(9,p5),(10,v2),(11,v2)] [] (B (S L (S L (J [(0,kN),(7,v4),(9,p5),(10,v2),(11,v2)] [] (S L (B (aw [(0,kN),(6,.ba 6 0),(7,v4),(9,p5),(10,v2),(11,v2),(20,v2),(21,v2)] [(6,atE)] ee))) bH)))) L)))))) cn)) aqb
def Rm:=pI axb mF [(95,.ct JW)] ⟨axa,trivial⟩ func42 Bv (S L (S L (S bH (S L (S (S L (B (cf [(4,.ba 4 0),(6,.ba 6 0)] [(4,.cells oV [kN]),(6,.cells t2 [v2])] [(4,.ba 100004 0),(6,.ba 100006 0),(21,er)] [(100004,.cells oV [kN]),(100006,.cells t2 [v2])] [] [(100004,.cells oV [kN]),(100006,.cells t2 [v2])] L (B (S L (S az (S L az))))))) (S bH cn)))))) aqF
def axc:cM:=lk (aw.fA 0 aw.Qj)
theorem axd:cS Tryz.prog dE 138 axc:=d' Rm [] trivial func138 (S L aN) aw.arF
theorem axe:∀ k∈[119,120,121,122,123,124,125,126,127,128,129,130,131,132,133,134,135,136,137,138],cS Tryz.prog dE k {Re with sh:=aw.E7 k}:=E'.mem (l:=[119,120,121,122,123,124,125,126,127,128,129,130,131,132,133,134,135,136,137,138]) ⟨avD,avF,avH,av9,awc,awg,awm,awr,awu,awz,awD,awF,awH,awJ,awL,awO,awZ,aw4,aw_,axd,trivial⟩
def acF:cM:=⟨⟨[(0,.ba 100000 0),(1,.val Ng),(2,.val t9)],[(100000,.gg qA)]⟩,⟨[(0,.val t9)],[(100000,.gg qA)]⟩,[none],3,aw.Jx⟩
theorem axf:cS Tryz.prog dE 59 acF:=d' Rm [(999999,.Gq Re aw.E7 [119,120,121,122,123,124,125,126,127,128,129,130,131,132,133,134,135,136,137,138])] ⟨axe,trivial⟩ func59 (S L (S L (S L (S mQ (S L (J [(0,.ba 100000 0),(8,.ba 8 0),(11,.own 48)] [(8,abp),(48,a2),(100000,Fk)] (S L (B (aw [(0,.ba 100000 0),(8,.ba 8 0),(11,.own 48),(50,r4),(51,v2),(52,v2)] [(8,abp),(48,a2),(100000,Fk)] (S L (S eh (S (B (S L (S L (S bH L)))) L)))))) cn)))))) aw.arZ
def N2:=pI Rm mF [(57,.fc acb),(59,.fc acF)] ⟨avC,axf,trivial⟩ func20 aw.u3 (S L (S mQ (S bH (S L (J [(4,.own 4),(5,.ba 5 0),(8,.ba 50230 0)] abO (S L (B (aw [(4,.own 4),(5,.ba 5 0),(8,.ba 50230 0),(9,atF),(25,r4),(26,v2),(27,v2)] abO ee))) cn))))) aw.ar5
def axg:=mk N2 func183 Pm aN ao6
def axh:=mk axg func115 Ja aN aqP
def axi:=mk axh func54 aw.Jy aN aw.ar7
def D2:=mk axi func17 aw.Fa (S L qW) aw.atc
def axj:=mk D2 func116 vW (S L (S L (S L (S L (J [(2,.ba 2 0),(3,.ba 3 0)] [(2,.cells oa [.cx,.cx,v2,.cx]),(3,.cells oa [.own 8,.own 59,v2,.own 12]),(8,BK),(12,BI),(59,Fm)] (S L (B (aw Q0 abP (S az (J Q0 abP (B (S L (J [(1,.ba 1 0),(2,.ba 2 0),(3,.ba 3 0),(4,v2),(5,.ba 5 0)] abN (S L (B (aw [(1,.ba 1 0),(2,.ba 2 0),(3,.ba 3 0),(4,v2),(5,.ba 5 0),(6,v2)] abN tt))) L))) L))))) cn))))) Of
def axk:=mk axj func55 I_ (S L (S L (S L (S L (S L (J [(1,.ba 1 0),(2,.ba 2 0),(3,.ba 3 0)] Q1 (S L (B (aw Q0 Q1 tt))) (J [(2,.ba 2 0),(3,.ba 3 0)] [(2,.cells t32 [.cx,.cx,v2,.cx,.cx,.cx,.cx,.cx,v2]),(3,.cells t32 [v22,p4,v2,qU,.own 11,.own 16,.own 20,.own 24,v2]),(11,a2),(16,QV),(20,QU),(24,wT)] (S L (B (aw [(1,.ba 1 0),(2,.ba 2 0),(3,.ba 3 0),(5,v2)] Q1 tt))) cn))))))) aqM
def axl:=mk axk func56 H.vW qW H.Of
def D4:=mk axl func19 aw.Fc aN aw.atf
def N3:=mk D4 func21 aw.Fb (S L (J [(0,r4),(1,v2)] [] (S L (B (aw [(0,r4),(1,v2),(5,v2)] [] mR))) cn)) aw.ate
def axm:=mk N3 func45 aw.JH (S L (S bH (S L (J [(3,v9)] [] (B (aw [(0,v2),(3,v9)] [] (S az (B cn)))) cn)))) aw.as7
def D3:=mk axm func18 aw.JI (S L (J [(0,v9)] [] (S L (B (aw [(0,v9),(1,er),(5,v2)] [] tt))) cn)) aw.as9
def axn:=mk D3 func25 aw.Fg (S L (S L (J [(1,.ba 1 0),(3,.own 3)] [(1,BH),(3,a9)] (S L (B (aw [(1,.ba 1 0),(3,.own 3),(4,v2)] [(1,BH),(3,a9)] tt))) (J [(3,.own 3)] [(3,a9)] (S L (B (aw [(1,.ba 1 0),(3,.own 3),(5,v2)] [(1,BH),(3,a9)] (S az (J [(1,.ba 1 0),(3,.own 3),(5,v2)] [(1,BH),(3,a9)] wW L))))) cn)))) aw.atA
def axo:=mk axn func69 aw.E8 (S L (S bH (J [] [] (S L (B (aw [(0,er),(1,er),(5,v2)] [] mR))) cn))) aw.atB
def axp:=mk axo func27 aw.Fh abW aw.atC
theorem acU:h8 Tryz.prog 4 (.aB wY J0) t4 (λx=>O8 aw.E_.sh aw.r2.sh aw.Fa.sh aw.Fc.sh aw.u3.sh aw.Fb.sh aw.Fg.sh H.g_.sh aw.Fh.sh x):=HM axp mF (sp:=[]) trivial func4 (ann:=(S L (S bH (S L qW)))) (λx=>A.le_refl _) (by kernel_rfl) λx=>by kernel_rfl
end
end Go.Fer.ox
namespace Go.Fer.ox
open Go Go.Proofs
theorem acR{H:Type}{enc:TypeId×Value->H}{a:Assume}{C:Checked}{os:Os}{f:FuncId}{fn:Func}{s:ChangeSpec}{conds:List PathCond}{apart Gn handsOn again:Bool}{X:World->Array Value->Prop}
  (Ac:∀ (w w':World) (args:Array Value),w.heap=w'.heap->X w args->X w' args)
  (own:ownKnob C.prog.godebug=none) (started:os.Started) (axq:C.prog.inits.idxOf? f=none) (tv:C.prog.funcs[f]?=some fn)
  (witness:∃ (w:World) (tape:Tape) (i:Input),w.os=os/\(w.forCall tape i).Shaped C.prog/\i.vars=[]/\Input.okWide C.prog (w.forCall tape i) .any w.heap.size f i/\
   ((s.pre enc C.prog fn conds apart (w.forCall tape i).memory i.args/\X (w.forCall tape i).memory i.args)/\sizedMet enc C.prog fn (OpenSpec.ofChange s) apart (w.forCall tape i).memory i.args)/\a.holds C.prog (lone (Frame.enter C.prog f i.args .normal) [] (w.forCall tape i)))
  (axr:∀ (aw:World) (base:Nat) (args:Array Value) (bk gs:List (DataW H)) (before:List MemPlace),(∀ (j:Nat) t v,fn.params[j]?=some t->args[j]?=some v->Value.okWide C.prog aw .any base t v)->
   DataW.Whole enc C.prog fn.params.toList s.vars apart aw args.toList bk gs before->
   aw.ShapedOpen C.prog->X aw args->
   Calls C.prog f args aw λe qw=>∃ v,e=.returned v/\s.post enc C.prog fn apart Gn handsOn again aw args v qw) :
  ReturnsInHanded a C os f .any (λw args=>(s.pre enc C.prog fn conds apart w args/\X w args)/\sizedMet enc C.prog fn (OpenSpec.ofChange s) apart w args) (s.post enc C.prog fn apart Gn handsOn again):=by
 refine returnsInHanded_of_calls own started axq witness ?_;intro w tape i _ nO _ cN gO ayS;obtain⟨_,_,_,axs,axt,_,_,_,_,x3⟩:=cN;have e:axs=fn:=Option.some.inj (axt.symm.trans tv);subst e;obtain⟨⟨⟨bk,gs,before,hw,hc⟩,ai⟩,bj⟩:=gO;have C6:=DataW.Whole.of_heap (w':=w.forCall tape i) (by rfl) hw;refine (axr (w.forCall tape i) w.heap.size i.args bk gs before x3 C6 nO (Ac (w.forCall tape i).memory (w.forCall tape i) i.args rfl ai)).mono λe qw ⟨v,he,aq⟩=>?_;subst he;exact ChangeSpec.post_blind aq
theorem JZ{P:Program}{w:World}:∀ {l:List (String×DataW Unit)} {ps:List MemPlace},DataW.LaidVars P w l ps->∀ n d,(n,d)∈l->∃ g t cs cg p,P.globalNamed n=some g/\(P.globals[g]?).map (·.type)=some t/\w.var? P n=some cs/\DataW.trod (λ_=>()) P w 0 (λ_=>true) false cg t cs.toList=some (d,p)
 | [],_,_,_,_,hm=>by cases hm
 | (i',vb)::r,ps,h,n,d,hm=>by
  obtain⟨g,t,cs,cg,p,q,E,U,ah,a6,bL,_⟩:=h;rcases List.mem_cons.1 hm with e | e
  ·cases e;exact⟨g,t,cs,cg,p,E,U,ah,a6⟩
  ·exact JZ bL n d e
theorem acQ{P:Program}{w:World}{n:String}{g:Nat}{t:TypeId}{d:DataW Unit}{cg:Nat}{cs:Array Value}{p:List MemPlace}(ay:P.globalNamed n=some g)(af:w.var? P n=some cs)(hu:∃ ms,P.underlying t=some (.interface ms))
  (h:DataW.trod (λ_=>()) P w 0 (λ_=>true) false cg t cs.toList=some (d,p)):∃ v,w.cell? ⟨g,0,none⟩=some v/\(v=.nilIface\/∃ lQ mi,v=.iface lQ mi):=by
 obtain⟨ms,hu⟩:=hu;have hc:w.cell? ⟨g,0,none⟩=cs[0]?:=by
  unfold World.var? at af;rw[ay]at af;simp only[Option.bind_some]at af;cases ag:w.heap[g]? with
  | none=>rw[ag]at af;cases af
  | some o=>
   rw[ag]at af;cases o with
   | cells a T s3=>cases af;simp[World.cell?,ag]
   | _=>cases af
 have aF:cs[0]?=cs.toList[0]?:=by simp
 rw[hc,aF];generalize cs.toList=l at h;cases cg with
 | zero=>simp[DataW.trod]at h
 | succ cg=>
  match l with
  | []=>simp[DataW.trod,hu]at h
  | [.nilIface]=>exact⟨_,rfl,.inl rfl⟩
  | [.iface u v]=>exact⟨_,rfl,.inr ⟨u,v,rfl⟩⟩
  | _::_::_=>simp[DataW.trod,hu]at h
  | [x]=>cases x<;>first | exact⟨_,rfl,.inl rfl⟩ | exact⟨_,rfl,.inr ⟨_,_,rfl⟩⟩ | (simp[DataW.trod,hu]at h;done)
theorem axu:((List.range 8).all λb=>(((begin Tryz.prog (λ_ _=>0) default).world.heap[b]?).bind Obj.row?).isSome)=true:=by kernel_rfl
theorem acW{aw : World}(h : aw.ShapedOpen Tryz.prog)(E : ∃ v, aw.cell? ⟨1, 0, none⟩ = some v /\ (v = .nilIface \/ ∃ lQ mi, v = .iface lQ mi))(U : ∃ v, aw.cell? ⟨2, 0, none⟩ = some v /\ (v = .nilIface \/ ∃ lQ mi, v = .iface lQ mi))(aF : Lib.TabIs Tryz.prog aw "internal/strconv.uint64pow10" .u64 Lib.pow10Tab) : nQ Tryz.prog (qy aw) aw := λb aa => by
 have jj:b<8:=Nat.lt_of_lt_of_le aa (of_decide_eq_true (by kernel_rfl));refine⟨?_,?_⟩
 ·have M:=List.all_eq_true.1 axu b (List.mem_range.2 jj);obtain⟨⟨zero,t⟩,bj⟩:=Option.isSome_iff_exists.1 M;obtain⟨cs,cV,_⟩:=h.1 b zero t aa bj;exact (Array.getElem?_eq_some_iff.1 cV).1
 ·match b,aa,jj with
  | 0,aa,_=>exact cell_of_shapedOpen_int (t:=3) (zero:=#[.int .i64 0]) h aa (by kernel_rfl) rfl (by kernel_rfl) (by kernel_rfl) Tryz.underlying3
  | 1,_,_=>exact E
  | 2,_,_=>exact U
  | 3,_,_=>trivial
  | 4,_,_=>trivial
  | 5,_,_=>
   show ∀ i,aw.cell? ⟨5,i,none⟩=if i<20 then some (.int .u64 (10 ^ i)) else none
   unfold Lib.TabIs World.var? at aF;rw[show Tryz.prog.globalNamed "internal/strconv.uint64pow10" = some 5 by kernel_rfl]at aF;change (match aw.heap[5]? with | some (.cells cs _ _)=>some cs | _=>none)=_ at aF;intro i;cases ag:aw.heap[5]? with
   | none=>rw[ag]at aF;cases aF
   | some o=>
    rw[ag]at aF;cases o with
    | cells cs T s3=>
     simp only[Option.some.injEq]at aF;simp only[World.cell?,ag,aF];simp only[Option.isSome_none,Bool.false_eq_true,if_false,List.getElem?_toArray,List.getElem?_map,Lib.pow10Tab];split
     ·rename_i BD;rw[List.getElem?_range BD];simp
     ·rename_i BD;rw[List.getElem?_eq_none (by simp;omega)];rfl
    | _=>cases aF
  | 6,_,_=>trivial
  | 7,_,_=>trivial
end Go.Fer.ox
