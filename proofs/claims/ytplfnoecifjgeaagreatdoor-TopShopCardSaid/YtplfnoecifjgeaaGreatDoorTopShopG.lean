/- Part 7 of the proof of TopShop: shallow programs of Go functions, and what they compute. No condition. -/
import Derived.Test.YtplfnoecifjgeaaGreatDoorTopShopF
import Derived.Lib.AtoiAll
import Derived.Lib.ItoaLen
import Derived.Lib.Join
import Derived.Shelf.SlGeneric
import Derived.Shelf.Spec.SlicesGrow
import Derived.Shelf.Strings.OnBuilder
import Derived.Shelf.LaysM
import Derived.Shelf.Strconv.Itoa3
import Derived.Shelf.LaysC
import Derived.Shelf.Strconv.AtoiAll
import Derived.Shelf.Strings.Split
import Derived.Shelf.Slices.In.SortNone
import Derived.Test.YtplfnoecifjgeaaGreatDoorProg
import Derived.WalkKit
import Derived.WalkSpells
import Derived.Handy
import Derived.Shelf.Sort.AssemblyIn
import Derived.Sort.EveryDepth
import Derived.Handed
import Derived.Shelf.Vars
import Derived.Lib.LaidTab
import Derived.Lib.ItoaNum
noncomputable section
set_option linter.unusedVariables false
set_option linter.unusedSimpArgs false
namespace Go.Fer.H
open A (V)
theorem aq0{l:z1'}:∀ j,j<l.length->l.getD j 0∈fw l l.length:=by
 intro j;induction j with
 | zero=>
  intro h;unfold fw;exact List.mem_map.2 ⟨0,List.mem_filter.2 ⟨by grind,by rfl⟩,rfl⟩
 | succ j aJ=>
  intro h;by_cases al:og l (j+1)=true
  ·unfold fw;grind
  ·have:l.getD (j+1) 0=l.getD j 0:=by
    unfold og at al;grind
   grind
theorem aq1{l:z1'}{x:Int}:x∈fw l l.length<->x∈l:=by
 constructor
 ·intro h;unfold fw at h;grind
 ·intro h;obtain⟨j,aE,rfl⟩:=List.mem_iff_getElem.1 h;rw[<-sN (d:=0) aE];exact aq0 j aE
theorem aq2{l:z1'}(h:l.Pairwise (·<=·)):(fw l l.length).Pairwise (·<·):=by
 unfold fw;rw[List.pairwise_map];have M:((List.range l.length).filter (og l)).Pairwise (·<·):=List.Pairwise.filter _ List.pairwise_lt_range;refine List.Pairwise.imp_of_mem ?_ M;intro i j G aE zv;obtain⟨aq3,ja⟩:=List.mem_filter.1 aE;have aq3:j<l.length:=by grind
 have eP:l.getD j 0≠l.getD (j - 1) 0:=by
  unfold og at ja;grind
 have aD:=List.pairwise_iff_getElem.1 h;grind
def rK(a b:z1'):z1':=(ev 0 99).filter λid=>a.contains id||b.contains id
theorem aai(a b:Int):(ev a b).Pairwise (·<·):=by
 unfold ev;rw[List.pairwise_map];exact (List.pairwise_lt_range).imp λh=>by omega
theorem aq4{a b:z1'}(a8:a.Pairwise (·<·))(W:b.Pairwise (·<·))(h:∀ x,x∈a<->x∈b):a=b:=by
 have aq5:a.Nodup:=a8.imp λh=>by omega
 have mo:b.Nodup:=W.imp λh=>by omega
 have an:=(List.perm_ext_iff_of_nodup aq5 mo).2 h;rw[<-AA (a8.imp λh=>by omega) (List.Perm.refl a)];exact AA (W.imp λh=>by omega) an
theorem aq6{a b:z1'}(a8:∀ x∈a,bZ x 0 99=true)(W:∀ x∈b,bZ x 0 99=true):fw (fu hr (a++b)) (fu hr (a++b)).length=rK a b:=by
 refine aq4 (aq2 (OA _)) (List.Pairwise.filter _ (aai 0 99)) λx=>?_;rw[aq1,Xm];unfold rK;simp only[List.mem_append,List.mem_filter,sC,Bool.or_eq_true,List.contains_iff_mem];refine⟨λh=>⟨?_,h⟩,λh=>h.2⟩;rcases h with h | h
 ·exact oT.1 (a8 x h)
 ·exact oT.1 (W x h)
abbrev Jn:aZ:=([],[],[],[],0,0,0,0,0,0,0)
def ns(c:aZ)(more:List a_)(hf:z1'):aZ:=(c.1,more,hf,c.2.2.2)
def oh(c:aZ)(more:List a_)(hf:z1'):aZ×Int:=
 if cM c≠0 then (Jn,cM c) else if cM (ns c more hf)≠0 then (Jn,cM (ns c more hf)) else
 if k0 (c.2.1++more)=true then (Jn,91) else
 if (decide (Int.ofNat (gX (c.2.1++more)).length > 12)||decide (Int.ofNat (rK c.2.2.1 hf).length > 12))=true then (Jn,90) else (ns c (gX (c.2.1++more)) (rK c.2.2.1 hf),0)
abbrev Bt:aL:=⟨.az iP (.az (.slice hp) fP),.az iP bx,λx=>iy x.1/\x.2.1.length<2 ^ 63/\x.2.2.length<2 ^ 63,λx=>oh x.1 x.2.1 x.2.2⟩
abbrev EX:aL:=⟨.slice mx,.slice mx,λx=>x.length<65536,λx=>x⟩
theorem aq7(x):A.le (WR x) (EX.sh x):=A.sA λh=>by
 unfold WR;rw[A.f'];refine⟨⟨false,by simp⟩,λb W=>?_⟩;change b=true->x=[]at W;cases b with
 | true=>rw[W rfl];exact A.ea.2 rfl
 | false=>
  simp only[Bool.false_eq_true,if_false];exact A.kK.2 ⟨e7 (by grind),A.ea.2 (by simp)⟩
structure aaj(c:aZ):Prop where
 ec:c.1.length<=3
 ef:c.2.1.length<=12
 jl:c.2.2.1.length<=12
 n4:c.2.2.2.1.length<=4
 ids:∀ s∈c.2.1,bZ s.1 0 99=true
 hf:∀ n∈c.2.2.1,bZ n 0 99=true
 cl:k0 c.2.1=false
theorem Jo{c:aZ}(h:cM c=0):aaj c:=by
 unfold cM at h;by_cases hc:jU c=true
 ·rw[if_pos hc]at h;have lN:k0 c.2.1=false:=by
   grind
  have G:=H9 hc;unfold jU sL at hc;simp only[Bool.and_eq_true,List.all_eq_true,Bool.not_eq_true',Bool.or_eq_false_iff,decide_eq_false_iff_not]at hc;obtain⟨⟨⟨⟨⟨bk,_⟩,_⟩,U⟩,ah⟩,_⟩:=hc;exact⟨by omega,by omega,by omega,by omega,G.2,ah,lN⟩
 grind
theorem aq8{a b:List a_}(a8:a.length<=12)(W:b.length<=12)(E:∀ s∈a,bZ s.1 0 99=true)(U:∀ s∈b,bZ s.1 0 99=true):vN (a++b):=
 ⟨by grind,λs aD=>(List.mem_append.1 aD).elim (E s) (U s)⟩
theorem aq9(x):A.le (aad hZ.sh AK.sh Jj.sh Jk x9 Jm EX.sh x) (Bt.sh x):=A.bu λh=>by
 obtain⟨c,more,hf⟩:=x;obtain⟨E,U,ah⟩:=h;change iy c at E;change more.length<2 ^ 63 at U;change hf.length<2 ^ 63 at ah;have tK:iy (ns c more hf):=⟨E.1,U,ah,E.2.2.2⟩
 unfold aad;show _=A.pure (oh c more hf);unfold oh;rw[show hZ.sh (c,more,hf).1=A.pure (cM c) from A.bR E _,A.aF];by_cases ax:cM c=0
 ·have g1:=Jo ax;rw[show hZ.sh ((c,more,hf).1.1,(c,more,hf).2.1,(c,more,hf).2.2,(c,more,hf).1.2.2.2)=A.pure (cM (ns c more hf)) from A.bR tK _,A.aF];by_cases aM:cM (ns c more hf)=0
  ·have ee:=Jo aM;have ef:more.length<=12:=ee.ef;have jl:hf.length<=12:=ee.jl;have p7:=g1.ef;have mh:=g1.jl;have G:vN (c.2.1++more):=aq8 g1.ef ee.ef g1.ids ee.ids;rw[if_neg (by grind),if_neg (by grind),if_neg (by omega),if_neg (by omega)];rw[show Jj.sh [(c,more,hf).1.2.1,(c,more,hf).2.1]=A.pure (c.2.1++more) from (A.bR ⟨by simp,by grind⟩ _).trans (congrArg A.pure (by simp)),A.aF];rw[show AK.sh (c.2.1++more)=A.pure (if k0 (c.2.1++more)=true then ([],false) else (gX (c.2.1++more),true)) from A.bR G _,A.aF];cases hc:k0 (c.2.1++more) with
   | true=>simp
   | false=>
    simp only[Bool.false_eq_true,if_false,Bool.not_true];rw[show Jk ([c.2.2.1,hf],())=A.pure (c.2.2.1++hf,()) from (A.bR ⟨by simp,by grind⟩ _).trans (congrArg A.pure (by simp)),A.aF];rw[show x9 ((c.2.2.1++hf,()):z1'×Unit)=A.pure (fu hr (c.2.2.1++hf),()) from A.bR (by grind) _,A.aF];rw[show Jm ((fu hr (c.2.2.1++hf),()):z1'×Unit)=A.pure (wy (fu hr (c.2.2.1++hf))) from A.bR (by show (fu hr (c.2.2.1++hf)).length<_;rw[H2];grind) _,A.aF];have ib:=aq6 g1.hf ee.hf;unfold wy;rw[show (fw (fu hr (c.2.2.1++hf)) (fu hr (c.2.2.1++hf)).length)=rK c.2.2.1 hf from ib];simp only[Nat.sub_zero,List.drop_zero,List.take_left];rw[show EX.sh c.1=A.pure c.1 from A.bR (by have:=g1.ec;omega) _,show EX.sh c.2.2.2.1=A.pure c.2.2.2.1 from A.bR (by have:=g1.n4;omega) _];simp only[A.iz,A.fs,A.br];split<;>rfl
  grind
 grind
end Go.Fer.H
namespace Go.Fer.au
open A (V)
abbrev wz:ad:=.slice .str
abbrev uI:ad:=.st (.az k5 H.iP)
def cH:aQ->List aQ
 | []=>[[]]
 | c::s=>if c=32 then []::cH s else match cH s with
  | []=>[[c]]
  | w::l=>(c::w)::l
theorem uJ:∀ (s:aQ),1<=(cH s).length/\(cH s).length<=s.length+1
 | []=>by simp[cH]
 | c::s=>by
  have:=uJ s;unfold cH;grind
theorem aak:∀ (s:aQ) {w:aQ},w∈cH s->w.length<=s.length
 | [],w,h=>by simp[cH]at h;simp[h]
 | c::s,w,h=>by
  have aJ:=@aak s;unfold cH at h;grind
def gg:aQ->Int->Int
 | [],n=>n
 | c::s,n=>if (decide ((c.toNat:Int)<48)||decide ((c.toNat:Int) > 57))=true then -1 else gg s (10*n+((c.toNat:Int) - 48))
def e0(s:aQ):Int:=if (decide (s.length=0)||decide (s.length > 6)||decide (s.length > 1)&&decide ((s.getD 0 0).toNat=48))=true then -1 else gg s 0
theorem P':∀ (s:aQ) (n:Int) (k:Nat),0<=n->n<10 ^ k->gg s n<10 ^ (k+s.length)/\-1<=gg s n
 | [],n,k,aX,E=>by simp[gg];omega
 | c::s,n,k,aX,E=>by
  unfold gg;have an:(0:Int)<10 ^ (k+(c::s).length):=Int.pow_pos (by decide);split
  ·omega
  ·rename_i hc;simp only[Bool.or_eq_true,decide_eq_true_eq,not_or]at hc;have:=P' s (10*n+((c.toNat:Int) - 48)) (k+1) (by omega) (by omega);grind
theorem aq_(s:aQ):-1<=e0 s/\e0 s<=999999:=by
 unfold e0;split
 ·omega
 ·rename_i h;simp only[Bool.or_eq_true,decide_eq_true_eq,not_or]at h;have:=P' s 0 0 (by decide) (by decide);have U:(10:Int) ^ (0+s.length)<=10 ^ 6:=by
   have:=Nat.pow_le_pow_right (n:=10) (by decide) (show 0+s.length<=6 by omega);grind
  omega
def s7(s:aQ):Int:=match Go.Lib.atoiAll s with
 | .ok v=>v
 | .range=>Go.Lib.atoiSat s
 | _=>0
def q8(s:aQ):Int×Bool:=(s7 s,decide (0<=e0 s))
def EY(l:List aQ):Option (z1'):=if l.all (λw=>decide (0<=e0 w))=true then some (l.map e0) else none
def rL(n:Int):aQ:=Go.Lib.itoa (IntKind.wrap .i64 n)
theorem Qa(n:Int):(rL n).length<=21:=by
 have:=p4 .i64 n;exact Go.Lib.itoa_length_le _ this.1 this.2
abbrev rM:aQ:=[111,107]
abbrev Bu:aQ:=[110,111]
abbrev aal:aQ:=[110,111,110,101]
abbrev Qb:aQ:=[115,104,111,112]
abbrev aq':aQ:=[108,105,97,114]
abbrev ara:aQ:=[63]
def rN(l:z1'):aQ:=if l=[] then aal else Go.Lib.join (l.map rL) [32]
def qE(e:Int)(l:z1'):aQ:=if e=0 then rN l else if e=3 then aal else Bu
def yE(x:(Int×Int)×Int):aQ:=qE x.2 [x.1.1,x.1.2]
abbrev bq(l:z1')(i:Nat):Int:=l.getD i 0
def s8(d:ba)(m:List H.a_)(v:z1'):aQ×ba:=if (H.oh d.2 m v).2≠0 then (Bu,d) else (rM,(d.1,(H.oh d.2 m v).1))
def mD(d:ba)(s:bp):aQ×ba:=if hz s≠0 then (Bu,d) else (rM,(s,d.2))
def Qc(d:ba)(l:z1'):aQ×ba:=s8 d [(bq l 0,bq l 1,bq l 2,1,bq l 3,bq l 4)] []
def Qd(d:ba)(l:z1'):aQ×ba:=s8 d [(bq l 0,bq l 1,bq l 2,2,bq l 3,0)] []
def Qe(d:ba)(l:z1'):aQ×ba:=s8 d [] l
def Qf(d:ba)(l:z1'):aQ×ba:=(yE (H.Ig d.2 (bq l 0)),d)
def Qg(d:ba)(l:z1'):aQ×ba:=(yE (H.AS d.2 (bq l 0)),d)
def Qh(d:ba)(l:z1'):aQ×ba:=(yE (H.Ii d.2 (bq l 0)),d)
def Qi(d:ba)(l:z1'):aQ×ba:=(yE (H.Ik d.2 (bq l 0)),d)
def Qj(r:z1'×Int):aQ:=if (decide (r.2≠0)||decide (r.1.getD 0 0>=0))=true then qE r.2 r.1 else if r.1.length=1 then Qb else Qb++[32]++rN (r.1.drop 1)
def Qk(d:ba)(l:z1'):aQ×ba:=(Qj (H.ry d.2 (bq l 0) (bq l 1)),d)
def Ql(r:z1'×z1'×Int):aQ:=if r.2.2≠0 then qE r.2.2 [] else rN r.1++[32,47,32]++rN r.2.1
def Qm(d:ba)(l:z1'):aQ×ba:=(Ql (H.sQ d.2 (bq l 0)),d)
def nu(w:bj)(t:Int×Int×Int×Int):bj:=(w.1,w.2.1,w.2.2.1,w.2.2.2++[t])
def yF(d:ba)(l:z1'):aQ×ba:=
 if cM (nu d.1.1 (bq l 0,bq l 1,bq l 2,bq l 3))≠0 then (Bu,d) else if (wa (nu d.1.1 (bq l 0,bq l 1,bq l 2,bq l 3)) (bq l 0)).2≠0 then (aq',d)
 else (rM,((nu d.1.1 (bq l 0,bq l 1,bq l 2,bq l 3),d.1.2),d.2))
def uC(r:Int×Int):aQ:=if r.2≠0 then qE r.2 [] else List.getD [[],[115,117,114,101,108,121],[110,101,118,101,114],[112,101,114,104,97,112,115]] r.1.toNat []
def Qn(d:ba)(l:z1'):aQ×ba:=(uC (qD d.1.1 (bq l 0) (bq l 1) (bq l 2)),d)
def uK(d:ba)(l:z1'):aQ×ba:=if bq l 0>=(d.1.2.1.length:Int) then (Bu,d) else mD d (d.1.1,d.1.2.1.set (bq l 0).toNat (d.1.2.1.getD (bq l 0).toNat 0+bq l 1),d.1.2.2)
def Qo(d:ba)(l:z1'):aQ×ba:=mD d (d.1.1,d.1.2.1,d.1.2.2.1,d.1.2.2.2.1,d.1.2.2.2.2.1++[(bq l 0,bq l 1,bq l 2)],d.1.2.2.2.2.2)
def Qp(d:ba)(l:z1'):aQ×ba:=mD d (d.1.1,d.1.2.1,d.1.2.2.1++[(bq l 0,bq l 1,bq l 2,bq l 3,l.drop 4)],d.1.2.2.2)
def Qq(d:ba)(l:z1'):aQ×ba:=mD d (d.1.1,d.1.2.1,d.1.2.2.1,d.1.2.2.2.1++[(l.drop 5,(bq l 0,bq l 1),bq l 2,bq l 3,bq l 4)],d.1.2.2.2.2)
def yG(d:ba)(l:z1'):aQ×ba:=if bq l 0>=(d.1.2.2.2.1.length:Int) then (Bu,d) else (rM,((d.1.1,d.1.2.1,d.1.2.2.1,d.1.2.2.2.1.eraseIdx (bq l 0).toNat,d.1.2.2.2.2),d.2))
def Qr(d:ba)(l:z1'):aQ×ba:=(qE (uH d.1 (bq l 0)).2 (uH d.1 (bq l 0)).1,d)
def Qs(d:ba)(l:z1'):aQ×ba:=(qE (yz d.1 (l.map (· - 1))).2 [(yz d.1 (l.map (· - 1))).1],d)
def Qt(d:ba)(_:z1'):aQ×ba:=(qE (wv d.1 true).2 [(wv d.1 true).1],d)
def Qu(d:ba)(_:z1'):aQ×ba:=(qE (uF d.1).2 [(uF d.1).1],d)
def yH:Nat->ba->z1'->aQ×ba
 | 0=>Qc | 1=>Qd | 2=>Qe | 3=>Qf | 4=>Qg | 5=>Qh | 6=>Qi | 7=>Qk | 8=>Qm | 9=>yF
 | 10=>Qn | 11=>uK | 12=>Qo | 13=>Qp | 14=>Qq | 15=>yG | 16=>Qr | 17=>Qs | 18=>Qt | _=>Qu
def kG:List (aQ×Int×Bool):=[([108,101,110,100],5,false),([98,97,99,107],4,false),([118,111,105,100],1,false),([108,97,115,116,115],1,false),([102,101,101],1,false),([111,119,101,115],1,false),([104,101,108,100],1,false),([119,104,101,114,101],2,false),([109,105,115,115,105,110,103],1,false),([116,114,105,97,108],4,false),([102,105,116,115],3,false),([115,116,111,99,107],2,false),([99,111,109,101,115],3,false),([112,105,101,99,101],4,true),([119,105,115,104],5,true),([100,114,111,112],1,false),([99,97,110],1,false),([116,97,107,101,115],0,true),([109,111,115,116],0,false),([101,120,116,114,97],0,false)]
def oi(w:aQ):List (aQ×Int×Bool)->Nat->Option (Int×Bool×Nat)
 | [],_=>none
 | p::l,i=>if w=p.1 then some (p.2.1,p.2.2,i) else oi w l (i+1)
def EZ(s:aQ):Option (Nat×z1'):=
 match oi ((cH s).getD 0 []) kG 0 with
 | none=>none
 | some (k,m,j)=>if (decide (((cH s).length:Int) - 1<k)||decide (((cH s).length:Int) - 1 > k)&&!m)=true then none else (EY ((cH s).drop 1)).map λl=>(j,l)
def l8(d:ba)(s:aQ):aQ×ba:=match EZ s with
 | none=>(ara,d)
 | some (j,l)=>yH j d l
def gQ:ba->List aQ->List aQ×ba
 | d,[]=>([],d)
 | d,s::l=>((l8 d s).1::(gQ (l8 d s).2 l).1,(gQ (l8 d s).2 l).2)
theorem Jp(d:ba)(a b:List aQ):gQ d (a++b)=((gQ d a).1++(gQ (gQ d a).2 b).1,(gQ (gQ d a).2 b).2):=by
 induction a generalizing d with
 | nil=>rfl
 | cons s a aJ=>simp only[List.cons_append,gQ,aJ]
theorem arb(d:ba)(a:List aQ):(gQ d a).1.length=a.length:=by
 induction a generalizing d with
 | nil=>rfl
 | cons s a aJ=>simp only[gQ,List.length_cons,aJ]
def kk(d:ba):Int:=if (decide (hz d.1≠0)||decide (H.cM d.2≠0))=true then 120 else 0
def iv(d:ba):ba:=(d.1,(H.oh d.2 [] []).1)
abbrev aam:ba:=((([],[],0,[]),[],[],[],[],0),[],[],[],[],0,0,0,0,0,0,0)
def E0(d:ba)(l:List aQ):List aQ×ba×Int:=
 if kk d≠0 then ([],aam,kk d) else if l.length > 40 then ([],aam,2) else ((gQ (iv d) l).1,(gQ (iv d) l).2,0)
structure dn(d:ba):Prop where
 fU:e8 d.1
 uL:hz d.1=0
 wA:H.cM d.2=0
 yI:H.kh d.2.1<=60
theorem dn.val{d:ba}(h:dn d):h2 d.1:=Bj h.fU h.uL
theorem dn.arc{d:ba}(h:dn d):kk d=0:=by simp[kk,h.uL,h.wA]
theorem dn.aan{d:ba}(h:dn d):H.aaj d.2:=H.Jo h.wA
theorem dn.gE{d:ba}(h:dn d):H.gE d.2:=by
 have:=h.aan;exact⟨⟨by have:=this.ec;omega,by have:=this.ef;omega,by have:=this.jl;omega,by have:=this.n4;omega⟩,λ_=>h.yI⟩
theorem dn.iy{d:ba}(h:dn d):H.iy d.2:=h.gE.fU
structure eE(k:Nat)(l:z1'):Prop where
 Qv:k<=l.length
 Jq:l.length<=10000
 num:∀ n∈l,0<=n/\n<=999999
theorem eE.bq{k:Nat}{l:z1'}(h:eE k l)(i:Nat):0<=bq l i/\bq l i<=999999:=by
 rcases Nat.lt_or_ge i l.length with G | G
 ·have:=h.num l[i] (by simp);grind
 ·grind
end Go.Fer.au
namespace Go.Fer.au
open A (V)
open H (e7)
abbrev Jr:aL:=⟨.int .i64,.str,λ_=>True,rL⟩
abbrev E1:aL:=⟨.az wz .str,.str,λx=>x.1.length<=60000/\(∀ w∈x.1,w.length<=21)/\x.2.length=1,λx=>Go.Lib.join x.1 x.2⟩
theorem aao:∀ (l:List aQ) (s:aQ) (n:Nat),(∀ w∈l,w.length<=n)->(Go.Lib.join l s).length<=l.length*(n+s.length)
 | [],s,n,h=>by simp[Go.Lib.join_nil]
 | x::r,s,n,h=>by
  rw[Go.Lib.join_cons];have aH:∀ (r:List aQ),(∀ w∈r,w.length<=n)->(Go.Lib.joinTail s r).length<=r.length*(n+s.length):=by
   intro r;induction r with
   | nil=>intro _;simp[Go.Lib.joinTail]
   | cons y r aJ=>
    intro h;have E:=aJ λw hw=>h w (by grind);have U:=h y (by simp);simp only[Go.Lib.joinTail,List.map_cons,List.flatten_cons,List.length_append,List.length_cons,Nat.succ_mul]at E ⊢;omega
  have E:=aH r λw hw=>h w (by grind);have U:=h x (by simp);simp only[List.length_append,List.length_cons,Nat.succ_mul];omega
theorem Qw(l:z1'):(rN l).length<=l.length*22+4:=by
 unfold rN;split
 ·simp
 ·have:=aao (l.map rL) [32] 21 λw hw=>by
   obtain⟨n,_,rfl⟩:=List.mem_map.1 hw;exact Qa n
  grind
abbrev yJ:aL:=⟨fP,.str,λx=>x.length<=60000,rN⟩
theorem ard(x):A.le (YF Jr.sh E1.sh x) (yJ.sh x):=A.bu λh=>by
 change x.length<=60000 at h;unfold YF;show _=A.pure (rN x);unfold rN;by_cases ag:x=[]
 ·grind
 ·have aj:x.length≠0:=by grind
  rw[if_neg (by grind),if_neg ag];rw[A.fC x (λi (o:List aQ)=>(x,(x.length:Int),(i:Int),o,())) (λn o=>.next (o++[rL n])) (λo=>.next (o,())) (λi o=>o.length=i) [] ?_ rfl ?_ ?_]
  ·rw[dP,qq,List.nil_append,A.aF,A.bX];rw[show E1.sh (x.map rL,[32])=A.pure (Go.Lib.join (x.map rL) [32]) from A.bR ⟨by grind,λw hw=>by
    obtain⟨n,_,rfl⟩:=List.mem_map.1 hw;exact Qa n,rfl⟩ _,A.aF]
  ·rfl
  ·intro i G o af;have hw:=bC (n:=(i:Int)+1) (by omega) (by omega);refine⟨?_,λbd cR=>?_⟩
   ·simp only[bV,cT G,if_true,df G,cG G,A.br,ch,hw];rw[show Jr.sh x[i]=A.pure (rL x[i]) from rfl,A.aF,A.bo (e7 (by grind))];rfl
   ·grind
  simp
abbrev qF:aL:=⟨.az (.int .i64) fP,.str,λx=>x.2.length<=60000,λx=>qE x.1 x.2⟩
theorem are(x):A.le (YE yJ.sh x) (qF.sh x):=A.bu λh=>by
 change x.2.length<=60000 at h;unfold YE;show _=A.pure (qE x.1 x.2);unfold qE;rw[show yJ.sh x.2=A.pure (rN x.2) from A.bR h _,A.aF];grind
abbrev yK:aL:=⟨.az mx (.int .i64),.str,λ_=>True,yE⟩
theorem arf(x):A.le (YD qF.sh x) (yK.sh x):=A.bu λ_=>by
 unfold YD;rw[show qF.sh (x.2,[x.1.1,x.1.2])=A.pure (yE x) from A.bR (show 2<=60000 by decide) _,A.aF]
theorem yL{e:Int}{l:z1'}(h:l.length<=60000):qF.sh (e,l)=A.pure (qE e l):=A.bR h _
theorem Qx{l:z1'}(h:l.length<=60000):yJ.sh l=A.pure (rN l):=A.bR h _
theorem Js(x:(Int×Int)×Int):yK.sh x=A.pure (yE x):=rfl
def fx(k:Nat)(g:ba->z1'->aQ×ba)(x:z1'×ba×Unit):A (aQ×ba×Unit):=A.dR (dn x.2.1/\eE k x.1) ((g x.2.1 x.1).1,(g x.2.1 x.1).2,())
theorem nv:Int.toNat 0=0:=rfl
theorem nw:Int.toNat 1=1:=rfl
theorem nx:Int.toNat 2=2:=rfl
theorem ny:Int.toNat 3=3:=rfl
theorem nz:Int.toNat 4=4:=rfl
theorem nA:Int.toNat 5=5:=rfl
theorem nB{ak:Type}{k:Nat}{l:z1'}(h:eE k l)(m:A ak)(i:Int)(G:0<=i/\i<(k:Int)):A.ab (0<=i/\i<Int.ofNat l.length) m=m:=
 A.bo ⟨G.1,by have:=h.Qv;grind⟩ m
def Bv(x:List H.a_×z1'×ba×Unit):A (aQ×ba×Unit):=A.dR (dn x.2.2.1/\x.1.length<2 ^ 63/\x.2.1.length<2 ^ 63) ((s8 x.2.2.1 x.1 x.2.1).1,(s8 x.2.2.1 x.1 x.2.1).2,())
theorem arh(x):A.le (Yz H.Bt.sh x) (Bv x):=A.bu λh=>by
 obtain⟨m,v,d,⟨⟩⟩:=x;obtain⟨ar,E,U⟩:=h;unfold Yz;rw[A.br,show H.Bt.sh (d.2,m,v)=A.pure (H.oh d.2 m v) from A.bR ⟨ar.iy,E,U⟩ _,A.aF];unfold s8;by_cases e:(H.oh d.2 m v).2=0<;>simp[e]
theorem Qy{d:ba}(ar:dn d)(m:List H.a_)(v:z1')(E:m.length<2 ^ 63)(U:v.length<2 ^ 63):Bv (m,v,d,())=A.pure ((s8 d m v).1,(s8 d m v).2,()):=A.bR ⟨ar,E,U⟩ _
theorem ari(x):A.le (Yy Bv x) (fx 5 Qc x):=A.bu λh=>by
 obtain⟨l,d,⟨⟩⟩:=x;obtain⟨ar,aj⟩:dn d/\eE _ l:=h;unfold Yy;simp (disch:=decide) only [nB aj,A.br,nv,nw,nx,ny,nz,nA];rw[Qy ar _ _ (by simp) (by simp),A.aF];rfl
theorem arj(x):A.le (YA Bv x) (fx 4 Qd x):=A.bu λh=>by
 obtain⟨l,d,⟨⟩⟩:=x;obtain⟨ar,aj⟩:dn d/\eE _ l:=h;unfold YA;simp (disch:=decide) only [nB aj,A.br,nv,nw,nx,ny,nz,nA];rw[Qy ar _ _ (by simp) (by simp),A.aF];rfl
theorem OT(x):A.le (YB Bv x) (fx 1 Qe x):=A.bu λh=>by
 obtain⟨l,d,⟨⟩⟩:=x;obtain⟨ar,aj⟩:dn d/\eE _ l:=h;unfold YB;rw[Qy ar _ _ (by simp) (show l.length<2 ^ 63 by have:=aj.Jq;omega),A.aF];rfl
theorem ark(x):A.le (YC H.Ih.sh yK.sh x) (fx 1 Qf x):=A.bu λh=>by
 obtain⟨l,d,⟨⟩⟩:=x;obtain⟨ar,aj⟩:dn d/\eE _ l:=h;unfold YC;simp (disch:=decide) only [nB aj,A.br,nv,nw,nx,ny,nz,nA];rw[show H.Ih.sh (d.2,bq l 0)=A.pure _ from A.bR ar.gE _];simp only[A.iz,A.fs,A.br,Js];rfl
theorem arl(x):A.le (YG H.AT.sh yK.sh x) (fx 1 Qg x):=A.bu λh=>by
 obtain⟨l,d,⟨⟩⟩:=x;obtain⟨ar,aj⟩:dn d/\eE _ l:=h;unfold YG;simp (disch:=decide) only [nB aj,A.br,nv,nw,nx,ny,nz,nA];rw[show H.AT.sh (d.2,bq l 0)=A.pure _ from A.bR ar.gE _];simp only[A.iz,A.fs,A.br,Js];rfl
theorem arn(x):A.le (YH H.Ij.sh yK.sh x) (fx 1 Qh x):=A.bu λh=>by
 obtain⟨l,d,⟨⟩⟩:=x;obtain⟨ar,aj⟩:dn d/\eE _ l:=h;unfold YH;simp (disch:=decide) only [nB aj,A.br,nv,nw,nx,ny,nz,nA];rw[show H.Ij.sh (d.2,bq l 0)=A.pure _ from A.bR ar.gE _];simp only[A.iz,A.fs,A.br,Js];rfl
theorem aro(x):A.le (YI H.Il.sh yK.sh x) (fx 1 Qi x):=A.bu λh=>by
 obtain⟨l,d,⟨⟩⟩:=x;obtain⟨ar,aj⟩:dn d/\eE _ l:=h;unfold YI;simp (disch:=decide) only [nB aj,A.br,nv,nw,nx,ny,nz,nA];rw[show H.Il.sh (d.2,bq l 0)=A.pure _ from A.bR ar.gE _];simp only[A.iz,A.fs,A.br,Js];rfl
theorem Qz{a b:Int}:(ev a b).length=(b+1 - a).toNat:=by simp[ev];omega
theorem arp(c:H.aZ)(u t:Int):(H.ry c u t).1.length<=101:=Nat.le_trans (List.length_filter_le ..) (by rw[Qz];decide)
theorem arq{c:H.aZ}{u t:Int}(h:(H.ry c u t).2=0):0<(H.ry c u t).1.length:=by
 unfold H.ry at h ⊢;rcases H.AZ c (H.vQ u t) with⟨E,_⟩ | ⟨E,U,ah,a1⟩
 ·omega
 ·have aB:=H.oX U;have cL:(0<=u/\u<=9)/\0<=t/\t<=9999:=by
   unfold H.vQ at ah;rw[Bool.and_eq_true,H.oT,H.oT]at ah;exact ah
  have eP:H.cP c≠[]:=by
   intro he;unfold H.eK at E;grind
  obtain⟨w,T,aU⟩:=List.exists_cons_of_ne_nil eP;have hw:H.iS c w=true:=H.vU (by grind);have al:=H.Yp aB hw cL.1 t;have W:-1<=H.lB c w u t/\H.lB c w u t<=99:=by
   rcases H.Pa c w u t with h | ⟨s,aD,h⟩
   ·omega
   ·rw[h];obtain⟨e,he,rfl⟩:=List.mem_map.1 aD;have:=H.O9 aB (List.mem_filter.1 he).1;omega
  refine List.length_pos_of_mem (a:=H.lB c w u t) (List.mem_filter.2 ⟨sC.2 W,?_⟩);rw[List.contains_iff_mem];unfold H.ON;grind
theorem ars(x):A.le (YJ H.Im.sh qF.sh yJ.sh x) (fx 2 Qk x):=A.bu λh=>by
 obtain⟨l,d,⟨⟩⟩:=x;obtain⟨ar,aj⟩:dn d/\eE _ l:=h;unfold YJ;simp (disch:=decide) only [nB aj,A.br,nv,nw,nx,ny,nz,nA];have E:=arp d.2 (bq l 0) (bq l 1);have U:=arq (c:=d.2) (u:=bq l 0) (t:=bq l 1);have hc:H.Im.sh (d.2,bq l 0,bq l 1)=A.pure (H.ry d.2 (bq l 0) (bq l 1)):=A.bR ar.gE _;simp only[hc];show _=A.pure (Qj (H.ry d.2 (bq l 0) (bq l 1)),d,());generalize H.ry d.2 (bq l 0) (bq l 1)=r at *
 simp only[A.iz,A.fs,A.br];rw[A.bo (λW=>⟨⟨W,trivial⟩,⟨by decide,by grind⟩,trivial⟩),yL (by omega),A.aF];unfold Qj;by_cases e:(decide (r.2≠0)||decide (r.1.getD 0 0>=0))=true
 ·grind
 ·rw[if_neg e,if_neg e];have bG:r.2=0:=by grind
  have an:=U bG;by_cases ax:r.1.length=1
  ·grind
  ·rw[if_neg (by grind),if_neg ax];rw[A.bo ⟨by decide,by grind,Int.le_refl _⟩];have pH:List.take (Int.ofNat r.1.length).toNat r.1=r.1:=by simp
   rw[pH];rw[Qx (by grind),A.aF];have lP:=Qw (r.1.drop 1);rw[A.bo (e7 (by grind))];rfl
theorem art(c:H.aZ)(t:Int):(H.sQ c t).1.length<=10/\(H.sQ c t).2.1.length<=10:=by
 unfold H.sQ;split
 ·simp
 ·exact⟨Nat.le_trans (List.length_filter_le ..) (by rw[Qz];decide),Nat.le_trans (List.length_filter_le ..) (by rw[Qz];decide)⟩
theorem aru(x):A.le (YK H.Io.sh qF.sh yJ.sh x) (fx 1 Qm x):=A.bu λh=>by
 obtain⟨l,d,⟨⟩⟩:=x;obtain⟨ar,aj⟩:dn d/\eE _ l:=h;unfold YK;simp (disch:=decide) only [nB aj,A.br,nv,nw,nx,ny,nz,nA];have E:=art d.2 (bq l 0);have hc:H.Io.sh (d.2,bq l 0)=A.pure (H.sQ d.2 (bq l 0)):=A.bR ar.gE _;simp only[hc];show _=A.pure (Ql (H.sQ d.2 (bq l 0)),d,());generalize H.sQ d.2 (bq l 0)=r at *
 simp only[A.iz,A.fs,A.br];rw[yL (by simp),Qx (by omega),Qx (by omega)];have e1:=Qw r.1;have oo:=Qw r.2.1;unfold Ql;by_cases e:r.2.2=0
 ·simp only[A.aF];rw[A.bo (e7 (by grind)),A.bo (e7 (by grind))];simp[e]
 ·simp[e]
theorem arv(w:bj)(i m k:Int):0<=uy w i m k/\uy w i m k<4:=by
 unfold uy Iw;grind
theorem arw(x):A.le (YM Bb.sh qF.sh x) (fx 3 Qn x):=A.bu λh=>by
 obtain⟨l,d,⟨⟩⟩:=x;obtain⟨ar,aj⟩:dn d/\eE _ l:=h;unfold YM;simp (disch:=decide) only [nB aj,A.br,nv,nw,nx,ny,nz,nA];have hc:Bb.sh (d.1.1,bq l 0,bq l 1,bq l 2)=A.pure (qD d.1.1 (bq l 0) (bq l 1) (bq l 2)):=A.bR ar.fU.1 _;simp only[hc];show _=A.pure (uC (qD d.1.1 (bq l 0) (bq l 1) (bq l 2)),d,());have E:0<=(qD d.1.1 (bq l 0) (bq l 1) (bq l 2)).1/\(qD d.1.1 (bq l 0) (bq l 1) (bq l 2)).1<4:=by
  have:=arv d.1.1 (bq l 0) (bq l 1) (bq l 2);unfold qD;grind
 generalize qD d.1.1 (bq l 0) (bq l 1) (bq l 2)=r at *
 simp only[A.iz,A.fs,A.br];rw[yL (by simp),A.bo ⟨E.1,E.2⟩];unfold uC;by_cases e:r.2=0<;>simp[e]
theorem arx{s:bp}(h:h2 s)(w:Int):(uH s w).1.length<=2000:=by
 have:=h.EN;unfold uH aaa;grind
theorem ary(x):A.le (YU Jb.sh qF.sh x) (fx 1 Qr x):=A.bu λh=>by
 obtain⟨l,d,⟨⟩⟩:=x;obtain⟨ar,aj⟩:dn d/\eE _ l:=h;unfold YU;simp (disch:=decide) only [nB aj,A.br,nv,nw,nx,ny,nz,nA];rw[show Jb.sh (d.1,bq l 0)=A.pure (uH d.1 (bq l 0)) from A.bR ar.fU _];have:=arx ar.val (bq l 0);simp only[A.iz,A.fs,A.br];rw[yL (show (uH d.1 (bq l 0)).1.length<=60000 by omega),A.aF];rfl
def Jt(x:z1'×Unit):A (z1'×Unit):=A.dR (x.1.length<=3000000) x
theorem arz(x):A.le (YV yA.sh Jt qF.sh x) (fx 0 Qs x):=A.bu λh=>by
 obtain⟨l,d,⟨⟩⟩:=x;obtain⟨ar,aj⟩:dn d/\eE _ l:=h;have hm:=aj.Jq;change l.length<=10000 at hm;unfold YV;rw[show Jt (l,())=A.pure (l,()) from A.bR (by grind) _,A.aF];rw[A.fC l (λi (o:z1')=>((l.length:Int),(i:Int),o++l.drop i,d,())) (λn o=>.next (o++[n - 1])) (λo=>.next (o,d,())) (λi o=>o.length=i) [] ?_ rfl ?_ ?_]
 ·rw[dP,qq,List.nil_append,A.aF,A.bX,A.br];rw[show yA.sh (d.1,l.map (· - 1))=A.pure (yz d.1 (l.map (· - 1))) from A.bR ⟨ar.fU,by grind⟩ _,A.aF,yL (by simp),A.aF];rfl
 ·simp
 ·intro i G o af;have hw:=bC (n:=(i:Int)+1) (by omega) (by omega);have aw:=aj.num l[i] (by simp);have gU:=bC (n:=l[i] - 1) (by omega) (by omega);subst af;have cc:o.length<(o++l.drop o.length).length:=by grind
  have aB:(o++l.drop o.length)[o.length]=l[o.length]:=by simp
  have aD:(o++l.drop o.length).set o.length (l[o.length] - 1)=o++[l[o.length] - 1]++l.drop (o.length+1):=by
   rw[List.set_append_right _ _ (Nat.le_refl _),Nat.sub_self,List.drop_eq_getElem_cons G,List.set_cons_zero,List.append_assoc];rfl
  refine⟨?_,λbd cR=>?_⟩
  ·simp only[bV,cT G,if_true,cG cc,A.br,ch,hw];rw[show (o++l.drop o.length).getD (Int.toNat (o.length:Int)) 0=l[o.length] by grind,gU,Int.toNat_natCast,aD];rfl
  ·grind
 simp
theorem arA(x):A.le (YW yy.sh qF.sh x) (fx 0 Qt x):=A.bu λh=>by
 obtain⟨l,d,⟨⟩⟩:=x;obtain⟨ar,aj⟩:dn d/\eE _ l:=h;unfold YW;rw[A.br,show yy.sh d.1=A.pure (wv d.1 true) from A.bR ar.fU _,A.aF,yL (by simp),A.aF];rfl
theorem arB(x):A.le (YX uG.sh qF.sh x) (fx 0 Qu x):=A.bu λh=>by
 obtain⟨l,d,⟨⟩⟩:=x;obtain⟨ar,aj⟩:dn d/\eE _ l:=h;unfold YX;rw[A.br,show uG.sh d.1=A.pure (uF d.1) from A.bR ar.fU _,A.aF,yL (by simp),A.aF];rfl
def QA{ak:Type}(x:List ak×Unit):A (List ak×Unit):=A.bind (A.any λ(b:Bool)=>b=true->x.1=[]) λ(y:Bool)=>if y=true then A.pure ([],()) else A.ab (bM (Add.add 0 (List.length x.1))) (A.pure ([]++x.1,()))
abbrev fQ(t:ad):aL:=⟨.slice t,.slice t,λx=>x.length<=3000000,λx=>x⟩
def qG{ak:Type}(x:List ak×Unit):A (List ak×Unit):=A.dR (x.1.length<=3000000) x
theorem wB{ak:Type}(x:List ak×Unit):A.le (QA x) (qG x):=A.sA λh=>by
 unfold QA;rw[A.f'];refine⟨⟨false,by simp⟩,λb W=>?_⟩;change b=true->x.1=[]at W;obtain⟨l,⟨⟩⟩:=x;cases b with
 | true=>rw[show l=[] from W rfl];exact A.ea.2 rfl
 | false=>
  simp only[Bool.false_eq_true,if_false];exact A.kK.2 ⟨by change l.length<=3000000 at h;simp only[gW,bM];omega,A.ea.2 (by simp)⟩
theorem arC(x:z1'×Unit):A.le (QA x) (Jt x):=wB x
def aap{ak:Type}(z:ak)(x:Int×Int×List ak×Unit):A ((Nat×Nat)×List ak×Unit):=
 A.ab (0<=x.1/\x.1<=x.2.1/\x.2.1<=Int.ofNat (List.length x.2.2.1)/\Int.ofNat (List.length x.2.2.1)<=Int.ofNat (List.length x.2.2.1)) (if decide
 (x.1=x.2.1)=true then A.pure ((0,List.length x.2.2.1),x.2.2.1,()) else A.ab ((0:Int)<=0/\0<=x.1/\x.1<=Int.ofNat (List.length x.2.2.1))
 (A.ab (0<=x.2.1/\x.2.1<=Int.ofNat (List.length x.2.2.1)/\Int.ofNat (List.length x.2.2.1)<=Int.ofNat (List.length x.2.2.1)) (A.ab (Add.add
 (Int.toNat x.1) (List.length (List.drop (Int.toNat x.2.1) (List.take (Int.toNat (Int.ofNat (List.length x.2.2.1))) x.2.2.1)))<=List.length x.2.2.1)
 (A.ab (0<=Int.ofNat (Add.add (Int.toNat x.1) (List.length (List.drop (Int.toNat x.2.1) (List.take (Int.toNat (Int.ofNat (List.length x.2.2.1)))
 x.2.2.1))) - Int.toNat 0)/\Int.ofNat (Add.add (Int.toNat x.1) (List.length (List.drop (Int.toNat x.2.1) (List.take (Int.toNat (Int.ofNat (List.length
 x.2.2.1))) x.2.2.1))) - Int.toNat 0)<=Int.ofNat (List.length x.2.2.1)/\Int.ofNat (List.length x.2.2.1)<=Int.ofNat (List.length (List.take
 (Int.toNat x.1) x.2.2.1++List.drop (Int.toNat x.2.1) (List.take (Int.toNat (Int.ofNat (List.length x.2.2.1))) x.2.2.1)++List.drop (Add.add
 (Int.toNat x.1) (List.length (List.drop (Int.toNat x.2.1) (List.take (Int.toNat (Int.ofNat (List.length x.2.2.1))) x.2.2.1)))) x.2.2.1) - Int.toNat
 0)) (A.ab True (A.pure ((Int.toNat 0,Add.add (Int.toNat x.1) (List.length (List.drop (Int.toNat x.2.1) (List.take (Int.toNat (Int.ofNat (List.length
 x.2.2.1))) x.2.2.1)))),List.take (Add.add (Int.toNat 0) (Int.toNat (Int.ofNat (Add.add (Int.toNat x.1) (List.length (List.drop (Int.toNat x.2.1)
 (List.take (Int.toNat (Int.ofNat (List.length x.2.2.1))) x.2.2.1))) - Int.toNat 0)))) (List.take (Int.toNat x.1) x.2.2.1++List.drop (Int.toNat
 x.2.1) (List.take (Int.toNat (Int.ofNat (List.length x.2.2.1))) x.2.2.1)++List.drop (Add.add (Int.toNat x.1) (List.length (List.drop (Int.toNat
 x.2.1) (List.take (Int.toNat (Int.ofNat (List.length x.2.2.1))) x.2.2.1)))) x.2.2.1)++List.replicate (Add.add (Int.toNat 0) (Int.toNat (Int.ofNat
 (List.length x.2.2.1))) - Add.add (Int.toNat 0) (Int.toNat (Int.ofNat (Add.add (Int.toNat x.1) (List.length (List.drop (Int.toNat x.2.1) (List.take
 (Int.toNat (Int.ofNat (List.length x.2.2.1))) x.2.2.1))) - Int.toNat 0)))) z++List.drop (Add.add (Add.add (Int.toNat 0) (Int.toNat (Int.ofNat
 (Add.add (Int.toNat x.1) (List.length (List.drop (Int.toNat x.2.1) (List.take (Int.toNat (Int.ofNat (List.length x.2.2.1))) x.2.2.1))) - Int.toNat
 0)))) (List.length (List.replicate (Add.add (Int.toNat 0) (Int.toNat (Int.ofNat (List.length x.2.2.1))) - Add.add (Int.toNat 0) (Int.toNat (Int.ofNat
 (Add.add (Int.toNat x.1) (List.length (List.drop (Int.toNat x.2.1) (List.take (Int.toNat (Int.ofNat (List.length x.2.2.1))) x.2.2.1))) - Int.toNat
 0)))) z))) (List.take (Int.toNat x.1) x.2.2.1++List.drop (Int.toNat x.2.1) (List.take (Int.toNat (Int.ofNat (List.length x.2.2.1))) x.2.2.1)++
 List.drop (Add.add (Int.toNat x.1) (List.length (List.drop (Int.toNat x.2.1) (List.take (Int.toNat (Int.ofNat (List.length x.2.2.1))) x.2.2.1))))
 x.2.2.1),())))))))
def Ju{ak:Type}(z:ak)(x:Int×Int×List ak×Unit):A ((Nat×Nat)×List ak×Unit):=A.dR (0<=x.1/\x.2.1=x.1+1/\x.1<(x.2.2.1.length:Int)/\x.2.2.1.length<=3000000) ((0,x.2.2.1.length - 1),x.2.2.1.eraseIdx x.1.toNat++[z],())
theorem arD{ak:Type}(z:ak)(x):A.le (aap z x) (Ju z x):=A.bu λh=>by
 obtain⟨i,j,l,⟨⟩⟩:=x;obtain⟨aX,E,U,ah⟩:0<=i/\j=i+1/\i<(l.length:Int)/\l.length<=3000000:=h;subst E;obtain⟨n,rfl⟩:∃ n:Nat,i=n:=⟨i.toNat,by omega⟩
 have aw:n<l.length:=by omega
 have ax:((n:Int)+1).toNat=n+1:=by omega
 unfold aap;simp only[bV,Int.toNat_natCast,ax,List.take_length,gW,Int.toNat_zero,Nat.sub_zero,Nat.zero_add,List.length_drop];have aM:n+(l.length - (n+1))=l.length - 1:=by omega
 have cD:(l.take n++l.drop (n+1)++l.drop (l.length - 1))=l.eraseIdx n++l.drop (l.length - 1):=by rw[List.eraseIdx_eq_take_drop_succ]
 have et:(l.eraseIdx n).length=l.length - 1:=by rw[List.length_eraseIdx_of_lt aw]
 have eb:l.length - (l.length - 1)=1:=by omega
 rw[A.bo (by omega),if_neg (by simp;omega),A.bo (by omega),A.bo (by omega),A.bo (by omega)];rw[aM,cD,A.bo (by simp[et]),A.br];show _=A.pure ((0,l.length - 1),l.eraseIdx n++[z],());have k8:(l.eraseIdx n++l.drop (l.length - 1)).take (l.length - 1)=l.eraseIdx n:=by rw[List.take_append_of_le_length (by omega),List.take_of_length_le (by omega)]
 have tt:(l.eraseIdx n++l.drop (l.length - 1)).drop l.length=[]:=List.drop_eq_nil_of_le (by simp[et]);simp only[eb,k8,List.replicate_one,List.length_cons,List.length_nil,Nat.zero_add];rw[show l.length - 1+1=l.length by omega,tt,List.append_nil]
def wC(x:bp×Unit):A vW:=A.dR (yB x.1) (iR x.1)
theorem Jv{x:z1'}(h:x.length<=2000000):H.oV.sh x=A.pure x:=A.bR (by show List.length x<=3000000;omega) _
theorem yM{t:ad}{x:(ad.slice t).ai}(h:List.length x<=2000000):(fQ t).sh x=A.pure x:=A.bR (by show List.length x<=3000000;omega) _
theorem aaq{gx:Type}{s:bp}(h:yB s)(fin:bp->A gx):It (fQ kE).sh (fQ k3).sh (fQ jX).sh qG H.oV.sh (fQ nn).sh (fQ mA).sh (fQ pQ).sh s fin=fin s:=by
 obtain⟨⟨cn,c_,eY,AP⟩,U,ah,a1,bK,dp,fF⟩:=h;obtain⟨⟨sp,mk,cut,aV⟩,st,pc,wi,de,i_⟩:=s;change sp.length<=2000000 at cn;change mk.length<=2000000 at c_;change aV.length<=2000000 at eY;change ∀ m∈mk,m.length<=2000000/\∀ s∈m,s.2.1.length<=2000000 at AP;change st.length<=2000000 at U;change pc.length<=2000000 at ah;change wi.length<=2000000 at a1;change de.length<=2000000 at bK;change ∀ p∈pc,p.2.2.2.2.length<=2000000 at dp;change ∀ p∈wi,p.1.length<=2000000 at fF;have aO:(fQ kE).sh sp=A.pure sp:=yM cn;have aR:(fQ k3).sh mk=A.pure mk:=yM c_;have bO:(fQ jX).sh aV=A.pure aV:=yM eY;have fI:H.oV.sh st=A.pure st:=Jv U;have mT:(fQ nn).sh pc=A.pure pc:=yM ah;have tS:(fQ mA).sh wi=A.pure wi:=yM a1;have DA:(fQ pQ).sh de=A.pure de:=yM bK;unfold It;simp only[aO,aR,bO,A.iz,A.fs,A.br];rw[A.dB mk (λi (_:Unit)=>((mk.length:Int),(i:Int),cut,st,pc,wi,de,i_,0,0,sp,mk,aV,())) (λp b=>.next b) (λ_=>.next (cut,st,pc,wi,de,i_,0,0,sp,mk,aV,())) () ?_ ?_ ?_]
 ·rw[dP,A.aF,A.bX];simp only[fI,mT,tS,DA,A.iz,A.fs,A.br];rw[A.dB pc (λi (_:Unit)=>((pc.length:Int),(i:Int),cut,i_,0,0,sp,mk,aV,st,pc,wi,de,())) (λp b=>.next b) (λ_=>.next (cut,i_,0,0,sp,mk,aV,st,pc,wi,de,())) () ?_ ?_ ?_]
  ·rw[dP,A.aF,A.bX];rw[A.dB wi (λi (_:Unit)=>((wi.length:Int),(i:Int),cut,i_,0,0,sp,mk,aV,st,pc,wi,de,())) (λp b=>.next b) (λ_=>.next (cut,i_,0,0,sp,mk,aV,st,pc,wi,de,())) () ?_ ?_ ?_]
   ·rw[dP,A.aF,A.bX]
   ·rfl
   ·intro i G b;have hw:=bC (n:=(i:Int)+1) (by omega) (by omega);have hc:H.oV.sh wi[i].1=A.pure wi[i].1:=Jv (fF _ (List.getElem_mem G));have mQ:wi.set i (wi[i].1,wi[i].2)=wi:=List.set_getElem_self G;simp only[bV,cT G,if_true,df G,cG G,A.br,ch,hw];simp only[hc,A.iz,A.fs,A.br,Int.toNat_natCast,mQ];rfl
   ·simp
  ·rfl
  ·intro i G b;have hw:=bC (n:=(i:Int)+1) (by omega) (by omega);have hc:H.oV.sh pc[i].2.2.2.2=A.pure pc[i].2.2.2.2:=Jv (dp _ (List.getElem_mem G));have mQ:pc.set i (pc[i].1,pc[i].2.1,pc[i].2.2.1,pc[i].2.2.2.1,pc[i].2.2.2.2)=pc:=List.set_getElem_self G;simp only[bV,cT G,if_true,df G,cG G,A.br,ch,hw];simp only[hc,A.iz,A.fs,A.br,Int.toNat_natCast,mQ];rfl
  ·simp
 ·rfl
 ·intro i G b;have hw:=bC (n:=(i:Int)+1) (by omega) (by omega);obtain⟨hm,aD⟩:=AP _ (List.getElem_mem G);have hc:qG (mk[i],())=A.pure (mk[i],()):=A.bR (by show mk[i].length<=3000000;omega) _;have arE:mk.set i mk[i]=mk:=List.set_getElem_self G;simp only[bV,cT G,if_true,df G,cG G,A.br,ch,hc,A.aF];simp only[Int.toNat_natCast];rw[A.dB mk[i] (λj (_:Unit)=>(i,(mk.length:Int),(i:Int),(mk[i].length:Int),(j:Int),cut,st,pc,wi,de,i_,0,0,sp,(mk,i),aV,mk[i],())) (λp b=>.next b) (λ_=>.next ((mk.length:Int),(i:Int),cut,st,pc,wi,de,i_,0,0,sp,(mk,i),aV,mk[i],())) () ?_ ?_ ?_]
  ·rw[dP,A.aF,A.bX];simp only[hw,arE];rfl
  ·rfl
  ·intro j aE b;have hw:=bC (n:=(j:Int)+1) (by omega) (by omega);have hc:H.oV.sh mk[i][j].2.1=A.pure mk[i][j].2.1:=Jv (aD _ (List.getElem_mem aE));have mQ:mk[i].set j (mk[i][j].1,mk[i][j].2.1,mk[i][j].2.2)=mk[i]:=List.set_getElem_self aE;simp only[Prod.db,Prod.ft,Prod.gM,bV,cT aE,if_true,df aE,cG aE,A.br,ch,hw];simp only[hc,A.iz,A.fs,A.br,Int.toNat_natCast,mQ];rfl
  ·simp
 ·simp
theorem arF(x):A.le (an2 (fQ kE).sh (fQ k3).sh (fQ jX).sh qG H.oV.sh (fQ nn).sh (fQ mA).sh (fQ pQ).sh x) (wC x):=A.bu λh=>aaq h _
abbrev Jw:aL:=⟨k5,k5,yB,λs=>s⟩
theorem arG(x):A.le (an1 (fQ kE).sh (fQ k3).sh (fQ jX).sh qG H.oV.sh (fQ nn).sh (fQ mA).sh (fQ pQ).sh x) (Jw.sh x):=A.bu λh=>aaq h _
def wD(x:bp×ba×Unit):A (aQ×ba×Unit):=A.dR (dn x.2.1/\e8 x.1) ((mD x.2.1 x.1).1,(mD x.2.1 x.1).2,())
theorem arH(x):A.le (YO mB.sh x) (wD x):=A.bu λh=>by
 obtain⟨s,d,⟨⟩⟩:=x;obtain⟨ar,aD⟩:dn d/\e8 s:=h;unfold YO;rw[show mB.sh s=A.pure (hz s) from A.bR aD _,A.aF];show _=A.pure ((mD d s).1,(mD d s).2,());unfold mD;by_cases e:hz s=0<;>simp[e]
theorem arI{d:ba}(ar:dn d){s:bp}(aD:e8 s):wD (s,d,())=A.pure ((mD d s).1,(mD d s).2,()):=A.bR ⟨ar,aD⟩ _
theorem Jx{d:ba}(ar:dn d)(s:bp)(aD:e8 s):A.bind (wD (s,d,())) (λy=>A.pure (y.1,y.2.1,()))=A.pure ((mD d s).1,(mD d s).2,()):=by rw[arI ar aD,A.aF]
theorem dn.copy{d:ba}(h:dn d):yB d.1:=aqH h.val
theorem E2{d:ba}(h:dn d):wC (d.1,())=A.pure (iR d.1):=A.bR h.copy _
theorem arJ(x):A.le (YL yj.sh wC hZ.sh x) (fx 4 yF x):=A.bu λh=>by
 obtain⟨l,d,⟨⟩⟩:=x;obtain⟨ar,aj⟩:dn d/\eE _ l:=h;have hc:=ar.copy;have aD:gO (nu d.1.1 (bq l 0,bq l 1,bq l 2,bq l 3)):=⟨ar.fU.1.1,ar.fU.1.2.1,by have:=hc.1.2.2.1;simp only[nu,List.length_append,List.length_cons,List.length_nil];omega,ar.fU.1.2.2.2⟩
 unfold YL;rw[A.br,E2 ar,A.aF];simp (disch:=decide) only [nB aj,A.br,nv,nw,nx,ny,nz,nA];rw[A.bo (by have:=hc.1.2.2.1;simp only[gW,bM,iR];omega)];show A.bind (hZ.sh (nu d.1.1 (bq l 0,bq l 1,bq l 2,bq l 3))) _=A.pure ((yF d l).1,(yF d l).2,());rw[show hZ.sh (nu d.1.1 (bq l 0,bq l 1,bq l 2,bq l 3))=A.pure (cM (nu d.1.1 (bq l 0,bq l 1,bq l 2,bq l 3))) from A.bR aD _,A.aF];have hlen:yj.sh (nu d.1.1 (bq l 0,bq l 1,bq l 2,bq l 3),bq l 0)=A.pure (wa (nu d.1.1 (bq l 0,bq l 1,bq l 2,bq l 3)) (bq l 0)):=A.bR aD _;have Cx:yj.sh (((iR d.1).1,(iR d.1).2.1,(iR d.1).2.2.1,(iR d.1).2.2.2.2.1++[(bq l 0,bq l 1,bq l 2,bq l 3)]),bq l 0)=A.pure (wa (nu d.1.1 (bq l 0,bq l 1,bq l 2,bq l 3)) (bq l 0)):=hlen;simp only[Cx,A.iz,A.fs,A.br];unfold yF;by_cases e:cM (nu d.1.1 (bq l 0,bq l 1,bq l 2,bq l 3))=0
 ·by_cases aM:(wa (nu d.1.1 (bq l 0,bq l 1,bq l 2,bq l 3)) (bq l 0)).2=0
  ·simp only[e,aM,ne_eq,not_true_eq_false,decide_false,Bool.false_eq_true,if_false];rfl
  grind
 grind
theorem arK(x):A.le (YN wC wD x) (fx 2 uK x):=A.bu λh=>by
 obtain⟨l,d,⟨⟩⟩:=x;obtain⟨ar,aj⟩:dn d/\eE _ l:=h;have hc:=ar.copy;unfold YN;rw[A.br,E2 ar,A.aF];simp (disch:=decide) only [nB aj,A.br,nv,nw,nx,ny,nz,nA];show _=A.pure ((uK d l).1,(uK d l).2,());unfold uK;have aX:=aj.bq 0;have E:=aj.bq 1;by_cases e:bq l 0>=(d.1.2.1.length:Int)
 ·rw[if_pos (by simpa [iR]using e),if_pos e]
 ·rw[if_neg (by simpa [iR]using e),if_neg e];have aw:(bq l 0).toNat<d.1.2.1.length:=by omega
  rw[A.bo ⟨aX.1,by show bq l 0<(d.1.2.1.length:Int);omega⟩,A.bo ⟨aX.1,by show bq l 0<(d.1.2.1.length:Int);omega⟩];have ae:∀ n∈d.1.2.1,0<=n/\n<=10:=λn aw=>by
   have:=ar.val.qy.2;have fV:=ar.uL;unfold hz at fV;grind [l5,bZ]
  have W:=ae _ (List.getElem_mem aw);have aB:d.1.2.1.getD (bq l 0).toNat 0=d.1.2.1[(bq l 0).toNat]:=by grind
  have hw:=bC (n:=d.1.2.1.getD (bq l 0).toNat 0+bq l 1) (by omega) (by omega);have gU:IntKind.wrap .i64 (Add.add ((iR d.1).2.2.2.2.2.1.getD (bq l 0).toNat 0) (bq l 1))=d.1.2.1.getD (bq l 0).toNat 0+bq l 1:=hw;rw[gU];exact Jx ar (d.1.1,d.1.2.1.set (bq l 0).toNat (d.1.2.1.getD (bq l 0).toNat 0+bq l 1),d.1.2.2) ⟨ar.fU.1,by show (List.set d.1.2.1 _ _).length<_;rw[List.length_set];exact ar.fU.2.1,ar.fU.2.2⟩
theorem arL(x):A.le (YP wC wD x) (fx 3 Qo x):=A.bu λh=>by
 obtain⟨l,d,⟨⟩⟩:=x;obtain⟨ar,aj⟩:dn d/\eE _ l:=h;have hc:=ar.copy;have bK:=hc.2.2.2.2.1;obtain⟨ey,dN,eJ,oI,s9,s_,ta⟩:=ar.fU;unfold YP;rw[A.br,E2 ar,A.aF];simp (disch:=decide) only [nB aj,A.br,nv,nw,nx,ny,nz,nA];rw[A.bo (by simp only[gW,bM,iR];omega)];exact Jx ar (d.1.1,d.1.2.1,d.1.2.2.1,d.1.2.2.2.1,d.1.2.2.2.2.1++[(bq l 0,bq l 1,bq l 2)],d.1.2.2.2.2.2) ⟨ey,dN,eJ,oI,by grind,s_,ta⟩
theorem arM(x):A.le (YQ wC wD x) (fx 4 Qp x):=A.bu λh=>by
 obtain⟨l,d,⟨⟩⟩:=x;obtain⟨ar,aj⟩:dn d/\eE _ l:=h;have hc:=ar.copy;have bK:=hc.2.2.1;have hm:=aj.Jq;have hle:4<=l.length:=aj.Qv;obtain⟨ey,dN,eJ,oI,s9,s_,ta⟩:=ar.fU;unfold YQ;rw[A.br,E2 ar,A.aF];simp (disch:=decide) only [nB aj,A.br,nv,nw,nx,ny,nz,nA];rw[A.bo ⟨by decide,by grind,Int.le_refl _⟩,A.bo (by simp only[gW,bM,iR];omega)];simp only[bV,Int.toNat_natCast,List.take_length];exact Jx ar (d.1.1,d.1.2.1,d.1.2.2.1++[(bq l 0,bq l 1,bq l 2,bq l 3,l.drop 4)],d.1.2.2.2) ⟨ey,dN,by grind,oI,s9,λp an=>by
  grind,ta⟩
theorem arN(x):A.le (YR wC wD x) (fx 5 Qq x):=A.bu λh=>by
 obtain⟨l,d,⟨⟩⟩:=x;obtain⟨ar,aj⟩:dn d/\eE _ l:=h;have hc:=ar.copy;have bK:=hc.2.2.2.1;have hm:=aj.Jq;have hle:5<=l.length:=aj.Qv;obtain⟨ey,dN,eJ,oI,s9,s_,ta⟩:=ar.fU;unfold YR;rw[A.br,E2 ar,A.aF];simp (disch:=decide) only [nB aj,A.br,nv,nw,nx,ny,nz,nA];rw[A.bo ⟨by decide,by grind,Int.le_refl _⟩,A.bo (by simp only[gW,bM,iR];omega)];simp only[bV,Int.toNat_natCast,List.take_length];exact Jx ar (d.1.1,d.1.2.1,d.1.2.2.1,d.1.2.2.2.1++[(l.drop 5,(bq l 0,bq l 1),bq l 2,bq l 3,bq l 4)],d.1.2.2.2.2) ⟨ey,dN,eJ,by grind,s9,s_,λp an=>by
  grind⟩
abbrev Jy:dm:=([],(0,0),0,0,0)
theorem arO(x):A.le (YS (fQ mA).sh (Ju Jy) x) (fx 1 yG x):=A.bu λh=>by
 obtain⟨l,d,⟨⟩⟩:=x;obtain⟨ar,aj⟩:dn d/\eE _ l:=h;have hc:=ar.copy.2.2.2.1;have aX:=aj.bq 0;unfold YS;simp (disch:=decide) only [nB aj,A.br,nv,nw,nx,ny,nz,nA];show _=A.pure ((yG d l).1,(yG d l).2,());unfold yG;by_cases e:bq l 0>=(d.1.2.2.2.1.length:Int)
 ·grind
 ·rw[if_neg (by grind),if_neg e];have lN:(fQ mA).sh d.1.2.2.2.1=A.pure d.1.2.2.2.1:=yM hc;have hw:=bC (n:=bq l 0+1) (by omega) (by omega);simp only[lN,A.iz,A.fs,A.br,ch,hw];rw[show Ju Jy (bq l 0,bq l 0+1,d.1.2.2.2.1,())=A.pure _ from A.bR ⟨aX.1,rfl,by grind,by grind⟩ _,A.aF];grind
theorem aar{c:H.aZ}{m:List H.a_}{v:z1'}(h:(H.oh c m v).2=0):H.cM c=0/\H.cM (H.oh c m v).1=0/\(H.oh c m v).1=H.ns c (H.gX (c.2.1++m)) (H.rK c.2.2.1 v):=by
 unfold H.oh at h ⊢;split at h
 ·omega
 split at h
 ·omega
 split at h
 ·omega
 split at h
 ·omega
 rename_i b8 a2 a3 a4;rw[if_neg b8,if_neg a2,if_neg a3,if_neg a4];have dL:H.cM c=0:=by omega
 have eA:H.cM (H.ns c m v)=0:=by omega
 refine⟨dL,?_,rfl⟩;have g1:H.jU c=true:=by unfold H.cM at dL;grind
 have ee:H.jU (H.ns c m v)=true:=by unfold H.cM at eA;grind
 have aw:H.k0 (H.gX (c.2.1++m))=false:=by
  rw[H.AJ];have:=(H.AJ (c.2.1++m)).1 (by grind);exact λa a8 b W=>this a (H.Ef a8) b (H.Ef W)
 have lS:H.jU (H.ns c (H.gX (c.2.1++m)) (H.rK c.2.2.1 v))=true:=by
  unfold H.jU H.sL at g1 ee ⊢;simp only[Bool.and_eq_true,List.all_eq_true,Bool.not_eq_true',Bool.or_eq_false_iff,H.ns]at g1 ee ⊢;obtain⟨⟨⟨⟨⟨⟨⟨⟨mP,z2⟩,z3⟩,z4⟩,z5⟩,aO⟩,aR⟩,bO⟩,fI⟩:=g1;obtain⟨⟨⟨⟨_,_⟩,arP⟩,ayz⟩,_⟩:=ee;simp only[Bool.or_eq_true,not_or,bV,Bool.not_eq_true]at a4;refine⟨⟨⟨⟨⟨⟨⟨⟨mP,a4.1⟩,a4.2⟩,z4⟩,z5⟩,aO⟩,λs aD=>?_⟩,λn aw=>?_⟩,fI⟩
  ·rcases List.mem_append.1 (H.Ef aD) with h | h
   ·exact aR s h
   ·exact arP s h
  ·have:=(List.mem_filter.1 aw).2;grind
 unfold H.cM;rw[if_pos lS,if_neg (by show ¬H.k0 (H.gX (c.2.1++m))=true;grind)]
theorem QB{d:ba}(ar:dn d)(m:List H.a_)(v:z1'):dn (s8 d m v).2:=by
 unfold s8;split
 ·exact ar
 ·rename_i h;obtain⟨E,U,ah⟩:=aar (c:=d.2) (m:=m) (v:=v) (by omega);exact⟨ar.fU,ar.uL,U,by rw[ah];exact ar.yI⟩
theorem Jz{d:ba}(ar:dn d){s:bp}(aD:e8 s):dn (mD d s).2:=by
 unfold mD;split
 ·exact ar
 ·rename_i h;exact⟨aD,by grind,ar.wA,ar.yI⟩
theorem arQ{d:ba}(ar:dn d){l:z1'}(aj:l.length<=10000)(j:Nat):dn (yH j d l).2:=by
 have hc:=ar.copy;obtain⟨ey,dN,eJ,oI,s9,s_,ta⟩:=ar.fU;obtain⟨bE,c2,c3,c4,c5,lM,ox⟩:=ar.copy;unfold yH;split<;>try exact ar
 ·exact QB ar _ _
 ·exact QB ar _ _
 ·exact QB ar _ _
 ·unfold yF;split
  ·exact ar
  split
  ·exact ar
  rename_i h _;have h:cM (nu d.1.1 (bq l 0,bq l 1,bq l 2,bq l 3))=0:=by omega
  refine⟨⟨⟨ey.1,ey.2.1,by have:=hc.1.2.2.1;simp only[nu,List.length_append,List.length_cons,List.length_nil];omega,ey.2.2.2⟩,dN,eJ,oI,s9,s_,ta⟩,?_,ar.wA,ar.yI⟩;have aD:=ar.uL;unfold hz at aD ⊢;rw[if_neg (by omega)];have:l5 (nu d.1.1 (bq l 0,bq l 1,bq l 2,bq l 3),d.1.2)=l5 d.1:=rfl;grind
 ·unfold uK;split
  ·exact ar
  ·exact Jz ar ⟨ey,by grind,eJ,oI,s9,s_,ta⟩
 ·exact Jz ar ⟨ey,dN,eJ,oI,by grind,s_,ta⟩
 ·exact Jz ar ⟨ey,dN,by grind,oI,s9,λp an=>by
   grind,ta⟩
 ·exact Jz ar ⟨ey,dN,eJ,by grind,s9,s_,λp an=>by
   grind⟩
 ·unfold yG;split
  ·exact ar
  ·refine⟨⟨ey,dN,eJ,by grind,s9,s_,λp an=>ta p (List.mem_of_mem_eraseIdx an)⟩,?_,ar.wA,ar.yI⟩;have aD:=ar.uL;unfold hz at aD ⊢;split at aD
   ·omega
   ·rename_i uW;rw[if_neg uW];split at aD
    ·rename_i ae;rw[if_pos];unfold l5 at ae ⊢;simp only[Bool.and_eq_true,List.all_eq_true,decide_eq_true_eq]at ae ⊢;obtain⟨⟨⟨⟨⟨⟨⟨⟨ds,dI⟩,nP⟩,uB⟩,db⟩,ft⟩,gM⟩,ir⟩,jS⟩:=ae;exact⟨⟨⟨⟨⟨⟨⟨⟨ds,dI⟩,nP⟩,uB⟩,by grind⟩,λx ag=>ft x (List.mem_of_mem_eraseIdx ag)⟩,gM⟩,ir⟩,jS⟩
    omega
theorem aas:∀ (s:aQ) (n k:Nat),n<10 ^ k->k+s.length<=18->0<=gg s n->Go.Lib.parseUint10 n s=.ok (gg s n).toNat
 | [],n,k,_,_,_=>by rfl
 | c::s,n,k,E,U,ah=>by
  unfold gg at ah ⊢;split at ah
  ·omega
  ·rename_i hc;rw[if_neg hc];simp only[Bool.or_eq_true,decide_eq_true_eq,not_or]at hc;have Hi:48<=c.toNat/\c.toNat<=57:=by omega
   have al:(10:Nat) ^ (k+1)<=10 ^ 18:=Nat.pow_le_pow_right (by decide) (by grind);have Xs:(10:Nat) ^ (k+1)=10 ^ k*10:=Nat.pow_succ ..;have e:10*(n:Int)+((c.toNat:Int) - 48)=((n*10+(c.toNat - 48):Nat):Int):=by omega
   rw[e]at ah ⊢;unfold Go.Lib.parseUint10;rw[if_pos Hi,if_neg (by omega),if_neg (by omega)];exact aas s _ (k+1) (by omega) (by grind) ah
theorem QC{s:aQ}(h:0<=e0 s):Go.Lib.atoiAll s=.ok (e0 s):=by
 unfold e0 at h ⊢;split at h
 ·omega
 ·rename_i W;rw[if_neg W];simp only[Bool.or_eq_true,decide_eq_true_eq,not_or]at W;obtain⟨⟨aX,dp⟩,_⟩:=W;cases s with
  | nil=>grind
  | cons c r=>
   have an:=aas (c::r) 0 0 (by decide) (by omega) h;have aj:=P' (c::r) 0 0 (by decide) (by decide);have gq:(10:Int) ^ (0+(c::r).length)<=10 ^ 6:=by
    have:=Nat.pow_le_pow_right (n:=10) (by decide) (show 0+(c::r).length<=6 by omega);grind
   have ar:¬(decide ((c.toNat:Int)<48)||decide ((c.toNat:Int) > 57))=true:=by
    intro hc;unfold gg at h;grind
   simp only[Bool.or_eq_true,decide_eq_true_eq,not_or]at ar;unfold Go.Lib.atoiAll;simp only;rw[if_neg (by omega)];unfold Go.Lib.parseMag;grind
theorem arR{s:aQ}(h:0<=e0 s):s7 s=e0 s:=by
 unfold s7;rw[QC h]
abbrev E3:aL:=⟨.str,.az (.int .i64) .bool,λx=>x.length<=10000,q8⟩
abbrev JA:aL:=⟨.az .str .str,wz,λx=>x.1.length<=10000/\x.2=[32],λx=>cH x.1⟩
abbrev arS:ad:=.st (.az bx (.az .bool .ep))
def JB:List (aQ×Int×Bool)->Nat->List (aQ×A4)
 | [],_=>[]
 | p::l,i=>(p.1,p.2.1,p.2.2,some (119+i))::JB l (i+1)
def wF:List (aQ×A4):=JB kG 0
abbrev JC:aL:=⟨.cV,.map .str arS,λ_=>True,λ_=>wF⟩
theorem arT(x):A.le (anD x) (JC.sh x):=A.bu λ_=>congrArg A.pure (show _=wF by decide +kernel)
theorem aat(w:aQ):∀ (l:List (aQ×Int×Bool)) (i:Nat),((JB l i).find? λp=>decide (w=p.1)).map (λx=>x.2)=(oi w l i).map λr=>(r.1,r.2.1,some (119+r.2.2))
 | [],_=>rfl
 | p::l,i=>by
  unfold JB oi;rw[List.find?_cons];by_cases h:w=p.1
  ·simp[h]
  ·simp[h,aat w l (i+1)]
theorem aau{w:aQ}:∀ {l:List (aQ×Int×Bool)} {i:Nat} {r:Int×Bool×Nat},oi w l i=some r->i<=r.2.2/\r.2.2<i+l.length/\l[r.2.2 - i]?=some (w,r.1,r.2.1)
 | [],_,_,h=>by simp[oi]at h
 | p::l,i,r,h=>by
  unfold oi at h;split at h
  ·grind
  ·have:=aau h;grind
def JD(j:Nat):Nat:=(kG.getD j ([],0,false)).2.1.toNat
def E4(k:Nat):z1'×ba×Unit->A (aQ×ba×Unit):=fx (JD (k - 119)) (yH (k - 119))
theorem arU:∀ p∈kG,0<=p.2.1:=by decide
def JE(x:List (aQ×A4)×aQ×ba×Unit):A (aQ×ba×Unit):=A.dR (x.1=wF/\x.2.1.length<=10000/\dn x.2.2.1) ((l8 x.2.2.1 x.2.1).1,(l8 x.2.2.1 x.2.1).2,())
theorem arV{l:List aQ}(h:l.all (λw=>decide (0<=e0 w))=true):l.map s7=l.map e0:=List.map_congr_left λw hw=>arR (by grind)
theorem aav{aI:Type}(r:aI)(fin:z1'->aI):∀ (l:List aQ) (b:z1'),eZ (λw b=>if (!decide (0<=e0 w))=true then .done r else .next (b++[s7 w])) fin l b=if l.all (λw=>decide (0<=e0 w))=true then fin (b++l.map s7) else r
 | [],b=>by simp[eZ]
 | w::l,b=>by
  unfold eZ;rw[List.all_cons,List.map_cons];cases h:decide (0<=e0 w) with
  | true=>
   simp only[Bool.not_true,Bool.false_eq_true,if_false,Bool.true_and];rw[aav r fin l,List.append_assoc];rfl
  | false=>rfl
theorem arW(x):A.le (Yx JA.sh E3.sh E4 x) (JE x):=A.bu λh=>by
 obtain⟨arX,s,d,⟨⟩⟩:=x;obtain⟨ae,aD,ar⟩:arX=wF/\s.length<=10000/\dn d:=h;subst ae;unfold Yx;show _=A.pure ((l8 d s).1,(l8 d s).2,());rw[show JA.sh (s,[32])=A.pure (cH s) from A.bR ⟨aD,rfl⟩ _,A.aF];have aj:=uJ s;rw[A.bo ⟨by decide,by grind⟩];have ao:((wF.find? λp=>decide ((cH s).getD (Int.toNat 0) []=p.1)).map λx=>x.2)=(oi ((cH s).getD 0 []) kG 0).map λr=>(r.1,r.2.1,some (119+r.2.2)):=aat _ _ _;have hw:=bC (n:=((cH s).length:Int) - 1) (by omega) (by omega);simp only[ao,bV,hw];unfold l8 EZ;cases GJ:oi ((cH s).getD 0 []) kG 0 with
 | none=>simp
 | some r=>
  obtain⟨k,m,j⟩:=r;obtain⟨_,aE,al⟩:=aau GJ;simp only[Option.map_some,Option.isSome_some,Option.getD_some,Bool.not_true,Bool.false_or];by_cases W:(decide (((cH s).length:Int) - 1<k)||decide (((cH s).length:Int) - 1 > k)&&!m)=true
  ·grind
  ·rw[if_neg W,if_neg W];rw[A.bo ⟨by decide,by omega,Int.le_refl _⟩];simp only[Int.toNat_natCast,List.take_length,show Int.toNat 1=1 from rfl];have u7:((cH s).drop 1).length=(cH s).length - 1:=by simp
   rw[A.fC ((cH s).drop 1) (λi (o:z1')=>((cH s).drop 1,(((cH s).drop 1).length:Int),(i:Int),(k,m,some (119+j)),o,d,())) (λw o=>if (!decide (0<=e0 w))=true then .done (.done ([63],d,())) else .next (o++[s7 w])) (λo=>.next ((k,m,some (119+j)),o,d,())) (λi o=>o.length=i) [] ?_ rfl ?_ ?_]
   ·rw[aav,A.aF];unfold EY;by_cases a8:((cH s).drop 1).all (λw=>decide (0<=e0 w))=true
    ·rw[if_pos a8,if_pos a8,A.bX,arV a8,List.nil_append];rw[A.bo]
     ·have y1:0<=k:=arU _ (List.mem_of_getElem? al);have cc:JD j=k.toNat:=by
       unfold JD;grind
      have cL:eE (JD j) (((cH s).drop 1).map e0):=by
       simp only[Bool.or_eq_true,decide_eq_true_eq,not_or]at W;refine⟨by grind,by grind,λn aw=>?_⟩;obtain⟨w,hw,rfl⟩:=List.mem_map.1 aw;have:=List.all_eq_true.1 a8 w hw;exact⟨by grind,(aq_ w).2⟩
      have ayA:E4 (119+j) (((cH s).drop 1).map e0,d,())=A.pure ((yH j d (((cH s).drop 1).map e0)).1,(yH j d (((cH s).drop 1).map e0)).2,()):=by
       unfold E4;rw[show 119+j - 119=j by omega];exact A.bR ⟨ar,cL⟩ _
      simp_all
     ·have:j<20:=by simpa [kG]using aE
      exact⟨119+j,by
       have e:∀ j:Fin 20,(119+j.val)∈[119,120,121,122,123,124,125,126,127,128,129,130,131,132,133,134,135,136,137,138]:=by decide
       exact e ⟨j,this⟩,rfl⟩
    ·rw[if_neg a8,if_neg a8];rfl
   ·rfl
   ·intro i G o af;have hw:=bC (n:=(i:Int)+1) (by omega) (by omega);refine⟨?_,λbd cR=>?_⟩
    ·simp only[cT G,if_true,df G,cG G,A.br,ch,hw];rw[show E3.sh ((cH s).drop 1)[i]=A.pure (q8 ((cH s).drop 1)[i]) from A.bR (Nat.le_trans (aak s (List.mem_of_mem_drop (List.getElem_mem G))) aD) _,A.aF];unfold q8;by_cases aw:0<=e0 ((cH s).drop 1)[i]
     ·simp only[aw,decide_true,Bool.not_true,Bool.false_eq_true,if_false];rw[A.bo (e7 (by grind))];rfl
     simp_all
    grind
   simp
theorem aaw{d:ba}(ar:dn d){s:aQ}(aD:s.length<=10000):dn (l8 d s).2:=by
 unfold l8;split
 ·exact ar
 ·rename_i j l an;refine arQ ar ?_ j;unfold EZ at an;split at an
  ·grind
  ·split at an
   ·grind
   ·unfold EY at an;have:=uJ s;grind
abbrev rO:aL:=⟨uI,.int .i64,λd=>e8 d.1/\H.iy d.2,kk⟩
theorem arY(x):A.le (Yu mB.sh H.hZ.sh x) (rO.sh x):=A.bu λh=>by
 obtain⟨E,U⟩:e8 x.1/\H.iy x.2:=h;unfold Yu;rw[show mB.sh x.1=A.pure (hz x.1) from A.bR E _,A.aF,show H.hZ.sh x.2=A.pure (H.cM x.2) from A.bR U _,A.kT,A.aF];show _=A.pure (kk x);unfold kk;grind
theorem arZ(l:List H.a_):(H.gX l).length<=l.length:=by
 have q2:(H.gX l).map (·.1) ⊆ l.map (·.1):=by
  intro x ag;obtain⟨s,aD,rfl⟩:=List.mem_map.1 ag;exact List.mem_map_of_mem (H.Ef aD)
 have:=(H.X8 l).length_le_of_subset q2;grind
theorem ar0(l:z1'):(H.rK l []).length<=l.length:=by
 unfold H.rK;have aw:((ev 0 99).filter λid=>l.contains id||List.contains [] id).Nodup:=((H.aai 0 99).imp λh=>by omega:(ev 0 99).Nodup).filter _;refine aw.length_le_of_subset λx ag=>?_;grind
theorem aax{c:H.aZ}(h:H.cM c=0):H.oh c [] []=(H.ns c (H.gX c.2.1) (H.rK c.2.2.1 []),0):=by
 have G:=H.Jo h;have g:H.jU c=true:=by unfold H.cM at h;grind
 have U:H.cM (H.ns c [] [])=0:=by
  have:H.jU (H.ns c [] [])=true:=by
   unfold H.jU H.sL at g ⊢;simp only[Bool.and_eq_true,List.all_eq_true,Bool.not_eq_true',Bool.or_eq_false_iff,H.ns]at g ⊢;grind
  unfold H.cM;rw[if_pos this];rfl
 have e1:=arZ c.2.1;have oo:=ar0 c.2.2.1;have ef:=G.ef;have jl:=G.jl;unfold H.oh;rw[if_neg (by simp[h]),if_neg (by omega),List.append_nil,if_neg (by rw[G.cl];decide),if_neg];grind
theorem ar1{d:ba}(h:dn d):iv d=(d.1,H.ns d.2 (H.gX d.2.2.1) (H.rK d.2.2.2.1 [])):=by
 unfold iv;rw[aax h.wA]
theorem aay{d:ba}(h:dn d):dn (iv d):=by
 have:=aar (c:=d.2) (m:=[]) (v:=[]) (by rw[aax h.wA]);exact⟨h.fU,h.uL,this.2.1,by rw[ar1 h];exact h.yI⟩
theorem aaz{p:ba->Prop}{q:aQ->Prop}(an:∀ d s,p d->q s->p (l8 d s).2):∀ (l:List aQ) (d:ba),p d->(∀ s∈l,q s)->p (gQ d l).2
 | [],d,h,_=>h
 | s::l,d,h,bt=>aaz an l _ (an d s h (bt s (by simp))) λt aH=>bt t (by grind)
theorem ar2{d:ba}(h:dn d){l:List aQ}(aj:∀ s∈l,s.length<=10000):dn (gQ d l).2:=aaz (p:=dn) (λd s h aD=>aaw h aD) l d h aj
def um(x:ba×Unit):A (ba×Unit):=A.dR (dn x.1) (iv x.1,())
theorem OS(x):A.le (Yv H.Bt.sh Jw.sh x) (um x):=A.bu λh=>by
 obtain⟨d,⟨⟩⟩:=x;have h:dn d:=h;unfold Yv;rw[show H.Bt.sh (d.2,[],[])=A.pure (H.oh d.2 [] []) from A.bR ⟨h.iy,by simp,by simp⟩ _,A.aF];rw[show Jw.sh d.1=A.pure d.1 from A.bR h.copy _];simp only[A.iz,A.fs,A.br];rfl
abbrev aaA(x:ba×List aQ):Prop:=e8 x.1.1/\H.gE x.1.2/\x.2.length<2 ^ 63/\∀ s∈x.2,s.length<=10000
theorem QD{d:ba}(E:e8 d.1)(U:H.gE d.2)(h:kk d=0):dn d:=by
 unfold kk at h;split at h
 ·omega
 ·rename_i W;simp only[Bool.or_eq_true,decide_eq_true_eq,not_or,ne_eq,Decidable.not_not]at W;exact⟨E,W.1,W.2,U.2 W.2⟩
abbrev uM:aL:=⟨.az uI wz,.az wz (.az uI (.int .i64)),aaA,λx=>E0 x.1 x.2⟩
theorem aaB:∀ (l:List aQ) (o:List aQ) (d:ba),l.foldl (λ(p:List aQ×ba) s=>(p.1++[(l8 p.2 s).1],(l8 p.2 s).2)) (o,d)=(o++(gQ d l).1,(gQ d l).2)
 | [],o,d=>by simp[gQ]
 | s::l,o,d=>by
  rw[List.foldl_cons,aaB l];simp[gQ]
theorem ar3(x):A.le (Yt rO.sh um JC.sh JE x) (uM.sh x):=A.bu λh=>by
 obtain⟨d,l⟩:=x;obtain⟨E,U,ah,a1⟩:aaA (d,l):=h;unfold Yt;show _=A.pure (E0 d l);unfold E0;rw[show rO.sh d=A.pure (kk d) from A.bR ⟨E,U.fU⟩ _,A.aF];by_cases e:kk d=0
 ·rw[if_neg (show ¬decide (kk d≠0)=true by grind),if_neg (show ¬kk d≠0 by omega)];have ar:=QD E U e;by_cases aM:l.length > 40
  ·grind
  ·rw[if_neg (show ¬decide (Int.ofNat l.length > 40)=true by grind),if_neg aM];rw[show um (d,())=A.pure (iv d,()) from A.bR ar _,A.aF,show JC.sh ()=A.pure wF from rfl,A.aF];rw[A.fC l (λi (p:List aQ×ba)=>(wF,l,(l.length:Int),(i:Int),p.1,0,0,0,0,0,0,0,0,0,p.2,())) (λs p=>.next (p.1++[(l8 p.2 s).1],(l8 p.2 s).2)) (λp=>.next (p.1,0,0,0,0,0,0,0,0,0,p.2,())) (λi p=>dn p.2/\p.1.length=i) ([],iv d) ?_ ⟨aay ar,rfl⟩ ?_ ?_]
   ·rw[dP,aaB,A.aF,A.bX,A.br,List.nil_append]
   ·rfl
   ·rintro i G ⟨o,uX⟩ ⟨wY,af⟩;have hw:=bC (n:=(i:Int)+1) (by omega) (by omega);have aD:=a1 _ (List.getElem_mem G);change dn uX at wY;change o.length=i at af;refine⟨?_,λbd cR=>?_⟩
    ·simp only[bV,cT G,if_true,df G,cG G,A.br,ch,hw];rw[show JE (wF,l[i],uX,())=A.pure _ from A.bR ⟨rfl,aD,wY⟩ _,A.aF,A.bo (e7 (by grind))];rfl
    ·simp only[V.next.injEq]at cR;subst cR;exact⟨aaw wY aD,by grind⟩
   simp
 grind
end Go.Fer.au
namespace Go.Fer.au
open A (V)
def qH:ba:=(Bs,[(0,0)],[],[],[],10,30,100,500,1000,2000,300)
def aaC(ar4:Unit->A bp)(x:Unit):A ba:=A.bind (ar4 ()) λy=>A.pure (y,[(0,0)],[],[],[],10,30,100,500,1000,2000,300)
abbrev JF:aL:=⟨.cV,uI,λ_=>True,λ_=>qH⟩
theorem ar5(x):A.le (aaC Je.sh x) (JF.sh x):=A.bu λ_=>by
 unfold aaC;rw[show Je.sh ()=A.pure Bs from rfl,A.aF];rfl
theorem ar6:kk qH=0:=by decide +kernel
end Go.Fer.au
namespace Go.Fer.au
open A (V)
open H (e7)
theorem ar7(x):A.le (Ys H.hZ.sh mB.sh x) (rO.sh x):=A.bu λh=>by
 obtain⟨E,U⟩:e8 x.1/\H.iy x.2:=h;unfold Ys;rw[show mB.sh x.1=A.pure (hz x.1) from A.bR E _,A.aF,show H.hZ.sh x.2=A.pure (H.cM x.2) from A.bR U _,A.kT,A.aF];show _=A.pure (kk x);unfold kk;grind
theorem aaD(c:UInt8):c.1.1.1=c.toNat:=rfl
theorem aaE{n:Int}(h:0<=n)(U:n<=255):IntKind.wrap .u8 n=n:=by
 show (if (false&&decide (n % 2 ^ 8>=(2 ^ (8 - 1):Int)))=true then n % 2 ^ 8 - 2 ^ 8 else n % 2 ^ 8)=n;grind
theorem QE{ak β aI:Type}{p:ak->Bool}{r:aI}{g:ak->β->β}{fin:β->aI}:∀ (l:List ak) (b:β),eZ (λx b=>if p x=true then .done r else .next (g x b)) fin l b=if l.any p=true then r else fin (l.foldl (λb x=>g x b) b)
 | [],b=>rfl
 | x::l,b=>by
  unfold eZ;rw[List.any_cons,List.foldl_cons];cases h:p x with
  | true=>rfl
  | false=>
   simp only[Bool.false_eq_true,if_false,Bool.false_or];exact QE l (g x b)
def yN(c:UInt8):Bool:=decide ((c.toNat:Int)<48)||decide ((c.toNat:Int) > 57)
theorem ar8(c:UInt8)(s:aQ)(n:Int):gg (c::s) n=if yN c=true then -1 else gg s (10*n+((c.toNat:Int) - 48)):=rfl
theorem aaF{aI:Type}{r:aI}{fin:Int->aI}:∀ (s:aQ) (n:Int),0<=n->eZ (λc n=>if yN c=true then .done r else .next (10*n+((c.toNat:Int) - 48))) fin s n=if gg s n=-1 then r else fin (gg s n)
 | [],n,h=>by
  show fin n=if n=-1 then r else fin n
  grind
 | c::s,n,h=>by
  rw[ar8];unfold eZ;by_cases hc:yN c=true
  ·grind
  ·have oK:=hc;unfold yN at oK;simp only[Bool.or_eq_true,decide_eq_true_eq,not_or]at oK;simp only[hc];exact aaF s _ (by omega)
abbrev JG:aL:=⟨.str,.int .i64,λ_=>True,e0⟩
theorem ar9(x):A.le (Y5 x) (JG.sh x):=A.bu λ_=>by
 unfold Y5;show _=A.pure (e0 x);unfold e0;simp only[bV,aaD,show Int.toNat 0=0 from rfl];rw[A.bo (λW=>⟨⟨W,trivial⟩,⟨Int.le_refl _,by grind⟩,trivial⟩)];have e:(decide ((x.length:Int)=0)||decide ((x.length:Int) > 6)||decide ((x.length:Int) > 1)&&decide (((x.getD 0 0).toNat:Int)=48))=(decide (x.length=0)||decide (x.length > 6)||decide (x.length > 1)&&decide ((x.getD 0 0).toNat=48)):=by
  grind
 rw[e];by_cases W:(decide (x.length=0)||decide (x.length > 6)||decide (x.length > 1)&&decide ((x.getD 0 0).toNat=48))=true
 ·grind
 ·rw[if_neg W,if_neg W];have dp:x.length<=6:=by
   grind
  rw[A.fC x (λi (n:Int)=>(x,n,(i:Int),())) (λc n=>if yN c=true then .done (.done (-1)) else .next (10*n+((c.toNat:Int) - 48))) (λn=>.next (n,())) (λi n=>0<=n/\n<10 ^ i) 0 ?_ ⟨Int.le_refl _,by decide⟩ ?_ ?_]
  ·rw[aaF _ _ (Int.le_refl _),A.aF];by_cases ar:gg x 0=-1
   ·rw[if_pos ar,ar];rfl
   ·rw[if_neg ar];rfl
  ·rfl
  ·rintro i G n ⟨aX,E⟩;have hw:=bC (n:=(i:Int)+1) (by omega) (by omega);have an:(10:Int) ^ i<=10 ^ 5:=by
    have:=Nat.pow_le_pow_right (n:=10) (by decide) (show i<=5 by omega);grind
   have xI:(10:Int) ^ (i+1)=10 ^ i*10:=Int.pow_succ ..;refine⟨?_,λbd cR=>?_⟩
   ·simp only[cT G,if_true,df G,cG G,A.br,ch,hw];rw[A.bo (λh=>⟨⟨h,h⟩,trivial,trivial⟩)];by_cases hc:yN x[i]=true
    ·rw[if_pos hc];have oK:(decide ((x[i].toNat:Int)<48)||decide ((x[i].toNat:Int) > 57))=true:=hc;simp_all
    ·rw[if_neg hc];have oK:¬(decide ((x[i].toNat:Int)<48)||decide ((x[i].toNat:Int) > 57))=true:=hc;rw[if_neg oK];simp only[Bool.or_eq_true,decide_eq_true_eq,not_or]at oK;rw[aaE (by omega) (by omega),bC (n:=(x[i].toNat:Int) - 48) (by omega) (by omega),bC (n:=10*n) (by omega) (by omega),bC (n:=10*n+((x[i].toNat:Int) - 48)) (by omega) (by omega)];rfl
   ·split at cR
    ·grind
    ·rename_i hc;unfold yN at hc;grind
  simp
def Bw(o:List aQ)(c:UInt8):List aQ:=if c=32 then o++[[]] else o.set (o.length - 1) (o.getD (o.length - 1) []++[c])
theorem QF:∀ (s:aQ) (o:List aQ) (w:aQ),s.foldl Bw (o++[w])=o++(match cH s with | []=>[w] | v::l=>(w++v)::l)
 | [],o,w=>by simp[cH]
 | c::s,o,w=>by
  rw[List.foldl_cons];unfold cH;by_cases hc:c=32
  ·rw[if_pos hc,show Bw (o++[w]) c=o++[w]++[[]] from if_pos hc];have:=QF s (o++[w]) [];rw[this];have aj:=uJ s;grind
  ·rw[if_neg hc,show Bw (o++[w]) c=_ from if_neg hc];have e:(o++[w]).set ((o++[w]).length - 1) ((o++[w]).getD ((o++[w]).length - 1) []++[c])=o++[w++[c]]:=by
    simp
   rw[e];have:=QF s o (w++[c]);rw[this];have aj:=uJ s;cases h:cH s with
   | nil=>exact absurd aj.1 (by rw[h];decide)
   | cons v l=>simp
abbrev JH:aL:=⟨.str,wz,λx=>x.length<=10000,cH⟩
theorem ar_(x):A.le (Y4 x) (JH.sh x):=A.bu λh=>by
 change x.length<=10000 at h;unfold Y4;show _=A.pure (cH x);rw[A.fC x (λi (o:List aQ)=>(x,(i:Int),o,())) (λc o=>.next (Bw o c)) (λo=>.next (o,())) (λi o=>1<=o.length/\o.length<=i+1/\∀ w∈o,w.length<=i) [[]] ?_ ⟨by decide,by decide,by simp⟩ ?_ ?_]
 ·rw[dP,A.aF,A.bX];have:=QF x [] [];rw[List.nil_append]at this;rw[this];have aj:=uJ x;grind
 ·rfl
 ·rintro i G o ⟨E,U,ah⟩;have hw:=bC (n:=(i:Int)+1) (by omega) (by omega);have gU:=bC (n:=(o.length:Int) - 1) (by omega) (by omega);have ax:((o.length:Int) - 1).toNat=o.length - 1:=by omega
  have aM:((i:Int)+1).toNat=i+1:=by omega
  have ar':o.length - 1<o.length:=by omega
  have aB:o.getD (o.length - 1) []=o[o.length - 1]:=by grind
  have ayB:=ah _ (List.getElem_mem ar');have ar:(x.take (i+1)).drop i=[x[i]]:=by rw[List.drop_take,List.drop_eq_getElem_cons G,Nat.add_sub_cancel_left];rfl
  refine⟨?_,λbd cR=>?_⟩
  ·simp only[bV,cT G,if_true,df G,cG G,A.br,ch,hw,gU,ax,aaD];unfold Bw;by_cases hc:x[i]=32
   ·have oK:decide ((x[i].toNat:Int)=32)=true:=by simp_all
    rw[if_pos oK,if_pos hc,A.bo (e7 (by grind))];simp_all
   ·have oK:¬decide ((x[i].toNat:Int)=32)=true:=by
     intro h;apply hc;simp only[decide_eq_true_eq]at h;exact UInt8.toNat_inj.1 (show x[i].toNat=32 by omega)
    rw[if_neg oK,if_neg hc];rw[A.bo (by omega),A.bo (by omega),aM,Int.toNat_natCast,ar,A.bo (e7 (by grind)),A.bo (by omega)];simp_all
  ·simp only[V.next.injEq]at cR;subst cR;unfold Bw;grind
 simp
def pS:List aQ×z1'×z1':=(kG.map (·.1),kG.map (·.2.1),kG.map λp=>if p.2.2=true then -1 else p.2.1)
abbrev JI:aL:=⟨.cV,.az wz (.az fP fP),λ_=>True,λ_=>pS⟩
theorem asa(x):A.le (anT x) (JI.sh x):=A.bu λ_=>congrArg A.pure (show _=pS by rfl)
def JJ(k:Int)(m:Bool)(n:Nat):Bool:=decide ((n:Int)>=k)&&(decide ((if m=true then -1 else k)<(0:Int))||decide ((n:Int)<=if m=true then -1 else k))
def uN(s:aQ):aQ×z1'×Bool:=
 if ((cH s).drop 1).any (λw=>decide (e0 w<0))=true then ([],[],false) else
 match oi ((cH s).getD 0 []) kG 0 with
 | none=>([],[],false)
 | some (k,m,_)=>((cH s).getD 0 [],((cH s).drop 1).map e0,JJ k m ((cH s).drop 1).length)
theorem aaG{aI:Type}{w:aQ}{g:Int->Bool->aI}{r:aI}:∀ (l:List (aQ×Int×Bool)) (i:Nat),eZ (λp (_:Unit)=>if decide (p.1=w)=true then .done (g p.2.1 p.2.2) else .next ()) (λ_=>r) l ()=match oi w l i with | none=>r | some q=>g q.1 q.2.1
 | [],_=>rfl
 | p::l,i=>by
  unfold eZ oi;by_cases h:p.1=w
  ·simp[h]
  ·have U:¬w=p.1:=λe=>h e.symm;simp only[h,decide_false,Bool.false_eq_true,if_false,U];exact aaG l (i+1)
abbrev JK:aL:=⟨.str,.az .str (.az fP .bool),λx=>x.length<=10000,uN⟩
theorem asb(x):A.le (Y3 JH.sh JG.sh JI.sh x) (JK.sh x):=A.bu λh=>by
 change x.length<=10000 at h;unfold Y3;show _=A.pure (uN x);unfold uN;rw[show JH.sh x=A.pure (cH x) from A.bR h _,A.aF];have aj:=uJ x;have ag:List.length x<=10000:=h;have u7:((cH x).drop 1).length=(cH x).length - 1:=by simp
 rw[A.fC ((cH x).drop 1) (λi (o:z1')=>(cH x,((1+i:Nat):Int),o,())) (λw o=>if decide (e0 w<0)=true then .done (.done ([],[],false)) else .next (o++[e0 w])) (λo=>.next (cH x,o,())) (λi o=>o.length=i) [] ?_ rfl ?_ ?_]
 ·rw[QE,A.aF];by_cases a8:((cH x).drop 1).any (λw=>decide (e0 w<0))=true
  ·rw[if_pos a8,if_pos a8];rfl
  ·rw[if_neg a8,if_neg a8,A.bX,qq,List.nil_append];rw[show JI.sh ()=A.pure pS from rfl,A.aF];generalize nb:((cH x).drop 1).map e0=Bx;have aw:Bx.length=((cH x).drop 1).length:=by grind
   rw[<-aw];rw[A.fC kG (λi (_:Unit)=>(cH x,pS.1,pS.2.1,pS.2.2,(i:Int),Bx,())) (λp (_:Unit)=>if decide (p.1=(cH x).getD 0 [])=true then .done (.done ((cH x).getD 0 [],Bx,JJ p.2.1 p.2.2 Bx.length)) else .next ()) (λ_=>.next ()) (λ_ _=>True) () ?_ trivial ?_ ?_]
   ·rw[aaG (g:=λk m=>V.done ((cH x).getD 0 [],Bx,JJ k m Bx.length)) kG 0,A.aF];cases oi ((cH x).getD 0 []) kG 0<;>rfl
   ·rfl
   ·intro i G _ _;have ayC:i<20:=G;have hw:=bC (n:=(i:Int)+1) (by omega) (by omega);have e1:i<pS.1.length:=G;have oo:i<pS.2.1.length:=G;have yC:i<pS.2.2.length:=G;have g1:pS.1[i]'e1=(kG[i]'G).1:=List.getElem_map ..;have ee:pS.2.1[i]'oo=(kG[i]'G).2.1:=List.getElem_map ..;have g3:pS.2.2[i]'yC=if (kG[i]'G).2.2=true then -1 else (kG[i]'G).2.1:=List.getElem_map ..
    have an:((0:Int)<=0/\(0:Int)<((cH x).length:Int))=True:=eq_true ⟨by decide,by omega⟩;refine⟨?_,λ_ _=>trivial⟩;simp only[bV,cT e1,if_true,df e1,df oo,df yC,cG e1,cG oo,cG yC,an,A.br,ch,hw,g1,ee,g3,show Int.toNat 0=0 from rfl];by_cases hc:decide ((kG[i]'G).1=(cH x).getD 0 [])=true
    ·rw[if_pos hc,if_pos hc];unfold JJ;simp_all
    simp_all
   ·intro _ _;simp[pS]
 ·rfl
 ·intro i G o af;have dv:1+i<(cH x).length:=by omega
  have hw:=bC (n:=((1+i:Nat):Int)+1) (by omega) (by omega);have aB:(cH x)[1+i]=((cH x).drop 1)[i]:=by grind
  refine⟨?_,λbd cR=>?_⟩
  ·simp only[bV,cT dv,if_true,df dv,cG dv,A.br,ch,hw,aB];rw[show JG.sh ((cH x).drop 1)[i]=A.pure (e0 ((cH x).drop 1)[i]) from rfl,A.aF];by_cases aw:decide (e0 ((cH x).drop 1)[i]<0)=true
   ·simp_all
   ·rw[if_neg aw,if_neg aw,A.bo (e7 (by grind))];rfl
  grind
 simp_all
theorem asc{s:aQ}(h:s.length<=10000):JK.sh s=A.pure (uN s):=A.bR h _
abbrev uO:aL:=⟨.az fP fP,.bool,λx=>x.1=x.2/\x.1.length<2 ^ 63,λ_=>true⟩
theorem asd(x):A.le (Y0 x) (uO.sh x):=A.bu λh=>by
 obtain⟨a,b⟩:=x;obtain⟨rfl,h⟩:a=b/\a.length<2 ^ 63:=h;unfold Y0;rw[if_neg (by simp)];rw[A.dB a (λi (_:Unit)=>(a,a,(i:Int),())) (λ_ b=>.next b) (λ_=>.next ()) () ?_ ?_ ?_]
 ·rw[dP,A.aF,A.bX]
 ·rfl
 ·intro i G _;have hw:=bC (n:=(i:Int)+1) (by omega) (by omega);simp_all
 simp
theorem E5{a:z1'}(h:a.length<2 ^ 63):uO.sh (a,a)=A.pure true:=A.bR ⟨rfl,h⟩ _
abbrev JL:aL:=⟨.az H.iP H.iP,.bool,λx=>x.1=x.2/\H.iy x.1,λ_=>true⟩
theorem ase(x):A.le (YZ uO.sh x) (JL.sh x):=A.bu λh=>by
 obtain⟨a,b⟩:=x;obtain⟨rfl,E,U,ah,a1⟩:a=b/\H.iy a:=h;unfold YZ;rw[E5 ah];simp only[A.kT,A.aF];rw[if_neg (by simp)];rw[A.dB a.1 (λi (_:Unit)=>((i:Int),a,a,())) (λ_ b=>.next b) (λ_=>.next (a,a,())) () ?_ ?_ ?_]
 ·rw[dP,A.aF,A.bX];rw[A.dB a.2.1 (λi (_:Unit)=>((i:Int),a,a,())) (λ_ b=>.next b) (λ_=>.next (a,a,())) () ?_ ?_ ?_]
  ·rw[dP,A.aF,A.bX];rw[A.dB a.2.2.2.1 (λi (_:Unit)=>((i:Int),a,a,())) (λ_ b=>.next b) (λ_=>.next ()) () ?_ ?_ ?_]
   ·rw[dP,A.aF,A.bX]
   ·rfl
   ·intro i G _;have hw:=bC (n:=(i:Int)+1) (by omega) (by omega);simp_all
   simp
  ·rfl
  ·intro i G _;have hw:=bC (n:=(i:Int)+1) (by omega) (by omega);simp_all
  simp
 ·rfl
 ·intro i G _;have hw:=bC (n:=(i:Int)+1) (by omega) (by omega);simp_all
 simp
abbrev JM:aL:=⟨.az jY jY,.bool,λx=>x.1=x.2/\gO x.1,λ_=>true⟩
theorem asf(x):A.le (Y1 uO.sh x) (JM.sh x):=A.bu λh=>by
 obtain⟨a,b⟩:=x;obtain⟨rfl,E,U,ah,a1⟩:a=b/\gO a:=h;unfold Y1;rw[if_neg (by simp)];rw[A.dB a.1 (λi (_:Unit)=>((i:Int),a,a,())) (λ_ b=>.next b) (λ_=>.next (a,a,())) () ?_ ?_ ?_]
 ·rw[dP,A.aF,A.bX];rw[A.dB a.2.2.2 (λi (_:Unit)=>((i:Int),a,a,())) (λ_ b=>.next b) (λ_=>.next (a,a,())) () ?_ ?_ ?_]
  ·rw[dP,A.aF,A.bX];rw[A.dB a.2.1 (λi (_:Unit)=>((i:Int),a,a,())) (λ_ b=>.next b) (λ_=>.next ()) () ?_ ?_ ?_]
   ·rw[dP,A.aF,A.bX]
   ·rfl
   ·intro i G _;have hw:=bC (n:=(i:Int)+1) (by omega) (by omega);obtain⟨hm,aD⟩:=a1 _ (List.getElem_mem G);simp only[bV,cT G,if_true,df G,cG G,A.br,ch,hw];rw[if_neg (by simp)];rw[A.dB a.2.1[i] (λj (_:Unit)=>((i:Int),a.2.1[i],a.2.1[i],(j:Int),a,a,())) (λ_ b=>.next b) (λ_=>.next ((i:Int),a,a,())) () ?_ ?_ ?_]
    ·rw[dP,A.aF,A.bX];simp_all
    ·rfl
    ·intro j aE _;have hw:=bC (n:=(j:Int)+1) (by omega) (by omega);have bt:uO.sh (a.2.1[i][j].2.1,a.2.1[i][j].2.1)=A.pure true:=E5 (aD _ (List.getElem_mem aE));simp_all
    simp
   simp
  ·rfl
  ·intro i G _;have hw:=bC (n:=(i:Int)+1) (by omega) (by omega);simp_all
  simp
 ·rfl
 ·intro i G _;have hw:=bC (n:=(i:Int)+1) (by omega) (by omega);simp_all
 simp
abbrev By:aL:=⟨.az uI uI,.bool,λx=>x.1=x.2/\e8 x.1.1/\H.iy x.1.2,λ_=>true⟩
theorem asg(x):A.le (YY JL.sh JM.sh uO.sh x) (By.sh x):=A.bu λh=>by
 obtain⟨a,b⟩:=x;obtain⟨rfl,⟨E,U,ah,a1,bK,dp,fF⟩,hc⟩:a=b/\e8 a.1/\H.iy a.2:=h;unfold YY;rw[show JL.sh (a.2,a.2)=A.pure true from A.bR ⟨rfl,hc⟩ _,show JM.sh (a.1.1,a.1.1)=A.pure true from A.bR ⟨rfl,E⟩ _,E5 U];simp only[A.kT,A.aF];rw[if_neg (by simp)];rw[A.dB a.1.2.2.1 (λi (_:Unit)=>((i:Int),a.1,a.1,())) (λ_ b=>.next b) (λ_=>.next (a.1,a.1,())) () ?_ ?_ ?_]
 ·rw[dP,A.aF,A.bX];rw[A.dB a.1.2.2.2.1 (λi (_:Unit)=>((i:Int),a.1,a.1,())) (λ_ b=>.next b) (λ_=>.next (a.1,a.1,())) () ?_ ?_ ?_]
  ·rw[dP,A.aF,A.bX];rw[A.dB a.1.2.2.2.2.1 (λi (_:Unit)=>((i:Int),a.1,a.1,())) (λ_ b=>.next b) (λ_=>.next ()) () ?_ ?_ ?_]
   ·rw[dP,A.aF,A.bX]
   ·rfl
   ·intro i G _;have hw:=bC (n:=(i:Int)+1) (by omega) (by omega);simp_all
   simp
  ·rfl
  ·intro i G _;have hw:=bC (n:=(i:Int)+1) (by omega) (by omega);have bt:uO.sh (a.1.2.2.2.1[i].1,a.1.2.2.2.1[i].1)=A.pure true:=E5 (fF _ (List.getElem_mem G));simp_all
  simp
 ·rfl
 ·intro i G _;have hw:=bC (n:=(i:Int)+1) (by omega) (by omega);have bt:uO.sh (a.1.2.2.1[i].2.2.2.2,a.1.2.2.1[i].2.2.2.2)=A.pure true:=E5 (dp _ (List.getElem_mem G));simp_all
 simp
abbrev E6:Type:=Int×Int×Int×Int
def QG(s:aQ)(c:E6):E6:=
 if (!(uN s).2.2)=true then c else if decide ((uN s).1=[119,105,115,104])=true then (IntKind.wrap .i64 (c.1+1),c.2)
 else if decide ((uN s).1=[112,105,101,99,101])=true then (c.1,IntKind.wrap .i64 (c.2.1+1),c.2.2.1,IntKind.wrap .i64 (c.2.2.2+IntKind.wrap .i64 (((uN s).2.1.length:Int) - 4)))
 else if decide ((uN s).1=[99,111,109,101,115])=true then (c.1,c.2.1,IntKind.wrap .i64 (c.2.2.1+1),c.2.2.2) else c
def aaH(d:ba):E6:=((d.1.2.2.2.1.length:Int),(d.1.2.2.1.length:Int),(d.1.2.2.2.2.1.length:Int),d.1.2.2.1.foldl (λn p=>IntKind.wrap .i64 (n+(p.2.2.2.2.length:Int))) 0)
def ash(c:E6):Bool:=decide (c.1 > 3)||decide (c.2.1 > 4)||decide (c.2.2.1 > 3)||decide (c.2.2.2 > 4)
def uP(d:ba)(l:List aQ):Bool:=
 if (rJ d.1||H.k1 d.2||decide ((l.length:Int) > 60))=true then true else if (l.any λs=>decide ((s.length:Int) > 80))=true then true
 else decide (kk d=0)&&ash (l.foldl (λc s=>QG s c) (aaH d))
abbrev aaI(x:ba×List aQ):Prop:=e8 x.1.1/\H.iy x.1.2/\x.2.length<2 ^ 63
abbrev E7:aL:=⟨.az uI wz,.bool,aaI,λx=>uP x.1 x.2⟩
theorem asi(x):A.le (Y2 rO.sh Jd.sh H.vV.sh JK.sh x) (E7.sh x):=A.bu λh=>by
 obtain⟨d,l⟩:=x;obtain⟨E,U,ah⟩:aaI (d,l):=h;have ix:d.1.2.2.1.length<2 ^ 63:=E.2.2.1;change l.length<2 ^ 63 at ah;unfold Y2;show _=A.pure (uP d l);unfold uP;rw[show Jd.sh d.1=A.pure (rJ d.1) from A.bR E _,A.aF,show H.vV.sh d.2=A.pure (H.k1 d.2) from A.bR U _,A.kT,A.aF];have e:(rJ d.1||(if (!rJ d.1)=true then H.k1 d.2 else false)||decide (Int.ofNat l.length > 60))=(rJ d.1||H.k1 d.2||decide ((l.length:Int) > 60)):=by grind
 rw[e];by_cases ao:(rJ d.1||H.k1 d.2||decide ((l.length:Int) > 60))=true
 ·grind
 ·rw[if_neg ao,if_neg ao];rw[A.dB d.1.2.2.1 (λi (n:Int)=>(l,(d.1.2.2.2.1.length:Int),(d.1.2.2.1.length:Int),(d.1.2.2.2.2.1.length:Int),n,(i:Int),d,())) (λp n=>.next (IntKind.wrap .i64 (n+(p.2.2.2.2.length:Int)))) (λn=>.next (l,(d.1.2.2.2.1.length:Int),(d.1.2.2.1.length:Int),(d.1.2.2.2.2.1.length:Int),n,d,())) 0 ?_ ?_ ?_]
  ·rw[dP,A.aF,A.bX];rw[A.dB l (λi (c:E6)=>(l,c.1,c.2.1,c.2.2.1,c.2.2.2,(i:Int),d,())) (λs c=>if decide ((s.length:Int) > 80)=true then .done (.done true) else .next (QG s c)) (λc=>.next (c.1,c.2.1,c.2.2.1,c.2.2.2,d,())) (aaH d) ?_ ?_ ?_]
   ·rw[QE,A.aF];by_cases a8:(l.any λs=>decide ((s.length:Int) > 80))=true
    ·simp_all
    ·rw[if_neg a8,if_neg a8,A.bX];rw[show rO.sh d=A.pure (kk d) from A.bR ⟨E,U⟩ _,A.aF];rfl
   ·rfl
   ·intro i G c;have hw:=bC (n:=(i:Int)+1) (by omega) (by omega);simp only[Prod.db,Prod.ft,Prod.gM,bV,cT G,if_true,df G,cG G,A.br,ch];by_cases hc:decide ((l[i].length:Int) > 80)=true
    ·simp_all
    ·rw[if_neg hc,if_neg hc];rw[asc (by grind),A.aF];unfold QG;split
     ·simp_all
     ·split
      ·simp_all
      ·split
       ·simp_all
       ·split
        ·rw[A.aF,A.bX];simp only[hw];rfl
        ·rw[A.aF,A.bX];simp only[hw];rfl
   simp
  ·rfl
  ·intro i G n;have hw:=bC (n:=(i:Int)+1) (by omega) (by omega);simp_all
  simp
theorem asj{d:ba}{l:List aQ}{n:Int}(E:e8 d.1)(U:H.iy d.2)(h:(!uP d l&&decide (kk d=0)&&decide ((l.length:Int)<=n))=true):dn d/\(l.length:Int)<=n/\∀ s∈l,s.length<=80:=by
 simp only[Bool.and_eq_true,Bool.not_eq_true',decide_eq_true_eq]at h;obtain⟨⟨ao,he⟩,aw⟩:=h;unfold uP at ao;split at ao
 ·grind
 ·rename_i a8;split at ao
  ·grind
  ·rename_i W;simp only[Bool.or_eq_true,not_or,Bool.not_eq_true]at a8;refine⟨QD E (H.anx a8.1.2) he,aw,λs aD=>?_⟩;grind
theorem asl:e8 qH.1/\H.iy qH.2:=⟨aqL,by decide,by decide,by decide,by decide⟩
theorem asm:H.gE qH.2:=⟨⟨by decide,by decide,by decide,by decide⟩,λ_=>by decide +kernel⟩
theorem aaJ{d:ba}(ar:dn d){l:List aQ}(ayD:l.length<=40)(aj:∀ s∈l,s.length<=10000):uM.sh (d,l)=A.pure ((gQ (iv d) l).1,(gQ (iv d) l).2,0):=by
 have e:uM.sh (d,l)=A.pure (E0 d l):=A.bR ⟨ar.fU,ar.gE,by show l.length<2 ^ 63;omega,aj⟩ _;rw[e];unfold E0;rw[if_neg (by rw[ar.arc];decide),if_neg (by omega)]
end Go.Fer.au
namespace Go.Proofs
open Go.Shelf
theorem cI{P:Program}{k:Nat}{f g:Func}(h:P.funcs[k]?=some f)(e:f=g:=by kernel_rfl):P.funcs[k]?=some g:=h.trans (congrArg some e)
open Tryz
def Tryz.aaK:Go.Shelf.Ren:=⟨fun | 156=>258 | 165=>318 | 166=>319 | 169=>320 | 240=>358 | 241=>359 | 276=>386 | 277=>387 | n=>n,fun | 31=>48 | 9=>9 | 3=>3 | 4=>4 | 0=>0 | 20=>20 | 72=>345 | 76=>267 | 70=>343 | 37=>171 | 75=>266 | 127=>380 | 164=>405 | 5=>5 | 80=>347 | n=>n,fun | n=>n⟩
theorem Tryz.aaL : Go.Proofs.Lays.n156 Tryz.prog Tryz.aaK := {
  mixed:=by kernel_rfl
  f156:=cI func258
  f165:=cI func318
  f166:=cI func319
  f169:=cI func320
  f240:=cI func358
  f241:=cI func359
  f276:=cI func386
  f277:=cI func387
  t0:=underlying0
  a0:=isAgg0
  z0:=sizeOf0
  v0:=zeroValue0
  t3:=underlying3
  a3:=isAgg3
  z3:=sizeOf3
  v3:=zeroValue3
  t4:=underlying4
  a4:=isAgg4
  z4:=sizeOf4
  v4:=zeroValue4
  t9:=underlying9
  a9:=isAgg9
  z9:=sizeOf9
  v9:=zeroValue9
  t20:=underlying20
  a20:=isAgg20
  z20:=sizeOf20
  v20:=zeroValue20
  t31:=underlying48
  a31:=isAgg48
  z31:=sizeOf48
  v31:=zeroValue48
  t37:=underlying171
  a37:=isAgg171
  z37:=sizeOf171
  v37:=zeroValue171
  t70:=underlying343
  a70:=isAgg343
  z70:=sizeOf343
  v70:=zeroValue343
  t72:=underlying345
  a72:=isAgg345
  z72:=sizeOf345
  v72:=zeroValue345
  t75:=underlying266
  a75:=isAgg266
  z75:=sizeOf266
  v75:=zeroValue266
  t76:=underlying267
  a76:=isAgg267
  z76:=sizeOf267
  v76:=zeroValue267
  t127:=underlying380
  a127:=isAgg380
  z127:=sizeOf380
  v127:=zeroValue380
  t164:=underlying405
  a164:=isAgg405
  z164:=sizeOf405
  v164:=zeroValue405 }
theorem Tryz.aaM : Builder.Extra Tryz.prog Tryz.aaK := {
  sizeBuilder:=by kernel_rfl
  liesBuilder:=by kernel_rfl
  t5:=underlying5
  a5:=isAgg5
  z5:=sizeOf5
  v5:=zeroValue5
  infoByte:=by kernel_rfl
  cellsByte:=by kernel_rfl
  sizeByte:=by kernel_rfl
  neB5:=by decide }
def Tryz.asn:Go.Shelf.Ren:=⟨fun | 171=>204 | 243=>264 | 246=>330 | 283=>368 | 284=>369 | 285=>370 | 286=>371 | 129=>291 | 317=>392 | 318=>393 | 319=>394 | 320=>395 | 337=>399 | 338=>400 | n=>n,fun | 3=>3 | 9=>9 | 2=>2 | 4=>4 | 171=>386 | 0=>0 | 53=>285 | 37=>171 | 5=>5 | 173=>388 | 212=>418 | 51=>282 | 20=>20 | 213=>419 | 46=>228 | 232=>423 | 233=>424 | n=>n,fun | 17=>5 | 18=>6 | 19=>7 | n=>n⟩
theorem Tryz.aaN : Go.Proofs.LaysM.n171 Tryz.prog Tryz.asn := {
  mixed:=by kernel_rfl
  f129:=cI func291
  f171:=cI func204
  f243:=cI func264
  f246:=cI func330
  f283:=cI func368
  f284:=cI func369
  f285:=cI func370
  f286:=cI func371
  f317:=cI func392
  f318:=cI func393
  f319:=cI func394
  f320:=cI func395
  f337:=cI func399
  f338:=cI func400
  t0:=underlying0
  a0:=isAgg0
  z0:=sizeOf0
  v0:=zeroValue0
  t2:=underlying2
  a2:=isAgg2
  z2:=sizeOf2
  v2:=zeroValue2
  t3:=underlying3
  a3:=isAgg3
  z3:=sizeOf3
  v3:=zeroValue3
  t4:=underlying4
  a4:=isAgg4
  z4:=sizeOf4
  v4:=zeroValue4
  t5:=underlying5
  a5:=isAgg5
  z5:=sizeOf5
  v5:=zeroValue5
  t9:=underlying9
  a9:=isAgg9
  z9:=sizeOf9
  v9:=zeroValue9
  t20:=underlying20
  a20:=isAgg20
  z20:=sizeOf20
  v20:=zeroValue20
  t37:=underlying171
  a37:=isAgg171
  z37:=sizeOf171
  v37:=zeroValue171
  t46:=underlying228
  a46:=isAgg228
  z46:=sizeOf228
  v46:=zeroValue228
  t51:=underlying282
  a51:=isAgg282
  z51:=sizeOf282
  v51:=zeroValue282
  t53:=underlying285
  a53:=isAgg285
  z53:=sizeOf285
  v53:=zeroValue285
  t171:=underlying386
  a171:=isAgg386
  z171:=sizeOf386
  v171:=zeroValue386
  t173:=underlying388
  a173:=isAgg388
  z173:=sizeOf388
  v173:=zeroValue388
  t212:=underlying418
  a212:=isAgg418
  z212:=sizeOf418
  v212:=zeroValue418
  t213:=underlying419
  a213:=isAgg419
  z213:=sizeOf419
  t232:=underlying423
  a232:=isAgg423
  z232:=sizeOf423
  v232:=zeroValue423
  t233:=underlying424
  a233:=isAgg424
  z233:=sizeOf424
  v233:=zeroValue424
  g17:=by kernel_rfl
  g18:=by kernel_rfl
  g19:=by kernel_rfl
  i0:=by kernel_rfl
  i2:=by kernel_rfl
  i3:=by kernel_rfl
  i4:=by kernel_rfl
  i5:=by kernel_rfl
  i9:=by kernel_rfl
  i20:=by kernel_rfl
  i37:=by kernel_rfl
  i46:=by kernel_rfl
  i51:=by kernel_rfl
  i53:=by kernel_rfl
  i171:=by kernel_rfl
  i173:=by kernel_rfl
  i212:=by kernel_rfl
  i232:=by kernel_rfl
  i233:=by kernel_rfl
  m17:=by kernel_rfl
  m18:=by kernel_rfl
  m19:=by kernel_rfl }
def Tryz.aso:Go.Shelf.Ren:=⟨fun | 172=>203 | 244=>262 | 245=>263 | 247=>325 | 279=>326 | 280=>327 | 281=>328 | 282=>329 | 287=>365 | 316=>366 | 171=>204 | 205=>367 | 321=>390 | 322=>391 | 243=>264 | 246=>330 | 283=>368 | 284=>369 | 285=>370 | 286=>371 | 129=>291 | 317=>392 | 318=>393 | 319=>394 | 320=>395 | 337=>399 | 338=>400 | n=>n,fun | 9=>9 | 3=>3 | 75=>266 | 76=>267 | 4=>4 | 5=>5 | 167=>351 | 37=>171 | 0=>0 | 85=>352 | 2=>2 | 168=>354 | 53=>285 | 175=>381 | 46=>228 | 210=>384 | 127=>380 | 145=>416 | 143=>414 | 21=>21 | 171=>386 | 173=>388 | 212=>418 | 51=>282 | 20=>20 | 213=>419 | 232=>423 | 233=>424 | 80=>347 | n=>n,fun | 15=>1 | 16=>2 | 17=>5 | 18=>6 | 19=>7 | n=>n⟩
theorem Tryz.QH : Go.Proofs.LaysC.n172 Tryz.prog Tryz.aso := {
  mixed:=by kernel_rfl
  f129:=cI func291
  f171:=cI func204
  f172:=cI func203
  f205:=cI func367
  f243:=cI func264
  f244:=cI func262
  f245:=cI func263
  f246:=cI func330
  f247:=cI func325
  f279:=cI func326
  f280:=cI func327
  f281:=cI func328
  f282:=cI func329
  f283:=cI func368
  f284:=cI func369
  f285:=cI func370
  f286:=cI func371
  f287:=cI func365
  f316:=cI func366
  f317:=cI func392
  f318:=cI func393
  f319:=cI func394
  f320:=cI func395
  f321:=cI func390
  f322:=cI func391
  f337:=cI func399
  f338:=cI func400
  t0:=underlying0
  a0:=isAgg0
  z0:=sizeOf0
  v0:=zeroValue0
  t2:=underlying2
  a2:=isAgg2
  z2:=sizeOf2
  v2:=zeroValue2
  t3:=underlying3
  a3:=isAgg3
  z3:=sizeOf3
  v3:=zeroValue3
  t4:=underlying4
  a4:=isAgg4
  z4:=sizeOf4
  v4:=zeroValue4
  t5:=underlying5
  a5:=isAgg5
  z5:=sizeOf5
  v5:=zeroValue5
  t9:=underlying9
  a9:=isAgg9
  z9:=sizeOf9
  v9:=zeroValue9
  t20:=underlying20
  a20:=isAgg20
  z20:=sizeOf20
  v20:=zeroValue20
  t21:=underlying21
  a21:=isAgg21
  z21:=sizeOf21
  v21:=zeroValue21
  t37:=underlying171
  a37:=isAgg171
  z37:=sizeOf171
  v37:=zeroValue171
  t46:=underlying228
  a46:=isAgg228
  z46:=sizeOf228
  v46:=zeroValue228
  t51:=underlying282
  a51:=isAgg282
  z51:=sizeOf282
  v51:=zeroValue282
  t53:=underlying285
  a53:=isAgg285
  z53:=sizeOf285
  v53:=zeroValue285
  t75:=underlying266
  a75:=isAgg266
  z75:=sizeOf266
  v75:=zeroValue266
  t76:=underlying267
  a76:=isAgg267
  z76:=sizeOf267
  v76:=zeroValue267
  t85:=underlying352
  a85:=isAgg352
  z85:=sizeOf352
  v85:=zeroValue352
  t127:=underlying380
  a127:=isAgg380
  z127:=sizeOf380
  v127:=zeroValue380
  t143:=underlying414
  a143:=isAgg414
  z143:=sizeOf414
  v143:=zeroValue414
  t145:=underlying416
  a145:=isAgg416
  z145:=sizeOf416
  v145:=zeroValue416
  t167:=underlying351
  a167:=isAgg351
  z167:=sizeOf351
  v167:=zeroValue351
  t168:=underlying354
  a168:=isAgg354
  z168:=sizeOf354
  v168:=zeroValue354
  t171:=underlying386
  a171:=isAgg386
  z171:=sizeOf386
  v171:=zeroValue386
  t173:=underlying388
  a173:=isAgg388
  z173:=sizeOf388
  v173:=zeroValue388
  t175:=underlying381
  a175:=isAgg381
  z175:=sizeOf381
  v175:=zeroValue381
  t210:=underlying384
  a210:=isAgg384
  z210:=sizeOf384
  v210:=zeroValue384
  t212:=underlying418
  a212:=isAgg418
  z212:=sizeOf418
  v212:=zeroValue418
  t213:=underlying419
  a213:=isAgg419
  z213:=sizeOf419
  t232:=underlying423
  a232:=isAgg423
  z232:=sizeOf423
  v232:=zeroValue423
  t233:=underlying424
  a233:=isAgg424
  z233:=sizeOf424
  v233:=zeroValue424
  g15:=by kernel_rfl
  g16:=by kernel_rfl
  g17:=by kernel_rfl
  g18:=by kernel_rfl
  g19:=by kernel_rfl
  t80:=underlying347
  a80:=isAgg347
  z80:=sizeOf347
  v80:=zeroValue347
  i0:=by kernel_rfl
  i2:=by kernel_rfl
  i3:=by kernel_rfl
  i4:=by kernel_rfl
  i5:=by kernel_rfl
  i9:=by kernel_rfl
  i20:=by kernel_rfl
  i21:=by kernel_rfl
  i37:=by kernel_rfl
  i46:=by kernel_rfl
  i51:=by kernel_rfl
  i53:=by kernel_rfl
  i75:=by kernel_rfl
  i76:=by kernel_rfl
  i80:=by kernel_rfl
  i85:=by kernel_rfl
  i127:=by kernel_rfl
  i143:=by kernel_rfl
  i145:=by kernel_rfl
  i167:=by kernel_rfl
  i168:=by kernel_rfl
  i171:=by kernel_rfl
  i173:=by kernel_rfl
  i175:=by kernel_rfl
  i210:=by kernel_rfl
  i212:=by kernel_rfl
  i232:=by kernel_rfl
  i233:=by kernel_rfl
  m15:=by kernel_rfl
  m16:=by kernel_rfl
  m17:=by kernel_rfl
  m18:=by kernel_rfl
  m19:=by kernel_rfl
  c0:=by kernel_rfl
  c2:=by kernel_rfl
  c3:=by kernel_rfl
  c4:=by kernel_rfl
  c5:=by kernel_rfl
  c9:=by kernel_rfl
  c20:=by kernel_rfl
  c21:=by kernel_rfl
  c37:=by kernel_rfl
  c46:=by kernel_rfl
  c51:=by kernel_rfl
  c53:=by kernel_rfl
  c75:=by kernel_rfl
  c76:=by kernel_rfl
  c80:=by kernel_rfl
  c85:=by kernel_rfl
  c127:=by kernel_rfl
  c143:=by kernel_rfl
  c145:=by kernel_rfl
  c167:=by kernel_rfl
  c168:=by kernel_rfl
  c171:=by kernel_rfl
  c173:=by kernel_rfl
  c175:=by kernel_rfl
  c210:=by kernel_rfl
  c212:=by kernel_rfl
  c213:=by kernel_rfl
  c232:=by kernel_rfl
  c233:=by kernel_rfl }
open Go.RowKit in
theorem Tryz.strconv_Atoi_ok(s:ByteArray)(zo:s.size<=9223372036854775806)(v:Int)(h:Lib.atoiAll s.data.toList=.ok v)(w:World) :
  Calls Tryz.prog 203 #[.string s] w λe w'=>e=.returned (.tuple #[.int .i64 v,.nilIface])/\(w'=w\/∃ t,w'=Lib.bytesWorld w 5 t):=Any.strconv_Atoi_ok Tryz.QH s zo v h w
open Go.RowKit in
theorem Tryz.strconv_Atoi_syntax(s:ByteArray)(r6:s.size<=281474976710656)(h:Lib.atoiAll s.data.toList=Lib.atoiAll [])(ib:Value)(w:World)(ae:w.cell? ⟨1,0,none⟩=some ib)(pJ:ib=.nilIface\/∃ lG l9,ib=.iface lG l9) :
  Calls Tryz.prog 203 #[.string s] w λe w'=>∃ N,e=.returned (.tuple #[.int .i64 (0),.iface 354 (.pointer (some ⟨N,0,none⟩))])/\w.heap.size<=N/\w'.heap[N]?=some (.cells #[.string ⟨#[65,116,111,105]⟩,.string s,ib] 384 (0,0))/\Below w.heap.size w w':=Any.strconv_Atoi_syntax Tryz.QH s r6 h ib w ae pJ
open Go.RowKit in
theorem Tryz.strconv_Atoi_range(s:ByteArray)(r6:s.size<=281474976710656)(h:Lib.atoiAll s.data.toList=.range)(ib:Value)(w:World)(ae:w.cell? ⟨2,0,none⟩=some ib)(pJ:ib=.nilIface\/∃ lG l9,ib=.iface lG l9) :
  Calls Tryz.prog 203 #[.string s] w λe w'=>∃ N,e=.returned (.tuple #[.int .i64 (Lib.atoiSat s.data.toList),.iface 354 (.pointer (some ⟨N,0,none⟩))])/\w.heap.size<=N/\w'.heap[N]?=some (.cells #[.string ⟨#[65,116,111,105]⟩,.string s,ib] 384 (0,0))/\Below w.heap.size w w':=Any.strconv_Atoi_range Tryz.QH s r6 h ib w ae pJ
def Tryz.asp:Go.Shelf.Ren:=⟨fun | 146=>139 | 221=>202 | 268=>259 | 138=>260 | 143=>261 | 195=>321 | 197=>322 | 218=>323 | 219=>324 | 260=>360 | 217=>361 | 225=>362 | 224=>363 | 267=>364 | 266=>388 | 314=>389 | n=>n,fun | 9=>9 | 31=>48 | 3=>3 | 4=>4 | 0=>0 | 105=>348 | 21=>21 | 5=>5 | 46=>228 | 119=>408 | 139=>411 | 138=>410 | 146=>283 | 51=>282 | n=>n,fun | 1=>0 | 3=>3 | 4=>4 | n=>n⟩
theorem Tryz.asq : Go.Proofs.Lays.n146 Tryz.prog Tryz.asp := {
  mixed:=by kernel_rfl
  f138:=cI func260
  f143:=cI func261
  f146:=cI func139
  f195:=cI func321
  f197:=cI func322
  f217:=cI func361
  f218:=cI func323
  f219:=cI func324
  f221:=cI func202
  f224:=cI func363
  f225:=cI func362
  f260:=cI func360
  f266:=cI func388
  f267:=cI func364
  f268:=cI func259
  f314:=cI func389
  t0:=underlying0
  a0:=isAgg0
  z0:=sizeOf0
  v0:=zeroValue0
  t3:=underlying3
  a3:=isAgg3
  z3:=sizeOf3
  v3:=zeroValue3
  t4:=underlying4
  a4:=isAgg4
  z4:=sizeOf4
  v4:=zeroValue4
  t5:=underlying5
  a5:=isAgg5
  z5:=sizeOf5
  v5:=zeroValue5
  t9:=underlying9
  a9:=isAgg9
  z9:=sizeOf9
  v9:=zeroValue9
  t21:=underlying21
  a21:=isAgg21
  z21:=sizeOf21
  v21:=zeroValue21
  t31:=underlying48
  a31:=isAgg48
  z31:=sizeOf48
  v31:=zeroValue48
  t46:=underlying228
  a46:=isAgg228
  z46:=sizeOf228
  v46:=zeroValue228
  t51:=underlying282
  a51:=isAgg282
  z51:=sizeOf282
  v51:=zeroValue282
  t105:=underlying348
  a105:=isAgg348
  z105:=sizeOf348
  v105:=zeroValue348
  t119:=underlying408
  a119:=isAgg408
  z119:=sizeOf408
  t138:=underlying410
  a138:=isAgg410
  z138:=sizeOf410
  v138:=zeroValue410
  t139:=underlying411
  a139:=isAgg411
  z139:=sizeOf411
  v139:=zeroValue411
  t146:=underlying283
  a146:=isAgg283
  z146:=sizeOf283
  v146:=zeroValue283
  g1:=by kernel_rfl
  g3:=by kernel_rfl
  g4:=by kernel_rfl }
def Tryz.asr:Go.Shelf.Ren:=⟨fun | 189=>161 | 125=>215 | 257=>214 | 128=>290 | 129=>291 | 294=>281 | 295=>282 | 296=>283 | 297=>284 | 298=>285 | 299=>286 | 216=>287 | 300=>288 | 301=>289 | 328=>340 | 329=>341 | 330=>342 | 331=>343 | 332=>344 | 215=>339 | 343=>383 | n=>n,fun | 28=>27 | 3=>3 | 46=>228 | 0=>0 | 51=>282 | 53=>285 | 4=>4 | 183=>314 | 182=>313 | 131=>193 | 5=>5 | 9=>9 | 218=>359 | 222=>363 | 228=>398 | 229=>331 | n=>n,fun | n=>n⟩
theorem Tryz.aaO : Go.Proofs.Lays.n189 Tryz.prog Tryz.asr := {
  mixed:=by kernel_rfl
  f125:=cI func215
  f128:=cI func290
  f129:=cI func291
  f189:=cI func161
  f215:=cI func339
  f216:=cI func287
  f257:=cI func214
  f294:=cI func281
  f295:=cI func282
  f296:=cI func283
  f297:=cI func284
  f298:=cI func285
  f299:=cI func286
  f300:=cI func288
  f301:=cI func289
  f328:=cI func340
  f329:=cI func341
  f330:=cI func342
  f331:=cI func343
  f332:=cI func344
  f343:=cI func383
  t0:=underlying0
  a0:=isAgg0
  z0:=sizeOf0
  v0:=zeroValue0
  t3:=underlying3
  a3:=isAgg3
  z3:=sizeOf3
  v3:=zeroValue3
  t4:=underlying4
  a4:=isAgg4
  z4:=sizeOf4
  v4:=zeroValue4
  t5:=underlying5
  a5:=isAgg5
  z5:=sizeOf5
  v5:=zeroValue5
  t9:=underlying9
  a9:=isAgg9
  z9:=sizeOf9
  v9:=zeroValue9
  t28:=underlying27
  a28:=isAgg27
  z28:=sizeOf27
  v28:=zeroValue27
  t46:=underlying228
  a46:=isAgg228
  z46:=sizeOf228
  v46:=zeroValue228
  t51:=underlying282
  a51:=isAgg282
  z51:=sizeOf282
  v51:=zeroValue282
  t53:=underlying285
  a53:=isAgg285
  z53:=sizeOf285
  v53:=zeroValue285
  t131:=underlying193
  a131:=isAgg193
  z131:=sizeOf193
  v131:=zeroValue193
  t182:=underlying313
  a182:=isAgg313
  z182:=sizeOf313
  v182:=zeroValue313
  t183:=underlying314
  a183:=isAgg314
  z183:=sizeOf314
  v183:=zeroValue314
  t218:=underlying359
  a218:=isAgg359
  z218:=sizeOf359
  v218:=zeroValue359
  t222:=underlying363
  a222:=isAgg363
  z222:=sizeOf363
  v222:=zeroValue363
  t228:=underlying398
  a228:=isAgg398
  z228:=sizeOf398
  v228:=zeroValue398
  t229:=underlying331
  a229:=isAgg331
  z229:=sizeOf331
  v229:=zeroValue331 }
def Tryz.ass:Go.Shelf.Ren:=⟨fun | 4=>257 | n=>n,fun | 22=>27 | 25=>3 | 3=>3 | 4=>4 | 9=>9 | 20=>20 | 0=>0 | n=>n,fun | n=>n⟩
theorem Tryz.aaP : Go.Proofs.Lays8.n4 Tryz.prog Tryz.ass := {
  mixed:=by kernel_rfl
  f4:=⟨Tryz.f257.name,by decide,cI func257⟩
  t0:=underlying0
  a0:=isAgg0
  z0:=sizeOf0
  v0:=zeroValue0
  t3:=underlying3
  a3:=isAgg3
  z3:=sizeOf3
  v3:=zeroValue3
  t4:=underlying4
  a4:=isAgg4
  z4:=sizeOf4
  v4:=zeroValue4
  t9:=underlying9
  a9:=isAgg9
  z9:=sizeOf9
  v9:=zeroValue9
  t20:=underlying20
  a20:=isAgg20
  z20:=sizeOf20
  v20:=zeroValue20
  t22:=underlying27
  a22:=isAgg27
  z22:=sizeOf27
  v22:=zeroValue27 }
def Tryz.ast:Go.Shelf.Ren:=⟨fun | 4=>256 | n=>n,fun | 22=>34 | 25=>125 | 3=>3 | 4=>4 | 9=>9 | 20=>20 | 0=>0 | n=>n,fun | n=>n⟩
theorem Tryz.aaQ : Go.Proofs.Lays8.n4 Tryz.prog Tryz.ast := {
  mixed:=by kernel_rfl
  f4:=⟨Tryz.f256.name,by decide,cI func256⟩
  t0:=underlying0
  a0:=isAgg0
  z0:=sizeOf0
  v0:=zeroValue0
  t3:=underlying3
  a3:=isAgg3
  z3:=sizeOf3
  v3:=zeroValue3
  t4:=underlying4
  a4:=isAgg4
  z4:=sizeOf4
  v4:=zeroValue4
  t9:=underlying9
  a9:=isAgg9
  z9:=sizeOf9
  v9:=zeroValue9
  t20:=underlying20
  a20:=isAgg20
  z20:=sizeOf20
  v20:=zeroValue20
  t22:=underlying34
  a22:=isAgg34
  z22:=sizeOf34
  v22:=zeroValue34 }
end Go.Proofs
namespace Go.Fer.au
theorem aaR:∀ s:aQ,(Go.Lib.index s [32]=-1/\cH s=[s])\/∃ t r,s=t++32::r/\Go.Lib.index s [32]=(t.length:Int)/\cH s=t::cH r
 | []=>.inl ⟨rfl,rfl⟩
 | b::l=>by
  unfold Go.Lib.index;by_cases W:b=32
  ·subst W;exact .inr ⟨[],l,rfl,by rfl,by rfl⟩
  ·have an:List.isPrefixOf [32] (b::l)=false:=by
    grind
   rw[an];have aD:=uJ l;rcases aaR l with⟨E,U⟩ | ⟨t,r,E,U,ah⟩
   ·rw[E];refine .inl ⟨rfl,?_⟩;unfold cH;grind
   ·rw[U];refine .inr ⟨b::t,r,by grind,?_,?_⟩
    ·rfl
    ·conv=>lhs;unfold cH
     grind
theorem asu:∀ (n:Nat) (s:aQ),s.length<=n->Go.Lib.splitK [32] 0 (Go.Lib.count s [32]) s=cH s:=by
 intro n;induction n with
 | zero=>
  intro s h;have:s=[]:=List.eq_nil_of_length_eq_zero (by omega);subst this;rfl
 | succ n aJ=>
  intro s h;rcases aaR s with⟨E,U⟩ | ⟨t,r,E,U,ah⟩
  ·rw[Go.Lib.count_miss E,U];rfl
  ·rw[Go.Lib.count_hit (by simp) U,ah,Nat.add_comm,Go.Lib.splitK,U];have:((t.length:Int) == -1)=false:=by rfl
   rw[this];have e:((t.length:Int)).toNat=t.length:=rfl;have Ei:s.drop (t.length+1)=r:=by simp_all
   grind
end Go.Fer.au
namespace Go.Fer.om
open Go Go.Proofs Go.RowKit
section
variable {P:Program} {F:Nat->Prop} {w:World}
theorem QI(x:List UInt8):(ByteArray.mk x.toArray).data.toList=x:=by simp
theorem JN(x:List UInt8):(ByteArray.mk x.toArray).size=x.length:=by rfl
theorem QJ{args:List Value}{x:List UInt8}(h:fp P .str F w args x):args=[.string ⟨x.toArray⟩]/\x.length<2 ^ 63:=by
 obtain⟨v,rfl,ae⟩:=(rT rfl).1 h;obtain⟨rfl,aj⟩:=l_.1 ae;grind
theorem asv{args:List Value}{x y:List UInt8}(h:fp P (.az .str .str) F w args (x,y)):args=[.string ⟨x.toArray⟩,.string ⟨y.toArray⟩]/\x.length<2 ^ 63/\y.length<2 ^ 63:=by
 obtain⟨v,us,rfl,ae,hu⟩:=Fu h;obtain⟨rfl,aj⟩:=l_.1 ae;obtain⟨rfl,gq⟩:=QJ hu;grind
theorem asw(w:World)(k:Nat)(os:Array Obj):Below w.heap.size w (Go.Sort.grow (w.drewN k) os):=by
 refine⟨rfl,rfl,rfl,?_,λj aE=>?_⟩
 ·simp
 ·show (w.heap++os)[j]?=_;grind
theorem JO(h:nH Tryz.prog F w){b:Nat}(W:b<6):F b/\Rs b λi=>w.cell? ⟨b,i,none⟩:=h b (Nat.lt_of_lt_of_le W (of_decide_eq_true (by rfl)))
end
theorem aaS(sep:ByteArray):∀ (k:Nat) (s:ByteArray),∀ x∈Lib.splitB sep 0 k s,x.size<=s.size
 | 0,s,x,ag=>by
  unfold Lib.splitB at ag;grind
 | k+1,s,x,ag=>by
  unfold Lib.splitB at ag;split at ag
  ·grind
  ·simp only[List.mem_cons]at ag;rcases ag with rfl | ag
   ·rw[ByteArray.size_extract];omega
   ·have:=aaS sep k _ x ag;rw[ByteArray.size_extract]at this;omega
def qb(s sep:List UInt8):List (List UInt8):=(Lib.splitB ⟨sep.toArray⟩ 0 (Lib.countB ⟨s.toArray⟩ ⟨sep.toArray⟩) ⟨s.toArray⟩).map (·.data.toList)
theorem asx(s:List UInt8):qb s [32]=au.cH s:=by
 unfold qb;rw[Lib.splitB_data];exact au.asu s.length s (Nat.le_refl _)
abbrev asy:Code:=Tryz.f139.body.getD .skip
theorem asz:h3 Tryz.prog 139 (.az .str .str) (.slice .str) au.JA.sh where
 enter:=ua Tryz.func139 (show Tryz.f139.body=some asy by rfl) (by rfl)
 iV:=λF w args x bn gn a8 aD=>by
  obtain⟨s,sep⟩:=x;obtain⟨aD,E⟩:s.length<=10000/\sep=[32]:=aD;subst E;obtain⟨rfl,aj,gq⟩:=asv a8;obtain⟨_,m,hm⟩:=JO gn (b:=0) (by decide);have cf:1<=(ByteArray.mk [32].toArray).size:=by decide
  refine (Any.strings_Split Tryz.asq (by kernel_rfl) ⟨s.toArray⟩ ⟨[32].toArray⟩ m w (by rw[JN];omega) hm cf).mono ?_;rintro e w' ⟨rfl,rfl⟩;have hlen:=Lib.splitB_all ⟨[32].toArray⟩ cf 0 _ ⟨s.toArray⟩ rfl;have rk:=Lib.countB_le ⟨[32].toArray⟩ cf _ ⟨s.toArray⟩ (Nat.le_refl _);rw[JN]at rk;have j':=aaS ⟨[32].toArray⟩ (Lib.countB ⟨s.toArray⟩ ⟨[32].toArray⟩) ⟨s.toArray⟩;rw[JN]at j';have w_:(qb s [32]).length=Lib.countB ⟨s.toArray⟩ ⟨[32].toArray⟩+1:=by unfold qb;grind
  refine⟨_,qb s [32],rfl,asx s,⟨[_],rfl,(rT rfl).2 ⟨_,rfl,(dV rfl).2 ⟨rfl,some ⟨w.heap.size,0,none⟩,Lib.countB ⟨s.toArray⟩ ⟨[32].toArray⟩+1,by rw[w_],by omega,by omega,nofun,λp an hc=>?_⟩⟩⟩,?_⟩
  ·cases an;refine⟨.inr ⟨Nat.le_refl _,by simp⟩,rfl,λi G=>?_⟩;have dv:i<(Lib.splitB ⟨[32].toArray⟩ 0 (Lib.countB ⟨s.toArray⟩ ⟨[32].toArray⟩) ⟨s.toArray⟩).length:=by omega
   generalize aT:Lib.splitB ⟨[32].toArray⟩ 0 (Lib.countB ⟨s.toArray⟩ ⟨[32].toArray⟩) ⟨s.toArray⟩=B at dv j' hlen;have jw:(qb s [32])[i]=B[i].data.toList:=by
    have U:qb s [32]=B.map (·.data.toList):=by unfold qb;rw[aT]
    grind
   have bG:Value.string B[i]=.string ⟨(B[i].data.toList).toArray⟩:=by simp
   refine⟨[.string B[i]],⟨.inr ⟨Nat.le_refl _,by simp⟩,rfl,λj aE=>?_⟩,?_,?_⟩
   ·have aE:j=0:=by grind
    subst aE;rw[u3 (p0 w _)];have ax:0+i*ad.size .str+0=i:=by show 0+i*1+0=i;omega
    grind
   ·simp_all
   ·have:=j' _ (List.getElem_mem dv);have e:(B[i]).data.toList.length=(B[i]).size:=Array.length_toList;grind
  ·exact (Below.refl _ _).alloc (Nat.le_refl _) _
theorem aaT{F : Nat -> Prop}{w : World}(h : nH Tryz.prog F w) : Lib.TabIs Tryz.prog w "internal/strconv.uint64pow10" .u64 Lib.pow10Tab := by
 have bK:∀ i,w.cell? ⟨5,i,none⟩=if i<20 then some (.int .u64 (10 ^ i)) else none:=(JO h (b:=5) (by decide)).2
 unfold Lib.TabIs World.var?;rw[show Tryz.prog.globalNamed "internal/strconv.uint64pow10" = some 5 by rfl];show (match w.heap[5]? with | some (.cells cs _ _)=>some cs | _=>none)=_;have aX:=bK 0;cases af:w.heap[5]? with
 | none=>simp[World.cell?,af]at aX
 | some o=>
  cases o with
  | cells cs T sM=>
   simp only[Option.some.injEq];apply Array.ext_getElem?;intro i;have G:=bK i;simp only[World.cell?,af,Option.isSome_none,Bool.false_eq_true,if_false]at G;rw[G];split
   ·rename_i Bz;simp only[List.getElem?_toArray,List.getElem?_map,Lib.pow10Tab];grind
   ·rename_i Bz;rw[Array.getElem?_eq_none];simp[Lib.pow10Tab];omega
  | _=>simp[World.cell?,af]at aX
abbrev asA:Code:=Tryz.f204.body.getD .skip
theorem asB{P:Program}{F:Nat->Prop}{w:World}{args:List Value}{x:Int}(h:fp P (.int .i64) F w args x):args=[.int .i64 x]/\fS .i64 x:=by
 obtain⟨v,rfl,ae⟩:=(rT rfl).1 h;obtain⟨rfl,aj⟩:=gS.1 ae;grind
theorem asC{n:Int}(h:fS .i64 n):-9223372036854775808<=n/\n<=9223372036854775807:=h
theorem asD:h3 Tryz.prog 204 (.int .i64) .str au.Jr.sh where
 enter:=ua Tryz.func204 (show Tryz.f204.body=some asA by rfl) (by rfl)
 iV:=λF w args x bn gn a8 aD=>by
  change Int at x;obtain⟨rfl,M⟩:=asB a8;obtain⟨aX,E⟩:=asC M;refine (Any.strconv_Itoa Tryz.aaN x aX E w (aaT gn)).mono ?_;rintro e w' ⟨rfl,k,os,rfl⟩;have ag:au.rL x=Lib.itoa x:=by unfold au.rL;rw[bC aX (by omega)]
  refine⟨_,au.rL x,rfl,rfl,⟨[_],rfl,(rT rfl).2 ⟨_,rfl,l_.2 ⟨by rw[ag],Nat.lt_of_le_of_lt (au.Qa x) (by decide)⟩⟩⟩,asw w k os⟩
abbrev asE:Code:=Tryz.f258.body.getD .skip
theorem asF:h3 Tryz.prog 258 (.az (.slice .str) .str) .str au.E1.sh where
 enter:=ua Tryz.func258 (show Tryz.f258.body=some asE by rfl) (by rfl)
 iV:=λF w args x bn gn a8 aD=>by
  obtain⟨l,sep⟩:=x;obtain⟨aw,hw,E⟩:l.length<=60000/\(∀ w∈l,w.length<=21)/\sep.length=1:=aD;have z1:=au.aao l sep 21 hw;have E:sep.length=1:=E;have aw:l.length<=60000:=aw;rw[E]at z1;have aE:(Lib.join l sep).length<2 ^ 63:=by omega
  obtain⟨v,us,rfl,ae,hu⟩:=Fu a8;obtain⟨rfl,_⟩:=QJ hu;obtain⟨_,p,cap,ih,c2,c3,c4,c5⟩:=(dV rfl).1 ae;obtain rfl:v=.slice p l.length cap:=by grind
  change l.length<=cap at c2;have fin:∀ w',Below w.heap.size w w'->∃ v y,Ending.returned (.string ⟨(Lib.join l sep).toArray⟩)=.returned v/\(au.E1.sh (l,sep)).bL y/\tj Tryz.prog .str (uT F w w') w' v y/\Below w.heap.size w w':=λw' W=>
   ⟨_,Lib.join l sep,rfl,rfl,⟨[_],rfl,(rT rfl).2 ⟨_,rfl,l_.2 ⟨rfl,aE⟩⟩⟩,W⟩
  by_cases aj:l=[]
  ·subst aj;refine (Any.strings_Join_none Tryz.aaL Tryz.aaM p cap ⟨sep.toArray⟩ w).mono ?_;rintro e w' ⟨rfl,rfl⟩;exact fin _ (Below.refl _ _)
  ·have lf:0<l.length:=List.length_pos_iff.2 aj;obtain⟨q,rfl⟩:∃ q,p=some q:=by
    cases p with
    | none=>grind
    | some q=>simp
   obtain⟨d1,d2,d3⟩:=c5 q rfl (by omega);obtain⟨asG,o,sp⟩:=q;obtain rfl:sp=none:=d2;have hlen:(l.map λx:List UInt8=>ByteArray.mk x.toArray).length=l.length:=List.length_map ..;have KC:(l.map λx:List UInt8=>ByteArray.mk x.toArray).map (·.data.toList)=l:=by rw[List.map_map];exact (List.map_congr_left λx _=>QI x).trans (List.map_id _)
   have:=Any.strings_Join Tryz.aaL Tryz.aaM asG o cap (l.map λx:List UInt8=>ByteArray.mk x.toArray) ⟨sep.toArray⟩ w (λj x ag=>by
    rw[List.getElem?_map]at ag;obtain⟨y,aS,rfl⟩:=Option.map_eq_some_iff.1 ag;obtain⟨z1,rfl⟩:=List.getElem?_eq_some_iff.1 aS;obtain⟨bh,⟨_,_,cD⟩,et⟩:=d3 j z1;obtain⟨rfl,_⟩:=et;have:=cD 0 (by simp);simpa [ad.size]using this) (bn _ d1) (by omega) (by omega) (by grind)
   rw[hlen,KC,QI]at this;refine this.mono ?_;simp_all
end Go.Fer.om
namespace Go.Proofs
open Go.RowKit
theorem Tryz.asH{P:Program}{w w':World}{n:String}{k:IntKind}{zs:z1'}(h:Lib.TabIs P w n k zs)(W:Below w.heap.size w w'):Lib.TabIs P w' n k zs:=by
 unfold Lib.TabIs World.var? at *
 cases aB:P.globalNamed n with
 | none=>rw[aB]at h;cases h
 | some g=>
  rw[aB]at h;simp only[Option.bind_some]at h ⊢;by_cases cc:g<w.heap.size
  ·rw[W.block g cc];exact h
  ·rw[Array.getElem?_eq_none (by omega)]at h;cases h
set_option maxHeartbeats 4000000 in
set_option maxRecDepth 1000000 in
theorem Tryz.asI(s:ByteArray)(w:World)(v:Int)(zo:s.size<=9223372036854775806)(h:Lib.atoiAll s.data.toList=.ok v)(aX:-9223372036854775808<=v)(E:v<=9223372036854775807)
  (asJ : Lib.TabIs Tryz.prog w "internal/strconv.uint64pow10" .u64 Lib.pow10Tab) :
  Calls Tryz.prog 140 #[.string s] w λe w'=>e=.returned (.tuple #[.int .i64 v,.bool (decide (s.size<=6)&&decide (0<=v)&&decide (Lib.itoa v=s.data.toList))])/\Below w.heap.size w w':=by
 go_enter Tryz.func140,Tryz.ntmps140;go_wp2_with fail;refine (Tryz.strconv_Atoi_ok s zo v h w).mono ?_;rintro e cn ⟨rfl,lR⟩;have mm:Below w.heap.size w cn:=by
  rcases lR with rfl | ⟨t,rfl⟩
  ·exact Below.refl _ _
  ·exact Lib.bytesWorld_below w 5 t
 have asK:=Tryz.asH asJ mm;clear lR;by_cases aO:(s.size:Int)<=6
 ·by_cases aR:v>=0
  ·go_wp2_with fail;refine (Any.strconv_Itoa Tryz.aaN v aX E cn asK).mono ?_;rintro e c_ ⟨rfl,k,os,rfl⟩;have qX:Below w.heap.size w (Go.Sort.grow (cn.drewN k) os):=mm.trans ⟨rfl,rfl,rfl,by show _<=(cn.heap++os).size;simp,λj aE=>by
    have:=mm.size;show (cn.heap++os)[j]?=_;rw[Array.getElem?_append_left (by omega)]⟩
   generalize Go.Sort.grow (cn.drewN k) os=c_ at qX;go_wp2;go_returns;refine⟨congrArg Ending.returned (congrArg Value.tuple ?_),qX⟩;show #[Value.int IntKind.i64 v,Value.bool (Lib.itoa v == s.toList)]=_;rw[Go.ByteArray.toList_eq,show decide (s.size<=6)=true from decide_eq_true (by omega),show decide (0<=v)=true from decide_eq_true aR,Bool.true_and,Bool.true_and,show (Lib.itoa v == s.data.toList)=decide (Lib.itoa v=s.data.toList) by rw[Bool.eq_iff_iff];simp]
  ·go_wp2;go_returns;refine⟨congrArg Ending.returned (congrArg Value.tuple ?_),mm⟩;show #[Value.int IntKind.i64 v,Value.bool false]=_;rw[show decide (0<=v)=false from decide_eq_false (by omega),Bool.and_false,Bool.false_and]
 ·go_wp2;go_returns;refine⟨congrArg Ending.returned (congrArg Value.tuple ?_),mm⟩;show #[Value.int IntKind.i64 v,Value.bool false]=_;rw[show decide (s.size<=6)=false from decide_eq_false (by omega),Bool.false_and,Bool.false_and]
set_option maxHeartbeats 4000000 in
set_option maxRecDepth 1000000 in
theorem Tryz.asL(s:ByteArray)(w:World)(r6:s.size<=281474976710656)(h:Lib.atoiAll s.data.toList=Lib.atoiAll [])(ib:Value)(ae:w.cell? ⟨1,0,none⟩=some ib)(pJ:ib=.nilIface\/∃ lG l9,ib=.iface lG l9) :
  Calls Tryz.prog 140 #[.string s] w λe w'=>e=.returned (.tuple #[.int .i64 0,.bool false])/\Below w.heap.size w w':=by
 go_enter Tryz.func140,Tryz.ntmps140;go_wp2_with fail;refine (Tryz.strconv_Atoi_syntax s r6 h ib w ae pJ).mono ?_;rintro e cn ⟨N,rfl,_,_,mm⟩;go_wp2;go_returns;exact⟨rfl,mm⟩
set_option maxHeartbeats 4000000 in
set_option maxRecDepth 1000000 in
theorem Tryz.asM(s:ByteArray)(w:World)(r6:s.size<=281474976710656)(h:Lib.atoiAll s.data.toList=.range)(ib:Value)(ae:w.cell? ⟨2,0,none⟩=some ib)(pJ:ib=.nilIface\/∃ lG l9,ib=.iface lG l9) :
  Calls Tryz.prog 140 #[.string s] w λe w'=>e=.returned (.tuple #[.int .i64 (Lib.atoiSat s.data.toList),.bool false])/\Below w.heap.size w w':=by
 go_enter Tryz.func140,Tryz.ntmps140;go_wp2_with fail;refine (Tryz.strconv_Atoi_range s r6 h ib w ae pJ).mono ?_;rintro e cn ⟨N,rfl,_,_,mm⟩;go_wp2;go_returns;exact⟨rfl,mm⟩
end Go.Proofs
namespace Go.Fer.au
open A (V)
theorem aaU:∀ (s:aQ) (n:Int),0<=n->gg s n≠-1->n<=gg s n
 | [],n,_,_=>Int.le_refl _
 | c::s,n,h,E=>by
  unfold gg at E ⊢;split at E
  ·omega
  ·rename_i hc;rw[if_neg hc];simp only[Bool.or_eq_true,decide_eq_true_eq,not_or]at hc;have:=aaU s _ (by omega) E;omega
theorem QK(d:UInt8):∀ (s:aQ) (n:Int),0<=n->gg (s++[d]) n=if gg s n=-1 then -1 else if (decide ((d.toNat:Int)<48)||decide ((d.toNat:Int) > 57))=true then -1 else 10*gg s n+((d.toNat:Int) - 48)
 | [],n,h=>by
  show gg [d] n=if n=-1 then _ else _
  rw[if_neg (by omega)];rfl
 | c::s,n,h=>by
  rw[List.cons_append];conv=>lhs;unfold gg
  by_cases hc:(decide ((c.toNat:Int)<48)||decide ((c.toNat:Int) > 57))=true
  ·rw[if_pos hc,show gg (c::s) n=-1 by unfold gg;grind,if_pos rfl]
  ·rw[if_neg hc,show gg (c::s) n=gg s (10*n+((c.toNat:Int) - 48)) from (if_neg hc:(if (decide ((c.toNat:Int)<48)||decide ((c.toNat:Int) > 57))=true then (-1:Int) else _)=_)];simp only[Bool.or_eq_true,decide_eq_true_eq,not_or]at hc;exact QK d s _ (by omega)
theorem JP(k:Nat)(h:k<10):((UInt8.ofNat (48+k)).toNat:Int)=48+k:=by
 have:(UInt8.ofNat (48+k)).toNat=(48+k) % 256:=UInt8.toNat_ofNat';omega
theorem aaV(u:Nat):gg (Go.Lib.decDigits u) 0=u:=by
 induction u using Nat.strongRecOn with
 | _ u aJ=>
  unfold Go.Lib.decDigits;split
  ·rename_i h;have:=JP u h;unfold gg;rw[if_neg (by grind),this];show (10*0+(48+(u:Int) - 48))=u;omega
  ·rename_i h;have ar:=JP (u % 10) (by omega);rw[QK _ _ _ (Int.le_refl _),aJ (u / 10) (by omega),if_neg (by omega),if_neg (by grind),ar];omega
theorem aaW(u:Nat):Go.Lib.decDigits u≠[]/\(1<(Go.Lib.decDigits u).length->((Go.Lib.decDigits u).getD 0 0).toNat≠48):=by
 induction u using Nat.strongRecOn with
 | _ u aJ=>
  by_cases h:u<10
  ·rw[Go.Lib.decDigits_one h];simp
  ·obtain⟨E,U⟩:=aJ (u / 10) (by omega);have e:Go.Lib.decDigits u=Go.Lib.decDigits (u / 10)++[UInt8.ofNat (48+u % 10)]:=by
    conv=>lhs;unfold Go.Lib.decDigits
    grind
   rw[e];refine⟨by simp,λ_=>?_⟩;have aj:0<(Go.Lib.decDigits (u / 10)).length:=List.length_pos_iff.2 E;rw[show (Go.Lib.decDigits (u / 10)++[UInt8.ofNat (48+u % 10)]).getD 0 0=(Go.Lib.decDigits (u / 10)).getD 0 0 by
    grind]
   by_cases ah:1<(Go.Lib.decDigits (u / 10)).length
   ·omega
   ·have o5:u / 10<10:=by
     refine Classical.byContradiction λaw=>ah ?_;have aM:Go.Lib.decDigits (u / 10)=Go.Lib.decDigits (u / 10 / 10)++[UInt8.ofNat (48+u / 10 % 10)]:=by
      conv=>lhs;unfold Go.Lib.decDigits
      grind
     grind
    rw[Go.Lib.decDigits_one o5];have:=JP (u / 10) o5;grind
theorem asN:∀ (n:Nat) (s:aQ),s.length=n->s≠[]->(1<s.length->(s.getD 0 0).toNat≠48)->gg s 0≠-1->Go.Lib.decDigits (gg s 0).toNat=s:=by
 intro n;induction n with
 | zero=>simp
 | succ n aJ=>
  intro s E U ah a1;obtain⟨a,d,rfl⟩:∃ a d,s=a++[d]:=⟨s.dropLast,s.getLast U,(List.dropLast_concat_getLast U).symm⟩
  rw[QK _ _ _ (Int.le_refl _)]at a1 ⊢;split at a1
  ·omega
  ·rename_i a8;split at a1
   ·omega
   ·rename_i ar;rw[if_neg a8,if_neg ar];simp only[Bool.or_eq_true,decide_eq_true_eq,not_or]at ar;have Mx:UInt8.ofNat (48+(d.toNat - 48))=d:=by
     apply UInt8.toNat_inj.1;rw[UInt8.toNat_ofNat'];omega
    by_cases aw:a=[]
    ·subst aw;have e:(10*gg [] 0+((d.toNat:Int) - 48)).toNat=d.toNat - 48:=by show (10*0+((d.toNat:Int) - 48)).toNat=_;omega
     rw[e,Go.Lib.decDigits_one (by omega),Mx];rfl
    ·have aj:0<a.length:=List.length_pos_iff.2 aw;have cW:(a.getD 0 0).toNat≠48:=by
      grind
     have an:1<=gg a 0:=by
      cases a with
      | nil=>grind
      | cons c r=>
       unfold gg at a8 ⊢;split at a8
       ·omega
       ·rename_i hc;rw[if_neg hc];simp only[Bool.or_eq_true,decide_eq_true_eq,not_or]at hc;have ayE:c.toNat≠48:=cW;have:=aaU r _ (by omega) a8;omega
     have G:=aJ a (by grind) aw (λ_=>cW) a8;have ax:(10*gg a 0+((d.toNat:Int) - 48)).toNat / 10=(gg a 0).toNat:=by omega
     have aM:(10*gg a 0+((d.toNat:Int) - 48)).toNat % 10=d.toNat - 48:=by omega
     conv=>lhs;unfold Go.Lib.decDigits
     grind
theorem asO{s:aQ}{v:Int}(h:Go.Lib.atoiAll s=.ok v):(decide (s.length<=6)&&decide (0<=v)&&decide (Go.Lib.itoa v=s))=decide (0<=e0 s):=by
 rw[Bool.eq_iff_iff];simp only[Bool.and_eq_true,decide_eq_true_eq];constructor
 ·rintro⟨⟨dp,ae⟩,G⟩;obtain⟨u,rfl⟩:∃ u:Nat,v=u:=⟨v.toNat,by omega⟩
  have e:Go.Lib.itoa (u:Int)=Go.Lib.decDigits u:=by rfl
  rw[e]at G;obtain⟨aO,aR⟩:=aaW u;rw[G]at aO aR;unfold e0;rw[if_neg]
  ·have:=aaV u;grind
  grind
 ·intro aw;have e:=QC aw;rw[h]at e;obtain rfl:v=e0 s:=by grind
  refine⟨⟨?_,aw⟩,?_⟩
  ·unfold e0 at aw;grind
  ·have e:Go.Lib.itoa (e0 s)=Go.Lib.decDigits (e0 s).toNat:=by unfold Go.Lib.itoa;grind
   rw[e];unfold e0 at aw ⊢;split at aw
   ·omega
   ·rename_i W;rw[if_neg W];simp only[Bool.or_eq_true,Bool.and_eq_true,decide_eq_true_eq,not_or,not_and]at W;exact asN _ s rfl (λe=>W.1.1 (by grind)) W.2 (by omega)
theorem aaX{s:aQ}(h:∀ v,Go.Lib.atoiAll s≠.ok v):decide (0<=e0 s)=false:=decide_eq_false λaw=>h _ (QC aw)
end Go.Fer.au
namespace Go.Fer.om
open Go Go.Proofs Go.RowKit
abbrev asP:Code:=Tryz.f140.body.getD .skip
theorem asQ:h3 Tryz.prog 140 .str (.az (.int .i64) .bool) au.E3.sh where
 enter:=ua Tryz.func140 (show Tryz.f140.body=some asP by kernel_rfl) (by kernel_rfl)
 iV:=λF w args x bn gn a8 aD=>by
  change List UInt8 at x;have aD:x.length<=10000:=aD;obtain⟨rfl,aj⟩:=QJ a8;have W:=QI x;have bk:=JN x;have fin:∀ (n:Int) (b:Bool) (w':World),fS .i64 n->au.q8 x=(n,b)->Below w.heap.size w w'->∃ v y,Ending.returned (.tuple #[.int .i64 n,.bool b])=.returned v/\(au.E3.sh x).bL y/\tj Tryz.prog (.az (.int .i64) .bool) (uT F w w') w' v y/\Below w.heap.size w w':=λn b w' M he yO=>
   ⟨_,(n,b),rfl,he.symm,⟨[.int .i64 n,.bool b],rfl,BX.2 ⟨gS.2 ⟨rfl,M⟩,(rT rfl).2 ⟨_,rfl,fg.2 rfl⟩⟩⟩,yO⟩
  cases he:Lib.atoiAll x with
  | ok v=>
   have ae:=Lib.atoiAll_bounds he;refine (Tryz.asI ⟨x.toArray⟩ w v (by rw[bk];omega) (by rw[W];exact he) ae.1 ae.2 (aaT gn)).mono ?_;rintro e w' ⟨rfl,yO⟩;refine fin v _ w' ae ?_ yO;rw[W,bk,au.asO he];unfold au.q8 au.s7;rw[he]
  | range=>
   obtain⟨_,ib,ae,pJ⟩:=JO gn (b:=2) (by decide);refine (Tryz.asM ⟨x.toArray⟩ w (by rw[bk];omega) (by rw[W];exact he) ib ae pJ).mono ?_;rintro e w' ⟨rfl,yO⟩;rw[W]at *
   refine fin _ _ w' (Lib.atoiSat_bounds x) ?_ yO;unfold au.q8 au.s7;rw[he,au.aaX λv h=>by rw[he]at h;cases h]
  | _=>
   obtain⟨_,ib,ae,pJ⟩:=JO gn (b:=1) (by decide);refine (Tryz.asL ⟨x.toArray⟩ w (by rw[bk];omega) (by rw[W];exact he) ib ae pJ).mono ?_;rintro e w' ⟨rfl,yO⟩;refine fin 0 _ w' (by decide) ?_ yO;unfold au.q8 au.s7;rw[he,au.aaX λv h=>by rw[he]at h;cases h]
end Go.Fer.om
namespace Go.Fer
open Go.RowKit
abbrev mE:ad:=.int .i64
def QL(x:z1'×Unit):A (z1'×Unit):=A.dR (x.1.length<4611686018427387904) (x.1.mergeSort (λa b=>decide (a<=b)),())
def pT:cK:=⟨⟨[(0,.own 200001)],[(200001,.bg mE)]⟩,⟨[],[(200001,.bg mE)]⟩,[],1,QL⟩
section
variable {P:Program} {F:Nat->Prop} {w:World}
theorem aaY{cs:Array Value}{off:Nat}{xs:z1'}(h:lH P mE F w cs off xs){i:Nat}(G:i<xs.length):cs[off+i]?=some (.int .i64 xs[i])/\fS .i64 xs[i]:=by
 obtain⟨bh,E,U,ah⟩:=h i G;subst U;have:=E 0 (by simp);refine⟨?_,ah⟩;have e:off+i*ad.size mE+0=off+i:=by show off+i*1+0=off+i;omega
 rw[e]at this;exact this
theorem asR{cs:Array Value}{off:Nat}{xs:z1'}(h:∀ i (h:i<xs.length),cs[off+i]?=some (.int .i64 xs[i])/\fS .i64 xs[i]):lH P mE F w cs off xs:=λi G=>by
 obtain⟨E,U⟩:=h i G;refine⟨[.int .i64 xs[i]],λj aE=>?_,rfl,U⟩;have aE:j=0:=by simpa using aE
 subst aE;have e:off+i*ad.size mE+0=off+i:=by show off+i*1+0=off+i;omega
 rw[e];exact E
theorem asS{cs:Array Value}{T:TypeId}{b off:Nat}{xs:z1'}(W:w.heap[b]?=some (.cells cs T (0,0)))(h:lH P mE F w cs off xs):Go.Sort.Holds (Value.int .i64) w b off xs.toArray:=λj aE=>by
 have fT:j<xs.length:=by simpa using aE
 obtain⟨E,_⟩:=aaY h fT;refine⟨?_,by simp[World.frozen?,W]⟩;simp only[World.cell?,W];simp only[Option.isSome_none,Bool.false_eq_true,if_false];rw[E];simp[fT]
theorem asT{cs:Array Value}{off:Nat}{xs ys:z1'}(aj:ys.length=xs.length)(jm:∀ y∈ys,fS .i64 y)(cf:off+xs.length<=cs.size):lH P mE F w (Go.Sort.putCells (Value.int .i64) off ys.toArray cs) off ys:=by
 refine asR λi G=>⟨?_,jm _ (List.getElem_mem G)⟩
 have E:off+i<cs.size:=by omega
 simp[Go.Sort.putCells,E,G]
end
section
variable {P:Program} {aP:dG}
theorem asU{k:FuncId}(he:∀ args w,(callFunc k args).run P w=.ok (.enter k args) w)
  (E:∀ (aa off cap:Nat) (zs:z1') (w:World),Go.Sort.Holds (Value.int .i64) w aa off zs.toArray->aa<w.heap.size->zs.length<4611686018427387904->Calls P k #[.slice (some ⟨aa,off,none⟩) zs.length cap] w λe w'=>
   e=.returned (.tuple #[])/\∃ n os,w'=Go.Sort.grow (Go.Sort.putRow (Value.int .i64) (Go.Sort.ahead w n) aa off (zs.mergeSort λx y=>decide (x<=y)).toArray) os)
  (aX:∀ (p:Option Addr) (cap:Nat) (w:World),Calls P k #[.slice p 0 cap] w λe w'=>e=.returned (.tuple #[])/\w'=w):cS P aP k pT where
 enter:=he
 iV C a w κ F D jr Ag M ar rj tx h aD:=by
  obtain⟨xs,u⟩:=D;have hlen:xs.length<4611686018427387904:=aD;have cf:a.tmps.size=1:=h.dH.trans rj;have qf:=h.bT 0;have W:=h.bF 200001;change jD C.P _ κ F w (κ 200001) (.bg mE xs) at W;have ae:a.tmps.getD 0 undef=(κ 200001).slice xs.length:=qf.2 rfl rfl;have a8:a.tmps=#[(κ 200001).slice xs.length]:=by
   apply Array.ext (by simp[cf]);intro i G dO;have:i=0:=by omega
   subst this;rw[<-ae];simp[Array.getD,cf]
  have pv:∀ bm,bm=((xs.mergeSort (λx y=>decide (x<=y)),()):z1'×Unit)->(pT.sh (xs,u)).bL bm:=λbm e=>e;have nY:∀ {w':World} {F':Nat->Prop} {ys:z1'},bl C (aA.mk (pT.cp.st (xs,u)).ay λi=>if i=200001 then ⟨0,.bg mE ys⟩ else (pT.cp.st (xs,u)).aa i) a w' κ F'->bl { C with nt:=0 } (pT.bL.st (ys,())) { tmps:=#[],defers:=[] } w' κ F':=λ{w' F' ys} jQ=>by
   have e:(pT.bL.st (ys,())).aa=λi=>if i=200001 then (⟨0,.bg mE ys⟩:bJ) else (pT.cp.st (xs,u)).aa i:=by
    funext i;show eR [(200001,bQ.bg mE ys)] i=if i=200001 then _ else eR [(200001,bQ.bg mE xs)] i
    simp only[eR];by_cases G:i=200001
    ·rw[if_pos G,if_pos G]
    ·rw[if_neg G,if_neg G,if_neg G]
   refine { dH:=rfl,dfr:=ar.symm,bT:=λi=>trivial,bF:=λb=>?_,own:=λb=>?_,inj:=λb bd=>?_,dc:=jQ.dc,hh:=jQ.hh,hQ:=jQ.hQ,hs:=jQ.hs,eH:=jQ.eH,size:=jQ.size,eu:=jQ.eu,gl:=Nat.zero_le _,km:=jQ.km,jE:=λb r=>?_,j2:=jQ.j2,kn:=λb k=>?_,eM:=λl aK L n st e=>(by cases e),jF:=jQ.jF,iB:=jQ.iB }
   ·rw[e];exact jQ.bF b
   ·rw[e];exact jQ.own b
   ·rw[e];exact jQ.inj b bd
   ·rw[e];exact jQ.jE b r
   ·rw[e];exact jQ.kn b k
  subst jr;rw[a8];by_cases aw:(κ 200001).e9=true
  ·have ag:xs=[]:=W.1 aw;subst ag;have ih:(κ 200001).slice 0=.slice none 0 0:=by simp[bD.slice,aw]
   rw[show ([]:z1').length=0 from rfl,ih];refine (aX none 0 w).mono ?_;rintro e w' ⟨rfl,rfl⟩;refine⟨_,([],()),[],κ,F,rfl,pv _ (congrArg (λl=>(l,())) List.mergeSort_nil.symm),⟨[],rfl,rfl,rfl⟩,nY ?_⟩;have e:(λi=>if i=200001 then (⟨0,.bg mE []⟩:bJ) else (pT.cp.st ([],u)).aa i)=(pT.cp.st ([],u)).aa:=by
    funext i;by_cases G:i=200001
    ·subst G;rfl
    ·rw[if_neg G]
   rw[e];exact h
  ·have aw:(κ 200001).e9=false:=by simpa using aw
   obtain⟨cs,T,dL,eA,mG,rR,Fp⟩:=W.2 aw;have gm:((pT.cp.st (xs,u)).aa 200001).body.b1 (κ 200001)=true:=by show (!(κ 200001).e9)=true;rw[aw];rfl
   have af:=h.own 200001 gm;have ih:(κ 200001).slice xs.length=.slice (some ⟨(κ 200001).aa,(κ 200001).off,none⟩) xs.length (κ 200001).cap:=by simp[bD.slice,aw]
   rw[ih];refine (E (κ 200001).aa (κ 200001).off (κ 200001).cap xs w (asS dL Fp) af.1 hlen).mono ?_;rintro e w' ⟨rfl,n,os,rfl⟩;have an:(xs.mergeSort λx y=>decide (x<=y)).Perm xs:=List.mergeSort_perm _ _;generalize j7:(xs.mergeSort λx y=>decide (x<=y))=ys at an pv;have aaZ:ys.length=xs.length:=an.length_eq;have FN:(κ 200001).off+xs.length<=cs.size:=by
    have:(κ 200001).cap*ad.size mE=(κ 200001).cap:=Nat.mul_one _;omega
   have jm:∀ y∈ys,fS .i64 y:=λy aS=>by
    have:=an.mem_iff.1 aS;obtain⟨i,G,rfl⟩:=List.getElem_of_mem this;exact (aaY Fp G).2
   have asV:(Go.Sort.putRow (Value.int .i64) (Go.Sort.ahead w n) (κ 200001).aa (κ 200001).off ys.toArray).heap[(κ 200001).aa]?=some (.cells (Go.Sort.putCells (Value.int .i64) (κ 200001).off ys.toArray cs) T (0,0)):=by
    simp[Go.Sort.putRow,Go.Sort.mapBlock,Go.Sort.ahead,Array.getElem?_modify,dL,Go.Sort.onCells]
   have wM:bl C ((pT.cp.st (xs,u)).cx 200001 ⟨0,.bg mE ys⟩) a (Go.Sort.putRow (Value.int .i64) (Go.Sort.ahead w n) (κ 200001).aa (κ 200001).off ys.toArray) κ F:=by
    refine h.o9 (b:=200001) (x:=⟨0,.bg mE ys⟩) gm ?_ ?_ nofun nofun (λr M=>?_) (by simp[Go.Sort.putRow,Go.Sort.mapBlock,Go.Sort.ahead]) ⟨rfl,rfl,rfl⟩ (λH mO iM lj=>⟨λhc=>absurd (aw.symm.trans hc) nofun,λ_=>?_⟩)
    ·show (!(κ 200001).e9)=true;rw[aw];rfl
    ·intro b;by_cases W:b=200001
     ·subst W;exact⟨Nat.le_refl _,λ_=>⟨nofun,λ_=>⟨rfl,rfl,aaZ,rfl⟩,nofun,nofun⟩⟩
     ·show pZ _ (if b=200001 then _ else _) _ _;rw[if_neg W];exact pZ.refl _ _
    ·simp[Go.Sort.putRow,Go.Sort.mapBlock,Go.Sort.ahead,Array.getElem?_modify,Ne.symm M]
    ·refine⟨_,T,asV,?_,?_,rR,asT aaZ jm FN⟩
     ·simpa [Go.Sort.putCells]using eA
     ·show ys.length<=_;omega
   refine⟨_,(ys,()),[],κ,_,rfl,pv _ rfl,⟨[],rfl,rfl,rfl⟩,nY (wM.grow ?_)⟩;refine⟨rfl,rfl,rfl,by simp[Go.Sort.grow],λk al=>?_⟩;simp only[Go.Sort.grow];rw[Array.getElem?_append_left al]
end
end Go.Fer
namespace Go.Fer
open Go.RowKit
def asW(e:ad)(x:Int×Unit):A (List e.ai×Unit):=A.dR (0<=x.1/\x.1<60000) ([],())
def uQ(e:ad):cK:=⟨⟨[(0,.cv),(1,.val (.int .i64))],[]⟩,⟨[(0,.own 50000)],[(50000,.bg e)]⟩,[none],2,asW e⟩
section
variable {P:Program} {aP:dG} {e:ad}
theorem aa0{C:b9}{a:Act}{w w':World}{κ:Nat->bD}{F:Nat->Prop}{D:(uQ e).cp.ai}(h:bl C ((uQ e).cp.st D) a w κ F)(ar:C.dfr=[]){kb:bD}{v:Value}
  (ae:v=kb.slice 0) (cf:w.heap.size<=w'.heap.size) (hw:∀ r,r<w.heap.size->w'.heap[r]?=w.heap[r]?) (hc:dd w w') (lg:kb.e9=false->kb.aa=w.heap.size/\w.heap.size<w'.heap.size)
  (aT:kb.e9=false->∃ cs T,w'.heap[kb.aa]?=some (.cells cs T (0,0))/\kb.off+kb.cap*e.size<=cs.size/\kb.cap<2 ^ 63) :
  bl { C with nt:=1 } ((uQ e).bL.st ([],())) { tmps:=#[v],defers:=[] } w' (λi=>if i=50000 then kb else κ i) F:=by
 have W:∀ b,((uQ e).bL.st ([],())).aa b=if b=50000 then ⟨0,.bg e []⟩ else ⟨0,.fz⟩:=λb=>rfl
 have a8:∀ b,b≠50000->((uQ e).bL.st ([],())).aa b=⟨0,.fz⟩:=λb aw=>by rw[W,if_neg aw]
 have bK:((uQ e).bL.st ([],())).aa 50000=⟨0,.bg e []⟩:=rfl;have gm:∀ b,(((uQ e).bL.st ([],())).aa b).body.b1 (if b=50000 then kb else κ b)=true->b=50000/\kb.e9=false:=λb af=>by
  by_cases e:b=50000
  ·subst e;rw[bK,if_pos rfl]at af;exact⟨rfl,by simpa [bQ.b1]using af⟩
  ·rw[a8 b e]at af;cases af
 refine { dH:=rfl,dfr:=ar.symm,bT:=λi=>?_,bF:=λb=>?_,own:=λb af=>?_,inj:=λb bd E U _=>?_,dc:=λr M=>Nat.lt_of_lt_of_le (h.dc r M) cf,hh:=h.hh,hQ:=h.hQ,hs:=h.hs,eH:=λr M=>?_,size:=Nat.le_trans h.size cf,eu:=h.eu.trans hc,gl:=(by unfold eS;exact (by decide:1<=100000)),km:=h.km,jE:=λb r M i'=>?_,j2:=h.j2,kn:=λb k al _ G=>?_,eM:=λl aK L n st e=>(by cases e),jF:=h.jF,iB:=h.iB.mono (λ_ h=>h) ⟨cf,λr M=>hw r (h.dc r M)⟩ }
 ·by_cases G:i=0
  ·subst G;refine⟨⟨Nat.le_refl _,?_⟩,λ_ _=>?_⟩
   ·show v.oneCell'=true;rw[ae];unfold bD.slice;split<;>rfl
   ·show v=_;rw[ae];show kb.slice 0=(if (50000:Nat)=50000 then kb else κ 50000).slice 0;rw[if_pos rfl]
  ·have:((uQ e).bL.st ([],())).ay i=.undef:=by
    show fr [(0,aG.own 50000 0)] i=.undef;simp[fr,G]
   rw[this];trivial
 ·unfold cE;by_cases ax:b=50000
  ·subst ax;rw[bK];show jD _ _ _ _ _ (if (50000:Nat)=50000 then kb else κ 50000) (.bg e []);rw[if_pos rfl];refine⟨λ_=>rfl,λaw=>?_⟩;obtain⟨cs,T,E,U,ah⟩:=aT aw;exact⟨cs,T,E,U,Nat.zero_le _,ah,λi G=>absurd G (Nat.not_lt_zero _)⟩
  ·rw[a8 b ax];trivial
 ·obtain⟨rfl,aw⟩:=gm b af;obtain⟨E,U⟩:=lg aw;rw[if_pos rfl,E];refine⟨U,λao=>?_,λal=>?_⟩
  ·have:=h.dc _ ao;omega
  ·have:=h.hs _ al;have:=h.size;omega
 ·rw[(gm b E).1,(gm bd U).1]
 ·have E:=h.hs r M;rw[hw r (Nat.lt_of_lt_of_le E h.size)];exact h.eH r M
 ·by_cases ax:b=50000
  ·subst ax;rw[bK]at i';rcases i' with h | h<;>cases h
  ·rw[a8 b ax]at i';rcases i' with h | h<;>cases h
 ·by_cases ax:b=50000
  ·subst ax;have:=h.j2 _ _ al;unfold wX at this;omega
  ·rw[a8 b ax]at G;cases G
theorem aa1{k:FuncId}(he:∀ args w,(callFunc k args).run P w=.ok (.enter k args) w)
  (aX:∀ w:World,Calls P k #[.slice none 0 0,.int .i64 0] w λe w'=>e=.returned (.slice none 0 0)/\w'=w)
  (E:∀ (n:Nat) (w:World),0<n->n<60000->Calls P k #[.slice none 0 0,.int .i64 (n:Int)] w λy w'=>∃ (cg:Nat) (T:TypeId) (cs:Array Value),y=.returned (.slice (some ⟨w.heap.size,0,none⟩) 0 cg)/\
   w'=w.drew.alloc (.cells cs T)/\cg<2 ^ 63/\cg*e.size<=cs.size):cS P aP k (uQ e) where
 enter:=he
 iV C a w κ F D jr Ag M ar rj tx h aD:=by
  obtain⟨n,u⟩:=D;change Int at n;obtain⟨r',p_⟩:0<=n/\n<60000:=aD;have cf:a.tmps.size=2:=h.dH.trans rj;have asX:a.tmps.getD 0 undef=.slice none 0 0:=h.bT 0;have p1:a.tmps.getD 1 undef=.int .i64 n:=(gS.1 (h.bT 1)).1;have a8:a.tmps=#[.slice none 0 0,.int .i64 n]:=by
   apply Array.ext (by simp[cf]);intro i G dO;have:i=0\/i=1:=by omega
   rcases this with rfl | rfl
   ·rw[<-asX];simp[Array.getD,cf]
   ·rw[<-p1];simp[Array.getD,cf]
  subst jr;rw[a8];by_cases bk:n=0
  ·subst bk;refine (aX w).mono ?_;rintro y w' ⟨rfl,rfl⟩;refine⟨_,([],()),[.slice none 0 0],_,F,rfl,rfl,⟨[.slice none 0 0],rfl,rfl,[],rfl,rfl⟩,aa0 h ar (kb:=⟨0,0,0,true⟩) rfl (Nat.le_refl _) (λ_ _=>rfl) (dd.refl _) nofun nofun⟩
  ·obtain⟨m,rfl⟩:∃ m:Nat,n=m:=⟨n.toNat,by omega⟩
   refine (E m w (by omega) (by omega)).mono ?_;rintro y w' ⟨cg,T,cs,rfl,rfl,gn,pa⟩;refine⟨_,([],()),[.slice (some ⟨w.heap.size,0,none⟩) 0 cg],_,F,rfl,rfl,⟨[_],rfl,rfl,[],rfl,rfl⟩,aa0 h ar (kb:=⟨w.heap.size,0,cg,false⟩) rfl (by simp) (λr M=>?_) ⟨rfl,rfl,rfl⟩ (λ_=>⟨rfl,by simp⟩) (λ_=>⟨cs,T,?_,by simpa using pa,gn⟩)⟩
   ·exact o8 w.drew _ M
   ·show (w.drew.heap.push _)[w.heap.size]?=_;exact Array.getElem?_push_size
theorem aa2{aI:Go.Shelf.Ren}(L:Go.Proofs.Lays8.n4 P aI)(w:World):Calls P (aI.f 4) #[.slice none 0 0,.int .i64 0] w λe w'=>e=.returned (.slice none 0 0)/\w'=w:=
 Go.Proofs.Any8.slices_Grow_room L none 0 0 0 w (Nat.le_refl _) (by decide) (by decide) (Nat.le_refl _)
theorem aa3{aI:Go.Shelf.Ren}(L:Go.Proofs.Lays8.n4 P aI)(aH:b6 P e (aI.t 25))(aD:e.size≠0)(n:Nat)(w:World)(aX:0<n)(E:n<60000) :
  Calls P (aI.f 4) #[.slice none 0 0,.int .i64 (n:Int)] w λy w'=>∃ (cg:Nat) (T:TypeId) (cs:Array Value),y=.returned (.slice (some ⟨w.heap.size,0,none⟩) 0 cg)/\w'=w.drew.alloc (.cells cs T)/\cg<2 ^ 63/\cg*e.size<=cs.size:=by
 obtain⟨i0,z,oA,cf,W,K_,asY,_⟩:=kq aH.kp;have na:0<i0.size:=by omega
 have tI:=(Cl (P:=P) e asY).2;refine (Go.Proofs.Any8.slices_Grow_grow L i0 z oA K_ na none 0 0 n [] w (Nat.le_refl _) (by omega) ?_ (by omega) (by simp) (λ_=>rfl) nofun).mono ?_
 ·have:(0+n)*i0.bytes<=(0+n)*1024:=Nat.mul_le_mul_left _ W;omega
 ·rintro y w' ⟨rfl,rfl⟩;refine⟨_,_,_,rfl,rfl,?_,?_⟩
  ·have:=grownCap_le_maxLen w (0+n) 0 (aI.t 25) (by unfold maxLen;omega);unfold maxLen at this;omega
  ·have:=grownCap_ge w (0+n) 0 (aI.t 25);generalize grownCap w (0+n) 0 (aI.t 25)=cg at this;simp only[Array.size_append,size_zeroCells,tI];have ax:(0+n - 0)*e.size+(cg - (0+n))*e.size=cg*e.size:=by rw[<-Nat.add_mul];congr 1;omega
   have aM:(#[]:Array Value).size=0:=rfl;omega
end
end Go.Fer
namespace Go.Fer.om
open Go.Proofs
def E8(aP:dG)(c:cK)(sh:Nat->c.cp.ai->A c.bL.ai):List Nat->Prop
 | []=>True
 | k::l=>cS Tryz.prog aP k { c with sh:=sh k }/\E8 aP c sh l
theorem E8.mem{aP:dG}{c:cK}{sh:Nat->c.cp.ai->A c.bL.ai}:∀ {l:List Nat},E8 aP c sh l->∀ k∈l,cS Tryz.prog aP k { c with sh:=sh k }
 | [],_,k,h=>by cases h
 | j::l,h,k,al=>by
  rcases List.mem_cons.1 al with rfl | al
  ·exact h.1
  ·exact E8.mem h.2 k al
theorem yP{k:Nat}{e:ad}{f:List e.ai×Unit->A (List e.ai×Unit)}{sh:(ad.slice e).ai->A (ad.slice e).ai}(h:cS Tryz.prog dE k ⟨⟨[(0,.val (.slice e))],[]⟩,⟨[(0,.own 60)],[(60,.bg e)]⟩,[none],1,f⟩)
  (an:∀ x:List e.ai,(sh x).ck->(f (x,())).ck/\∀ bm,(f (x,())).bL bm->bm.1=(sh x).val (ad.slice e).dh):nK (hH.kA ⟨.slice e,.slice e,sh,true⟩).aV=true/\Cz Tryz.prog k (hH.kA ⟨.slice e,.slice e,sh,true⟩):=
 ajx (by simp) h mu (b0:=60) (λx=>(x,())) (λx=>rfl) rfl (by show 1<=eS;decide) rfl (λbm=>bm.1) (λbm=>⟨rfl,rfl⟩) an
abbrev asZ:Code:=Tryz.f161.body.getD .skip
theorem as0(aP:dG):cS Tryz.prog aP 161 pT:=
 asU (ua Tryz.func161 (show Tryz.f161.body=some asZ by kernel_rfl) (by kernel_rfl)) (λaa off cap zs w E U ah=>calls_of_every_depth λb7=>AnyS.slices_Sort_int_in Tryz.aaO b7 aa off cap zs w E U ah)
  λp cap w=>Any.slices_Sort_int_none Tryz.aaO p cap w
theorem as1:QL=H.x9:=by
 funext x;unfold QL H.x9;rw[show x.1.mergeSort (λa b=>decide (a<=b))=H.fu H.hr x.1 from (H.AA ((List.pairwise_mergeSort (le:=λa b:Int=>decide (a<=b)) (λa b c E U=>by simp at E U ⊢;omega) (λa b=>by simp;omega) x.1).imp λh=>by simpa using h) (List.mergeSort_perm _ _).symm).symm]
def QM:cK:=⟨⟨[(0,.own 200001)],[(200001,.bg t3)]⟩,⟨[],[(200001,.bg t3)]⟩,[],1,H.x9⟩
theorem aa4:cS Tryz.prog dE 161 QM:=by
 have:=as0 dE;unfold pT at this;rw[as1]at this;exact this
abbrev as2:Code:=Tryz.f257.body.getD .skip
abbrev as3:Code:=Tryz.f256.body.getD .skip
def aa5:cK:=⟨⟨[(0,.cv),(1,.val t3)],[]⟩,⟨[(0,.own 50000)],[(50000,.bg t3)]⟩,[none],2,H.Jg⟩
def aa6:cK:=⟨⟨[(0,.cv),(1,.val t3)],[]⟩,⟨[(0,.own 50000)],[(50000,.bg H.hp)]⟩,[none],2,H.Jh⟩
theorem as4:cS Tryz.prog dE 257 aa5:=
 aa1 (e:=t3) (ua Tryz.func257 (show Tryz.f257.body=some as2 by kernel_rfl) (by kernel_rfl)) (aa2 Tryz.aaP) (aa3 Tryz.aaP (n6.cb (id:=3) rfl (by decide)) (by decide))
theorem as5:cS Tryz.prog dE 256 aa6:=
 aa1 (e:=H.hp) (ua Tryz.func256 (show Tryz.f256.body=some as3 by kernel_rfl) (by kernel_rfl)) (aa2 Tryz.aaQ) (aa3 Tryz.aaQ (n6.cb (id:=125) rfl (by decide)) (by decide))
def g1:=ajv.cons (n:=139) (c:=au.JA.dx) ⟨asz,λ_ _=>A.vx⟩
def ee:=g1.cons (n:=204) (c:=au.Jr.dx) ⟨asD,λ_ _=>A.vx⟩
def g3:=ee.cons (n:=258) (c:=au.E1.dx) ⟨asF,λ_ _=>A.vx⟩
def as6:=g3.cons (n:=140) (c:=au.E3.dx) ⟨asQ,λ_ _=>A.vx⟩
end Go.Fer.om
namespace Go.Fer.au
open A (V)
open H (e7)
def j0(n:Int):aQ:=if n<0 then Qb else Go.Lib.decDigits n.toNat
theorem QN(u:Nat):Go.Lib.decDigits u=(if u<10 then [] else Go.Lib.decDigits (u / 10))++[UInt8.ofNat (48+u % 10)]:=by
 split
 ·rw[Go.Lib.decDigits_one (by omega),Nat.mod_eq_of_lt (by omega)];rfl
 ·conv=>lhs;unfold Go.Lib.decDigits
  rw[dif_neg (by omega)]
theorem aa7(k:Nat):UInt8.ofNat (Int.toNat (IntKind.wrap .u8 (IntKind.wrap .i64 (Add.add 48 (Int.tmod (k:Int) 10)))))=UInt8.ofNat (48+k % 10):=by
 have e:Int.tmod (k:Int) 10=((k % 10:Nat):Int):=rfl;rw[e,ch,bC (by omega) (by omega),aaE (by omega) (by omega)];congr 1
theorem aa8:∀ (k u:Nat),u<10 ^ (k+1)->Go.Lib.nDigits u<=k+1
 | 0,u,h=>by rw[Go.Lib.nDigits_small (by omega)];omega
 | k+1,u,h=>by
  unfold Go.Lib.nDigits;split
  ·omega
  ·have:=aa8 k (u / 10) (by rw[Nat.pow_succ]at h;omega);omega
abbrev JQ:aL:=⟨.int .i64,.str,λn=>n<2 ^ 63,j0⟩
theorem as7(x):A.le (Y7 x) (JQ.sh x):=A.bu λh=>by
 change x<2 ^ 63 at h;unfold Y7;show _=A.pure (j0 x);unfold j0;by_cases ag:x<0
 ·rw[if_pos (decide_eq_true ag),if_pos ag]
 ·rw[if_neg (by simpa using ag),if_neg ag,A.bo (by decide)];obtain⟨u,rfl⟩:∃ u:Nat,x=u:=⟨x.toNat,by omega⟩
  have Bz:=Go.Lib.nDigits_le20 u (by omega);rw[<-Go.Lib.decDigits_length]at Bz;have e:=QN u;rw[A.acX (res:=V.next (Go.Lib.decDigits u,())) (λs=>∃ k:Nat,s.1=(k:Int)/\k<=u/\Go.Lib.decDigits u=(if k<10 then [] else Go.Lib.decDigits (k / 10))++s.2.1) (λs=>s.1.toNat) ?_ _ ⟨u,rfl,Nat.le_refl _,by rw[aa7];exact e⟩,A.aF]
  ·rfl
  ·rintro⟨n,t,⟨⟩⟩ ⟨k,E,U,ah⟩;change n=(k:Int) at E;subst E;change _=_++t at ah;have as8:=congrArg List.length ah;rw[List.length_append]at as8;have Ei:Int.tdiv (k:Int) 10=((k / 10:Nat):Int):=rfl;by_cases al:k<10
   ·right;rw[if_pos al,List.nil_append]at ah;simp only[Ei];rw[if_neg (by simp;omega),A.aF,ah]
   ·left;rw[if_neg al,QN (k / 10),List.append_assoc]at ah;refine⟨(((k / 10:Nat):Int),[UInt8.ofNat (48+k / 10 % 10)]++t,()),?_,⟨k / 10,rfl,by omega,ah⟩,by show (((k / 10:Nat):Int)).toNat<((k:Int)).toNat;omega⟩;simp only[Ei];rw[if_pos (by simp;omega),A.bo (by decide),A.bo (by decide),A.bo (e7 (by simp only[gW];omega)),bC (by omega) (by omega),aa7]
theorem QO{n:Int}(h:n<=999999):(j0 n).length<=6:=by
 unfold j0;split
 ·decide
 ·rw[Go.Lib.decDigits_length];exact aa8 5 _ (by omega)
def o4(w:aQ)(l:z1'):aQ:=l.foldl (λs n=>s++([32]++j0 n)) w
abbrev BA:aL:=⟨.az .str fP,.str,λx=>x.1.length<=1000/\x.2.length<=1000/\∀ n∈x.2,n<=999999,λx=>o4 x.1 x.2⟩
theorem as9(x):A.le (Ze JQ.sh x) (BA.sh x):=A.bu λh=>by
 obtain⟨w,l⟩:=x;obtain⟨E,U,ah⟩:w.length<=1000/\l.length<=1000/\∀ n∈l,n<=999999:=h;unfold Ze;show _=A.pure (o4 w l);rw[A.fC l (λi (s:aQ)=>(s,l,(i:Int),())) (λn s=>.next (s++([32]++j0 n))) (λs=>.next (s,())) (λi s=>s.length<=1000+7*i) w ?_ (by omega) ?_ ?_]
 ·rw[dP,A.aF];rfl
 ·rfl
 ·intro i G s aD;have hw:=bC (n:=(i:Int)+1) (by omega) (by omega);have aw:=ah _ (List.getElem_mem G);have aH:=QO aw;refine⟨?_,λbd cR=>?_⟩
  ·simp only[bV,cT G,if_true,df G,cG G,A.br,ch,hw];rw[show JQ.sh l[i]=A.pure (j0 l[i]) from A.bR (show l[i]<2 ^ 63 by omega) _,A.aF,A.bo (e7 (by simp only[gW];omega)),A.bo (e7 (by simp only[gW];omega))];rfl
  ·simp only[V.next.injEq]at cR;subst cR;simp only[List.length_append,List.length_cons,List.length_nil];omega
 ·simp
theorem JR{w:aQ}{l:z1'}(E:w.length<=1000)(U:l.length<=1000)(ah:∀ n∈l,n<=999999):BA.sh (w,l)=A.pure (o4 w l):=A.bR ⟨E,U,ah⟩ _
theorem E9{n:Nat}:∀ {l:z1'} {w:aQ},(∀ n∈l,n<=999999)->w.length<=n->(o4 w l).length<=n+7*l.length
 | [],w,_,h=>h
 | k::l,w,h,hw=>by
  have aH:=QO (h k (by simp));have:=E9 (n:=n+7) (l:=l) (w:=w++([32]++j0 k)) (λn aw=>h n (by simp[aw])) (by simp;omega);show (o4 (w++([32]++j0 k)) l).length<=_;simp only[List.length_cons];omega
theorem aa9:∀ (a b:aQ),cH (a++32::b)=cH a++cH b
 | [],b=>by simp[cH]
 | c::a,b=>by
  have aJ:=aa9 a b;have aj:=uJ a;simp only[List.cons_append,cH];split
  ·rw[aJ];rfl
  ·rw[aJ];cases h:cH a with
   | nil=>exact absurd aj.1 (by rw[h];decide)
   | cons v l=>rfl
theorem aa_:∀ (w:aQ),(∀ c∈w,c≠32)->cH w=[w]
 | [],_=>rfl
 | c::w,h=>by
  have aJ:=aa_ w λd ar=>h d (by simp[ar]);simp only[cH];rw[if_neg (h c (by simp)),aJ]
theorem as_(u:Nat):∀ c∈Go.Lib.decDigits u,c≠32:=by
 induction u using Nat.strongRecOn with
 | _ u aJ=>
  intro c hc;rw[QN,List.mem_append]at hc;rcases hc with hc | hc
  ·split at hc
   ·cases hc
   ·exact aJ (u / 10) (by omega) c hc
  ·rw[List.mem_singleton]at hc;subst hc;have:=JP (u % 10) (by omega);intro e;rw[e]at this;have:((32:UInt8).toNat:Int)=32:=by decide
   omega
theorem as'(n:Int):cH (j0 n)=[j0 n]:=by
 refine aa_ _ ?_;unfold j0;split
 ·decide
 ·exact as_ _
theorem aa':∀ (l:z1') (w:aQ),cH (o4 w l)=cH w++l.map j0
 | [],w=>by simp[o4]
 | n::l,w=>by
  show cH (o4 (w++32::j0 n) l)=_;rw[aa' l,aa9,as'];simp
theorem aba{n:Int}(aX:0<=n)(E:n<=999999):e0 (j0 n)=n:=by
 have aj:=QO E;unfold j0 at aj ⊢;rw[if_neg (by omega)]at aj ⊢;obtain⟨aO,aR⟩:=aaW n.toNat;have an:=List.length_pos_iff.2 aO;unfold e0;rw[if_neg,aaV]
 ·omega
 ·simp only[Bool.or_eq_true,Bool.and_eq_true,decide_eq_true_eq,not_or,not_and];exact⟨⟨by omega,by omega⟩,aR⟩
theorem ata{l:z1'}(h:∀ n∈l,0<=n/\n<=999999):EY (l.map j0)=some l:=by
 unfold EY;have e:(l.map j0).map e0=l:=by
  rw[List.map_map];conv=>rhs;rw[<-List.map_id l]
  exact List.map_congr_left λn aw=>aba (h n aw).1 (h n aw).2
 rw[e,if_pos];rw[List.all_map,List.all_eq_true];intro n aw;have:=h n aw;have:=aba (h n aw).1 (h n aw).2;simp only[Function.comp,decide_eq_true_eq];omega
theorem atb{w:aQ}{k:Int}{m:Bool}{j:Nat}{l:z1'}(hw:cH w=[w])(ao:oi w kG 0=some (k,m,j))(al:k<=(l.length:Int)/\((l.length:Int)<=k\/m=true))(aj:∀ n∈l,0<=n/\n<=999999):EZ (o4 w l)=some (j,l):=by
 unfold EZ;rw[aa',hw];have ax:(([w]++l.map j0).getD 0 [])=w:=rfl;have aM:(([w]++l.map j0).drop 1)=l.map j0:=rfl;have cD:((([w]++l.map j0).length:Int) - 1)=(l.length:Int):=by simp
 rw[ax,aM,cD,ao,ata aj];simp only;rw[if_neg]
 ·rfl
 ·simp only[Bool.or_eq_true,Bool.and_eq_true,decide_eq_true_eq,Bool.not_eq_true',not_or,not_and,Bool.not_eq_false];refine⟨by omega,λh=>?_⟩;rcases al.2 with U | U
  ·omega
  ·exact U
theorem JS{w:aQ}{k:Int}{m:Bool}{j:Nat}{l:z1'}(hw:cH w=[w])(ao:oi w kG 0=some (k,m,j))(al:k<=(l.length:Int)/\((l.length:Int)<=k\/m=true))(aj:∀ n∈l,0<=n/\n<=999999)(d:ba):l8 d (o4 w l)=yH j d l:=by
 unfold l8;rw[atb hw ao al aj]
theorem JT{ak:Type}{l:List ak}{f:ak->aQ}{S:Nat->ba}(h:∀ (k:Nat) (al:k<l.length),l8 (S k) (f l[k])=(rM,S (k+1))):(∀ a∈(gQ (S 0) (l.map f)).1,a=rM)/\(gQ (S 0) (l.map f)).2=S l.length:=by
 have key:∀ k,k<=l.length->(∀ a∈(gQ (S 0) ((l.take k).map f)).1,a=rM)/\(gQ (S 0) ((l.take k).map f)).2=S k:=by
  intro k;induction k with
  | zero=>exact λ_=>⟨by simp[gQ],rfl⟩
  | succ k aJ=>
   intro al;obtain⟨E,U⟩:=aJ (by omega);rw[List.take_succ_eq_append_getElem (by omega),List.map_append,Jp,U];have e:=h k (by omega);simp only[List.map_cons,List.map_nil,gQ,e,List.mem_append,List.mem_singleton];exact⟨λa a8=>a8.elim (E a) id,trivial⟩
 have:=key l.length (Nat.le_refl _);rwa [List.take_length]at this
def BB:List aQ:=[[108,101,110,100,32,49,32,48,32,49,48,48,32,51,32,55],[98,97,99,107,32,50,32,48,32,49,55,49,32,51],[115,116,111,99,107,32,48,32,49]]
theorem abb:dn qH:=QD asl.1 asm ar6
theorem atc:(gQ (iv qH) BB).1.length=3/\H.AS (gQ (iv qH) BB).2.2 1=((300,300),0)/\uF (gQ (iv qH) BB).2.1=(1,0):=by decide +kernel
abbrev E_:aL:=⟨.cV,.bool,λ_=>True,λ_=>true⟩
theorem atd(x):A.le (Y6 uM.sh H.AT.sh uG.sh JF.sh x) (E_.sh x):=A.bu λ_=>by
 unfold Y6;rw[show JF.sh ()=A.pure qH from rfl,A.aF];show A.bind (uM.sh (qH,BB)) _=A.pure true;have ar:=ar2 (aay abb) (l:=BB) (by decide);obtain⟨aO,aR,bO⟩:=atc;rw[aaJ abb (by decide) (by decide),A.aF];generalize gQ (iv qH) BB=r at *
 rw[show H.AT.sh (r.2.2,1)=A.pure (H.AS r.2.2 1) from A.bR ar.gE _,A.aF,show uG.sh r.2.1=A.pure (uF r.2.1) from A.bR ar.fU _,A.aF,aR,bO];simp[aO]
theorem ate:E_.sh ()=A.pure true:=rfl
abbrev E':aL:=⟨.az wz bx,.bool,λx=>(∀ a∈x.1,a=rM)/\x.2=(x.1.length:Int)/\x.1.length<2 ^ 63,λ_=>true⟩
theorem atf(x):A.le (Y' x) (E'.sh x):=A.bu λh=>by
 obtain⟨l,n⟩:=x;obtain⟨E,U,ah⟩:(∀ a∈l,a=rM)/\n=(l.length:Int)/\l.length<2 ^ 63:=h;subst U;unfold Y';rw[A.dB l (λi (_:Unit)=>(l,(l.length:Int),(i:Int),())) (λ_ b=>.next b) (λ_=>.next (l,(l.length:Int),())) () ?_ ?_ ?_]
 ·rw[dP,A.aF,A.bX];simp
 ·rfl
 ·intro i G _;have hw:=bC (n:=(i:Int)+1) (by omega) (by omega);have:=E _ (List.getElem_mem G);simp only[bV,cT G,if_true,df G,cG G,A.br,ch,hw,this];rfl
 ·simp
abbrev Fa:aL:=⟨uI,uI,λd=>yB d.1/\H.HY d.2,λd=>d⟩
theorem atg(x):A.le (Y8 Jc.sh H.vI.sh x) (Fa.sh x):=A.bu λh=>by
 unfold Y8;rw[show Jc.sh x.1=A.pure x.1 from A.bR h.1 _,show H.vI.sh x.2=A.pure x.2 from A.bR h.2 _];simp only[A.iz,A.br,A.fs]
theorem dn.ath{d:ba}(h:dn d):H.HY d.2:=by
 have:=h.aan;exact⟨by have:=this.ec;omega,by have:=this.ef;omega,by have:=this.jl;omega,by have:=this.n4;omega⟩
theorem ati{d:ba}(h:dn d):Fa.sh d=A.pure d:=A.bR ⟨h.copy,h.ath⟩ _
theorem atj{d:ba}(E:e8 d.1)(U:H.iy d.2):E7.sh (d,[])=A.pure (uP d []):=A.bR ⟨E,U,by show 0<2 ^ 63;decide⟩ _
theorem atk{s:bp}(h:e8 s):By.sh ((s,[],[],[],[],0,0,0,0,0,0,0),s,[],[],[],[],0,0,0,0,0,0,0)=A.pure true:=A.bR ⟨rfl,h,by show 0<2 ^ 63;decide,by show 0<2 ^ 63;decide,by show 0<2 ^ 63;decide,by show 0<2 ^ 63;decide⟩ _
theorem atl{d:ba}(E:e8 d.1)(U:H.iy d.2)(ao:uP d []=false)(he:kk d=0):dn d/\d.1.1.1.length<=6/\d.1.1.2.2.2.length<=10/\d.1.2.2.2.1.length<=3/\d.1.2.2.1.length<=4/\d.1.2.2.2.2.1.length<=3:=by
 have ar:dn d:=(asj (l:=[]) (n:=40) E U (by rw[ao,he];rfl)).1;refine⟨ar,?_⟩;have aD:=ar.uL;have hc:cM d.1.1=0:=(IT aD).1;have aO:rJ d.1=false:=by
  unfold uP at ao;split at ao
  ·cases ao
  ·grind
 unfold rJ at aO;split at aO
 ·cases aO
 ·rename_i b8;split at aO
  ·cases aO
  split at aO
  ·cases aO
  rw[if_neg (by omega)]at aO;have aR:k1 d.1.1=false:=by grind
  unfold k1 at aR;split at aR
  ·cases aR
  split at aR
  ·cases aR
  rw[if_neg (by omega)]at aR;split at aR
  ·cases aR
  simp only[Bool.or_eq_false_iff,decide_eq_false_iff_not]at aO aR;omega
abbrev BC(n:Int):Prop:=0<=n/\n<=999999
def wG(s:bp)(i:Nat):aQ:=o4 [115,116,111,99,107] [(i:Int),s.2.1.getD i 0]
def wH(x:rr):aQ:=o4 [99,111,109,101,115] [x.1,x.2.1,x.2.2]
def BD(p:c1):aQ:=o4 [112,105,101,99,101] ([p.1,p.2.1,p.2.2.1,p.2.2.2.1]++p.2.2.2.2)
def Fb(x:dm):aQ:=o4 [119,105,115,104] ([x.2.1.1,x.2.1.2,x.2.2.1,x.2.2.2.1,x.2.2.2.2]++x.1)
def qI(s:bp):List aQ:=(List.range s.2.1.length).map (wG s)++s.2.2.2.2.1.map wH++s.2.2.1.map BD++s.2.2.2.1.map Fb
theorem QP{s:bp}(h:h2 s){i:Nat}(G:i<s.2.1.length):∀ n∈[(i:Int),s.2.1.getD i 0],BC n:=by
 have E:=h.IX;have U:=h.wj;have ah:=h.ob _ (List.getElem_mem G);have e:s.2.1.getD i 0=s.2.1[i]:=by rw[List.getD_eq_getElem?_getD,List.getElem?_eq_getElem G];rfl
 simp only[e,List.mem_cons,List.not_mem_nil,or_false,forall_eq_or_imp,forall_eq];omega
theorem QQ{s:bp}(h:h2 s){x:rr}(ag:x∈s.2.2.2.2.1):∀ n∈[x.1,x.2.1,x.2.2],BC n:=by
 have E:=h.IX;have U:=h.IW x ag;unfold oa iw bZ at U;simp only[Bool.and_eq_true,decide_eq_true_eq,sU]at U;simp only[List.mem_cons,List.not_mem_nil,or_false,forall_eq_or_imp,forall_eq];omega
theorem abc{p:Int->Bool}{l:z1'}(h:jA p l=true):∀ n∈l,p n=true:=λn aw=>by
 obtain⟨i,G,rfl⟩:=List.getElem_of_mem aw;have:=List.all_eq_true.1 h i (List.mem_range.2 G);rw[Bool.and_eq_true]at this;have E:=this.1;rwa [List.getD_eq_getElem?_getD,List.getElem?_eq_getElem G]at E
theorem atm{s:bp}(h:h2 s){m:Int}(hm:nl s.1 m=true):((iT s.1 m).length:Int)<=4:=by
 have hw:=h.qy.2;unfold kF at hw;simp only[Bool.and_eq_true,List.all_eq_true]at hw;have cc:m.toNat<s.1.2.1.length:=by have:=A7.1 hm;omega
 have:=hw.1.2 _ (List.getElem_mem cc);unfold pN at this;simp only[Bool.and_eq_true,Bool.not_eq_true',decide_eq_false_iff_not]at this;unfold iT;rw[List.getD_eq_getElem?_getD,List.getElem?_eq_getElem cc];have:=this.1;simp only[Option.getD_some];omega
theorem JU{s:bp}(h:h2 s){p:c1}(an:p∈s.2.2.1):(∀ n∈[p.1,p.2.1,p.2.2.1,p.2.2.2.1]++p.2.2.2.2,BC n)/\p.2.2.2.2.length<=100:=by
 have U:=h.PF p an;have ah:=I0 h an;unfold o2 iw bZ at U;simp only[Bool.and_eq_true,decide_eq_true_eq]at U;obtain⟨⟨⟨⟨aO,aR⟩,bO⟩,fI⟩,mT⟩:=U;have tS:=atm h fI;have hm:=A7.1 fI;have hw:=Ba h.qy.2;refine⟨λn aw=>?_,by omega⟩;rw[List.mem_append]at aw;rcases aw with aw | aw
 ·simp only[List.mem_cons,List.not_mem_nil,or_false]at aw;unfold BC;rcases aw with rfl | rfl | rfl | rfl<;>omega
 ·have:=abc mT n aw;unfold Bh at this;simp only[Bool.and_eq_true,decide_eq_true_eq]at this;exact⟨this.1,by omega⟩
theorem JV{s:bp}(h:h2 s){x:dm}(ag:x∈s.2.2.2.1):(∀ n∈[x.2.1.1,x.2.1.2,x.2.2.1,x.2.2.2.1,x.2.2.2.2]++x.1,BC n)/\x.1.length<=100:=by
 have U:=h.IU x ag;unfold n' iw bZ at U;simp only[Bool.and_eq_true,decide_eq_true_eq]at U;obtain⟨⟨⟨⟨⟨⟨⟨gV,aO⟩,aR⟩,bO⟩,fI⟩,mT⟩,tS⟩,DA⟩:=U;refine⟨λn aw=>?_,by omega⟩;rw[List.mem_append]at aw;rcases aw with aw | aw
 ·simp only[List.mem_cons,List.not_mem_nil,or_false]at aw;unfold BC;rcases aw with rfl | rfl | rfl | rfl | rfl<;>omega
 ·have:=abc aO n aw;simp only[Bool.and_eq_true,decide_eq_true_eq]at this;exact⟨this.1,by omega⟩
def kH(s:bp)(st:z1')(pc:List c1)(wi:List dm)(de:List rr):bp:=(s.1,st,pc,wi,de,s.2.2.2.2.2)
structure abd(s:bp)(st:z1')(pc:List c1)(wi:List dm)(de:List rr):Prop where
 ey:st.length=s.2.1.length
 dN:∀ n∈st,0<=n/\n<=10
 p:pc.Sublist s.2.2.1
 w:wi.Sublist s.2.2.2.1
 d:de.Sublist s.2.2.2.2.1
theorem abe{s:bp}(h:h2 s)(he:hz s=0){st:z1'}{pc:List c1}{wi:List dm}{de:List rr}(k:abd s st pc wi de):hz (kH s st pc wi de)=0:=by
 obtain⟨ax,aM⟩:=IT he;have E:=h.EN;have U:=h.s3;have ah:=h.IV;have a1:=k.p.length_le;have bK:=k.w.length_le;have dp:=k.d.length_le;have fF:=h.wj;have ix:=h.ZM;have o5:=k.ey;unfold hz;rw[if_neg (by rw[show cM (kH s st pc wi de).1=0 from ax];decide),if_pos];show l5 (s.1,st,pc,wi,de,s.2.2.2.2.2)=true;unfold l5 iw bZ;simp only[Bool.and_eq_true,decide_eq_true_eq,List.all_eq_true];exact⟨⟨⟨⟨⟨⟨⟨⟨by omega,k.dN⟩,by omega⟩,λp an=>h.PF p (k.p.subset an)⟩,by omega⟩,λx ag=>h.IU x (k.w.subset ag)⟩,by omega⟩,λx ag=>h.IW x (k.d.subset ag)⟩,ix⟩
theorem JW{s:bp}(h:h2 s)(he:hz s=0){st:z1'}{pc:List c1}{wi:List dm}{de:List rr}(k:abd s st pc wi de)(b7:ba):mD b7 (kH s st pc wi de)=(rM,(kH s st pc wi de,b7.2)):=by
 unfold mD;rw[if_neg (by rw[abe h he k];decide)]
def kl(s:bp)(k:Nat):z1':=s.2.1.take k++List.replicate (s.2.1.length - k) 0
theorem QR{s:bp}(h:h2 s){k:Nat}(al:k<=s.2.1.length):(kl s k).length=s.2.1.length/\∀ n∈kl s k,0<=n/\n<=10:=by
 unfold kl;refine⟨by simp;omega,λn aw=>?_⟩;rcases List.mem_append.1 aw with aw | aw
 ·exact h.ob n (List.mem_of_mem_take aw)
 ·rw[List.eq_of_mem_replicate aw];decide
theorem atn{s:bp}(h:h2 s)(he:hz s=0)(c:H.aZ):(∀ a∈(gQ (kH s (kl s 0) [] [] [],c) (qI s)).1,a=rM)/\(gQ (kH s (kl s 0) [] [] [],c) (qI s)).2=(s,c):=by
 have bG:kl s s.2.1.length=s.2.1:=by unfold kl;simp
 have st:=λn aw=>h.ob n aw;obtain⟨b8,a2⟩:=JT (l:=List.range s.2.1.length) (f:=wG s) (S:=λk=>(kH s (kl s k) [] [] [],c)) λk al=>by
  have al:k<s.2.1.length:=by simpa using al
  obtain⟨ds,dI⟩:=QR h (k:=k+1) al;obtain⟨nP,_⟩:=QR h (k:=k) (by omega);rw[List.getElem_range];unfold wG;rw[JS (k:=2) (m:=false) (j:=11) (by decide) (by decide) (by simp) (QP h al)];show uK _ _=_;unfold uK;rw[if_neg (by show ¬((k:Int)>=((kl s k).length:Int));omega)];have e:(kl s k).set k ((kl s k).getD k 0+s.2.1.getD k 0)=kl s (k+1):=by
   unfold kl;have ar:s.2.1.length - k=(s.2.1.length - (k+1))+1:=by omega
   have aj:(s.2.1.take k).length=k:=by simp;omega
   rw[ar,List.replicate_succ,List.set_append_right _ _ (by omega),aj,Nat.sub_self,List.set_cons_zero,List.take_succ_eq_append_getElem al,List.append_assoc];have g1:(s.2.1.take k++0::List.replicate (s.2.1.length - (k+1)) 0).getD k 0=0:=by
    rw[List.getD_eq_getElem?_getD,List.getElem?_append_right (by omega),aj,Nat.sub_self];rfl
   have ee:s.2.1.getD k 0=s.2.1[k]:=by rw[List.getD_eq_getElem?_getD,List.getElem?_eq_getElem al];rfl
   rw[g1,ee,Int.zero_add];rfl
  have:=JW h he ⟨ds,dI,List.nil_sublist _,List.nil_sublist _,List.nil_sublist _⟩ (kH s (kl s k) [] [] [],c);rw[<-e]at this ⊢;exact this
 obtain⟨dL,eA⟩:=JT (l:=s.2.2.2.2.1) (f:=wH) (S:=λk=>(kH s s.2.1 [] [] (s.2.2.2.2.1.take k),c)) λk al=>by
  unfold wH;rw[JS (k:=3) (m:=false) (j:=12) (by decide) (by decide) (by simp) (QQ h (List.getElem_mem al))];have:=JW h he (de:=s.2.2.2.2.1.take (k+1)) ⟨rfl,st,List.nil_sublist _,List.nil_sublist _,List.take_sublist _ _⟩ (kH s s.2.1 [] [] (s.2.2.2.2.1.take k),c);rw[List.take_succ_eq_append_getElem al]at this ⊢;exact this
 obtain⟨bE,c2⟩:=JT (l:=s.2.2.1) (f:=BD) (S:=λk=>(kH s s.2.1 (s.2.2.1.take k) [] s.2.2.2.2.1,c)) λk al=>by
  unfold BD;rw[JS (k:=4) (m:=true) (j:=13) (by decide) (by decide) (by simp;omega) (JU h (List.getElem_mem al)).1];have:=JW h he (pc:=s.2.2.1.take (k+1)) ⟨rfl,st,List.take_sublist _ _,List.nil_sublist _,List.Sublist.refl _⟩ (kH s s.2.1 (s.2.2.1.take k) [] s.2.2.2.2.1,c);rw[List.take_succ_eq_append_getElem al]at this ⊢;exact this
 obtain⟨d1,d2⟩:=JT (l:=s.2.2.2.1) (f:=Fb) (S:=λk=>(kH s s.2.1 s.2.2.1 (s.2.2.2.1.take k) s.2.2.2.2.1,c)) λk al=>by
  unfold Fb;rw[JS (k:=5) (m:=true) (j:=14) (by decide) (by decide) (by simp;omega) (JV h (List.getElem_mem al)).1];have:=JW h he (wi:=s.2.2.2.1.take (k+1)) ⟨rfl,st,List.Sublist.refl _,List.take_sublist _ _,List.Sublist.refl _⟩ (kH s s.2.1 s.2.2.1 (s.2.2.2.1.take k) s.2.2.2.2.1,c);rw[List.take_succ_eq_append_getElem al]at this ⊢;exact this
 rw[List.length_range,bG]at a2;rw[List.take_length]at eA c2 d2;rw[List.take_zero]at dL eA bE c2 d1 d2;unfold qI;rw[Jp,Jp,Jp,a2,eA,c2];simp only[List.mem_append];exact⟨λa a8=>a8.elim (λa8=>a8.elim (λa8=>a8.elim (b8 a) (dL a)) (bE a)) (d1 a),d2⟩
theorem ato{s:bp}(h:h2 s):∀ t∈qI s,t.length<=10000:=λt aH=>by
 unfold qI at aH;simp only[List.mem_append]at aH;rcases aH with ((aH | aH) | aH) | aH
 ·obtain⟨i,G,rfl⟩:=List.mem_map.1 aH;exact Nat.le_trans (E9 (n:=5) (λn aw=>(QP h (List.mem_range.1 G) n aw).2) (by decide)) (by simp)
 ·obtain⟨x,ag,rfl⟩:=List.mem_map.1 aH;exact Nat.le_trans (E9 (n:=5) (λn aw=>(QQ h ag n aw).2) (by decide)) (by simp)
 ·obtain⟨x,ag,rfl⟩:=List.mem_map.1 aH;have:=(JU h ag).2;exact Nat.le_trans (E9 (n:=5) (λn aw=>((JU h ag).1 n aw).2) (by decide)) (by simp;omega)
 ·obtain⟨x,ag,rfl⟩:=List.mem_map.1 aH;have:=(JV h ag).2;exact Nat.le_trans (E9 (n:=4) (λn aw=>((JV h ag).1 n aw).2) (by decide)) (by simp;omega)
theorem acV(x:ba×z1')(E:e8 x.1.1)(U:H.iy x.1.2)(ah:x.2.length<2 ^ 63):Pm E7.sh rO.sh E_.sh BA.sh Fa.sh uM.sh E'.sh By.sh yy.sh uG.sh mB.sh yA.sh x=A.pure true:=by
 obtain⟨d,b'⟩:=x;change b'.length<2 ^ 63 at ah;change e8 d.1 at E;change H.iy d.2 at U;unfold Pm;rw[atj E U,A.aF,show rO.sh d=A.pure (kk d) from A.bR ⟨E,U⟩ _,A.kT,A.aF,ate];by_cases hc:uP d []=false/\kk d=0/\b'.length<=20
 ·obtain⟨ao,he,an⟩:=hc;obtain⟨ar,atp,l10,yC,P9,atq⟩:=atl E U ao he;rw[if_neg (by simp[ao,he];omega)];have ae:=ar.val;have fY:=ae.wj;have hlen:=ato ae;obtain⟨s,c⟩:=d;change s.1.1.length<=6 at atp;change s.2.2.2.1.length<=3 at yC;change s.2.2.1.length<=4 at P9;change s.2.2.2.2.1.length<=3 at atq;change h2 s at ae;change s.2.1.length=s.1.1.length at fY;rw[A.fC (List.range s.2.1.length) (λi (o:List aQ)=>(b',(i:Int),(s,c),s,o,())) (λi o=>.next (o++[wG s i])) (λo=>.next (b',(s,c),s,o,())) (λi o=>o.length=i) [] ?_ rfl ?_ ?_]
  ·rw[dP,qq,A.aF,A.bX,List.nil_append];rw[A.fC s.2.2.2.2.1 (λi (o:List aQ)=>(b',(i:Int),(s,c),s,o,())) (λx o=>.next (o++[wH x])) (λo=>.next (b',(s,c),s,o,())) (λi o=>o.length=s.2.1.length+i) ((List.range s.2.1.length).map (wG s)) ?_ (by simp) ?_ ?_]
   ·rw[dP,qq,A.aF,A.bX];rw[A.fC s.2.2.1 (λi (o:List aQ)=>(b',(i:Int),(s,c),s,o,())) (λx o=>.next (o++[BD x])) (λo=>.next (b',(s,c),s,o,())) (λi o=>o.length=s.2.1.length+s.2.2.2.2.1.length+i) ((List.range s.2.1.length).map (wG s)++s.2.2.2.2.1.map wH) ?_ (by simp) ?_ ?_]
    ·rw[dP,qq,A.aF,A.bX];rw[A.fC s.2.2.2.1 (λi (o:List aQ)=>(b',(i:Int),(s,c),s,o,())) (λx o=>.next (o++[Fb x])) (λo=>.next (b',(s,c),s,o,())) (λi o=>o.length=s.2.1.length+s.2.2.2.2.1.length+s.2.2.1.length+i) ((List.range s.2.1.length).map (wG s)++s.2.2.2.2.1.map wH++s.2.2.1.map BD) ?_ (by simp;omega) ?_ ?_]
     ·rw[dP,qq,A.aF,A.bX];have atr:(List.range s.2.1.length).map (wG s)++s.2.2.2.2.1.map wH++s.2.2.1.map BD++s.2.2.2.1.map Fb=qI s:=rfl;simp only[atr];rw[ati ar,A.aF];have aD:=ar.uL;have abf:kl s 0=List.replicate s.2.1.length 0:=by unfold kl;simp
      obtain⟨ds,dI⟩:=QR ae (k:=0) (Nat.zero_le _);have af:dn (kH s (kl s 0) [] [] [],c):=by
       refine⟨⟨ar.fU.1,by show (kl s 0).length<_;omega,by show 0<_;decide,by show 0<_;decide,by show 0<_;decide,λp an=>(List.not_mem_nil an).elim,λp an=>(List.not_mem_nil an).elim⟩,abe ae aD ⟨ds,dI,List.nil_sublist _,List.nil_sublist _,List.nil_sublist _⟩,ar.wA,ar.yI⟩
      have ats:(qI s).length<=40:=by unfold qI;simp;omega
      have M:=aaJ af ats hlen;rw[abf]at M;obtain⟨b_,cy⟩:=atn ae aD (iv (kH s (kl s 0) [] [] [],c)).2;have cD:(kH s (kl s 0) [] [] [],(iv (kH s (kl s 0) [] [] [],c)).2)=iv (kH s (kl s 0) [] [] [],c):=rfl;rw[cD,abf]at b_ cy;have aj:=arb (iv (kH s (List.replicate s.2.1.length 0) [] [] [],c)) (qI s);rw[A.bo (by simp only[bV,Int.toNat_natCast];exact⟨by omega,trivial,e7 (by omega)⟩)];simp only[bV,Int.toNat_natCast];have M:uM.sh (((s.1,List.replicate s.2.1.length 0,[],[],[],s.2.2.2.2.2),c),qI s)=_:=M;rw[M,A.aF,cy];generalize (gQ (iv (kH s (List.replicate s.2.1.length 0) [] [] [],c)) (qI s)).1=a at *
      rw[show E'.sh (a,((qI s).length:Int))=A.pure true from A.bR ⟨b_,by rw[aj],by show a.length<2 ^ 63;omega⟩ _];have mP:mB.sh s=A.pure 0:=by
       have e:mB.sh s=A.pure (hz s):=A.bR ar.fU _;rw[e,aD]
      have z2:By.sh ((s,[],[],[],[],0,0,0,0,0,0,0),s,[],[],[],[],0,0,0,0,0,0,0)=A.pure true:=atk ar.fU;have z3:yy.sh s=A.pure (wv s true):=A.bR ar.fU _;have z4:uG.sh s=A.pure (uF s):=A.bR ar.fU _;have z5:yA.sh (s,b')=A.pure (yz s b'):=A.bR ⟨ar.fU,ah⟩ _;simp only[mP,z2,z3,z4,z5,A.kT,A.aF];simp[A.kT]
     ·rfl
     ·intro i G o af;have hw:=bC (n:=(i:Int)+1) (by omega) (by omega);obtain⟨aO,aR⟩:=JV ae (List.getElem_mem G);refine⟨?_,λbd cR=>?_⟩
      ·simp only[bV,cT G,if_true,df G,cG G,A.br,ch,hw];rw[A.bo (e7 (by simp only[gW];omega)),JR (by decide) (by simp;omega) λn aw=>(aO n aw).2,A.aF,A.bo (e7 (by simp only[gW];omega))];rfl
      ·simp only[V.next.injEq]at cR;subst cR;simp[af];omega
     ·simp
    ·rfl
    ·intro i G o af;have hw:=bC (n:=(i:Int)+1) (by omega) (by omega);obtain⟨aO,aR⟩:=JU ae (List.getElem_mem G);refine⟨?_,λbd cR=>?_⟩
     ·simp only[bV,cT G,if_true,df G,cG G,A.br,ch,hw];rw[A.bo (e7 (by simp only[gW];omega)),JR (by decide) (by simp;omega) λn aw=>(aO n aw).2,A.aF,A.bo (e7 (by simp only[gW];omega))];rfl
     ·simp only[V.next.injEq]at cR;subst cR;simp[af];omega
    ·simp
   ·rfl
   ·intro i G o af;have hw:=bC (n:=(i:Int)+1) (by omega) (by omega);have aO:=QQ ae (List.getElem_mem G);have aR:BA.sh ([99,111,109,101,115],[s.2.2.2.2.1[i].1,s.2.2.2.2.1[i].2.1,s.2.2.2.2.1[i].2.2])=A.pure (wH s.2.2.2.2.1[i]):=JR (by decide) (by simp) λn aw=>(aO n aw).2;refine⟨?_,λbd cR=>?_⟩
    ·simp only[bV,cT G,if_true,df G,cG G,A.br,ch,hw,aR,A.iz,A.fs];rw[A.bo (e7 (by simp only[gW];omega))];rfl
    ·simp only[V.next.injEq]at cR;subst cR;simp[af];omega
   ·simp
  ·simp
  ·intro i G o af;have dv:i<s.2.1.length:=by simpa using G
   have hw:=bC (n:=(i:Int)+1) (by omega) (by omega);have aO:=QP ae dv;refine⟨?_,λbd cR=>?_⟩
   ·have aB:s.2.1.getD (Int.toNat (i:Int)) 0=s.2.1.getD i 0:=rfl;simp only[bV,cT dv,if_true,cG dv,A.br,ch,hw,aB,List.getElem_range];rw[JR (by decide) (by simp) λn aw=>(aO n aw).2,A.aF,A.bo (e7 (by simp only[gW];omega))];rfl
   ·simp only[V.next.injEq]at cR;subst cR;simp[af]
  ·simp
 ·rw[if_pos (by simp;grind),A.aF]
end Go.Fer.au
namespace Go.Fer.om
open Go.Proofs Go.Proofs.Tryz
open A (V)
set_option maxRecDepth 100000
noncomputable section
abbrev L:cC:=.eO
abbrev S(a b:cC):cC:=.seq a b
abbrev b7:cC:=S L L
abbrev C(a b:cC):cC:=.cond a b
abbrev B(a:cC):cC:=.block a
abbrev J(s:List (Nat×bW))(b:List (Nat×b2))(x y:cC):cC:=.join ⟨s,b⟩ x y
abbrev au(s:List (Nat×bW))(b:List (Nat×b2))(x:cC):cC:=.loop ⟨s,b⟩ x
abbrev cg(s:List (Nat×bW))(b:List (Nat×b2))(t:List (Nat×bW))(c:List (Nat×b2))(u:List (Nat×bW))(d:List (Nat×b2))(x y:cC):cC:=.range ⟨s,b⟩ ⟨t,c⟩ ⟨u,d⟩ x y
abbrev v2:bW:=.val t2
abbrev a2:b2:=.bg t2
abbrev v4:bW:=.val t4
abbrev v9:bW:=.val t9
abbrev a9:b2:=.bg t9
abbrev v22:bW:=.val t22
abbrev pU:bW:=.val DM
abbrev qJ:bW:=.val Hx
abbrev Fc:b2:=.gb n3
abbrev dU:bW:=.val eF
abbrev Fe:b2:=.bg eF
abbrev v28:bW:=.val t28
abbrev BE:bW:=.val Hy
abbrev pV:bW:=.val Al
abbrev uR:b2:=.gb t32
abbrev nC:bW:=.val qm
abbrev pW:bW:=.val n5
abbrev abg:b2:=.gb Nq
abbrev JX:b2:=.gb te
abbrev BF:b2:=.gb wN
abbrev BG:b2:=.bg Ak
abbrev rP:bW:=.val U7
abbrev JY:b2:=.bg xU
abbrev QS:b2:=.gb xU
abbrev QT:b2:=.bg vt
abbrev wI:b2:=.bg rm
abbrev att:b2:=.gb rm
abbrev QU:b2:=.bg xV
abbrev abh:b2:=.gb xV
abbrev atu:bW:=.val Ns
abbrev Ff:b2:=.gb qn
abbrev abi:bW:=.val U9
abbrev BH:bW:=.val DN
abbrev abj:bW:=.val jc
abbrev wJ:b2:=.bg jc
abbrev QV:bW:=.val vu
abbrev abk:bW:=.val U_
abbrev abl:bW:=.val py
abbrev Fg:b2:=.bg py
abbrev atv:bW:=.val U'
abbrev abm:bW:=.val Nu
abbrev abn:bW:=.val Nv
abbrev gR:b2:=.bg qo
abbrev yQ:b2:=.gb qo
abbrev QW:bW:=.val Nw
abbrev kI:bW:=.val oN
abbrev atw:bW:=.val Vf
abbrev abo:b2:=.gb Nr
abbrev BI:b2:=.bg Ai
abbrev abp:b2:=.gb Ai
abbrev QX:bW:=.val Hw
abbrev Fh:b2:=.bg vs
abbrev abq:b2:=.bg Aj
abbrev abr:b2:=.gb Aj
abbrev atx:bW:=.val Vg
abbrev QY:bW:=.val Ny
abbrev v228:bW:=.val t228
abbrev aty:bW:=.val Vj
abbrev atz:bW:=.val Vk
abbrev atA:bW:=.val Vl
abbrev BJ:bW:=.val Vm
abbrev atB:bW:=.val Vn
abbrev atC:bW:=.val Vo
abbrev JZ:bW:=.val DP
abbrev nq:List (Nat×bW):=[(6,.aW 17 0),(56,.hG [30000,30001,30002,30003,30004,30005,30006,30007,30008,30009]),(57,v2)]
abbrev nD:List (Nat×bW):=[(1,.aW 1 0)]
abbrev abt:List (Nat×bW):=[(1,.aW 1 0),(2,.aW 2 0),(3,.aW 1 0),(38,v2),(39,v2)]
abbrev abu:List (Nat×bW):=[(2,.aW 2 0),(7,.aW 22 0),(8,.aW 8 0),(9,.aW 9 0),(10,.own 10),(11,.aW 11 0),(24,v22),(25,v2),(26,v2)]
abbrev abv:List (Nat×bW):=[(2,.aW 2 0),(3,.aW 3 0),(4,.own 4),(5,.own 5),(7,QV),(8,v2),(9,v2),(23,v2),(29,QW),(30,v2),(31,v2)]
abbrev tb:List (Nat×bW):=[(1,.aW 1 0),(3,v2)]
abbrev abw:List (Nat×bW):=[(2,.aW 2 0),(7,.aW 30 0),(10,v2),(11,v2),(46,v2),(47,v2),(52,pU),(53,v2),(54,v2),(61,v2),(62,v2)]
abbrev J0:List (Nat×bW):=[(1,dU),(2,.aW 2 0),(5,.aW 5 0),(6,.own 6)]
abbrev atD:List (Nat×bW):=[(1,.aW 1 0),(2,.aW 2 0),(3,.aW 1 0),(5,.iW 22),(38,v2),(39,v2),(60,v2),(61,v2)]
abbrev abx:List (Nat×bW):=[(0,kI),(1,dU),(2,v2),(3,.hg),(9,v2),(29,v28),(30,v2),(31,v2),(1000000,.aV eF)]
abbrev aby:List (Nat×bW):=[(0,kI),(1,.own 200001),(2,pV),(3,v2),(4,.fG 100002),(16,nC),(17,v2),(18,v2)]
abbrev QZ:List (Nat×bW):=[(1,.aW 1 0),(2,.aW 2 0)]
abbrev BK:List (Nat×bW):=[(2,.aW 2 0),(3,.aW 3 0)]
abbrev abz:List (Nat×bW):=[(2,.aW 2 0),(3,.aW 3 0),(4,.own 4),(5,.own 5),(7,QV),(8,v2),(9,v2),(23,v2)]
abbrev abA:List (Nat×bW):=[(2,.aW 2 0),(7,.aW 30 0),(10,v2),(46,v2),(47,v2),(52,pU),(53,v2),(54,v2)]
abbrev abB:List (Nat×bW):=[(0,.hg),(2,.dW vu),(10,abn),(11,v2),(1000000,.aV (.az jc t2))]
abbrev Q0:List (Nat×bW):=[(1,.aW 1 0),(2,.aW 2 0),(3,.aW 3 0),(4,v2)]
abbrev abC:List (Nat×bW):=[(2,v2),(6,.aW 6 0),(8,.aW 8 0),(9,v4),(17,abm),(18,v2),(19,v2)]
abbrev abD:List (Nat×bW):=[(4,.aW 4 0),(5,.aW 5 0),(10,.fG 24),(28,QW),(29,v2),(30,v2)]
abbrev abE:List (Nat×bW):=[(2,.aW 2 0),(3,.aW 3 0),(4,.own 4),(5,.own 5),(7,QV),(23,v2)]
abbrev BL:List (Nat×bW):=[(1,.aW 1 0),(5,v2)]
abbrev abF:List (Nat×bW):=[(0,abi),(1,v2),(2,v2),(3,v2),(9,v2),(18,dU),(19,v2),(20,v2)]
abbrev abG:List (Nat×bW):=[(1,v2),(6,kI),(8,.own 8),(9,.own 50260),(29,v2),(30,v2)]
abbrev abH:List (Nat×bW):=[(1,rP),(2,.aW 2 0),(5,v2),(6,v2),(7,v2),(8,v2),(10,v2)]
abbrev J1:List (Nat×bW):=[(1,.aW 1 0),(3,v2),(4,v2)]
abbrev abI:List (Nat×bW):=[(1,atv),(4,.aW 4 0),(5,v4),(13,QW),(14,v2),(15,v2)]
abbrev abJ:List (Nat×bW):=[(0,kI),(1,pV),(5,.own 50140),(6,v2),(16,v2),(17,v2)]
abbrev Q1:List (Nat×bW):=[(2,.aW 2 0),(3,.aW 3 0),(7,v2)]
abbrev jB:List (Nat×b2):=[(17,.cells DO [dU,.own 30000,.own 30001,.own 30002,.own 30003,.own 30004,.own 30005,.own 30006,.own 30007,.own 30008,.own 30009]),(30000,gR),(30001,gR),(30002,gR),(30003,gR),(30004,gR),(30005,gR),(30006,gR),(30007,gR),(30008,gR),(30009,gR),(100000,.cells rn [nC,pW,dU,nC,v2,v2,v2,v2,v2,v2,v2,pW,.own 100002]),(100002,Fg)]
abbrev tc:List (Nat×b2):=[(12,yQ),(17,.cells DO [dU,.own 30000,.own 30001,.own 30002,.own 30003,.own 30004,.own 30005,.own 30006,.own 30007,.own 30008,.own 30009]),(30000,gR),(30001,gR),(30002,gR),(30003,gR),(30004,gR),(30005,gR),(30006,gR),(30007,gR),(30008,gR),(30009,gR),(100000,.cells rn [nC,pW,dU,nC,v2,v2,v2,v2,v2,v2,v2,pW,.own 100002]),(100002,Fg)]
abbrev J2:List (Nat×b2):=[(1,.cells t32 [.own 17,.own 22,v2,.own 27,.own 84,.own 87,.own 90,.own 93,v2]),(2,.cells t32 [.cv,.cv,v2,.cv,.cv,.cv,.cv,.cv,v2]),(17,BI),(22,Fh),(27,BG),(84,a2),(87,QU),(90,QT),(93,wI)]
abbrev abK:List (Nat×b2):=[(1,.cells t32 [.own 17,.own 22,v2,.own 27,dU,v28,BE,pV,v2]),(2,.cells t32 [.cv,.cv,v2,.cv,.cv,.cv,.cv,.cv,v2]),(17,BI),(22,.gj vs (.own 50530)),(27,BG),(50530,abq)]
abbrev wK:List (Nat×b2):=[(2,uR),(28,.mp rm t2),(30,.cells t222 [v22,pU,v2,qJ,dU,v28,BE,pV,v2,.cv,.fG 28])]
abbrev abL:List (Nat×b2):=[(1,.cells t32 [.own 17,.own 22,v2,.own 27,dU,v28,BE,pV,v2]),(2,.cells t32 [.cv,.cv,v2,.cv,.cv,.cv,.cv,.cv,v2]),(17,BI),(22,Fh),(27,BG)]
abbrev Q2:List (Nat×b2):=[(1,uR),(2,.cells t32 [.cv,.cv,v2,.cv,.cv,.cv,.cv,.cv,v2]),(3,.cells t32 [v22,pU,v2,qJ,.own 11,.own 16,.own 20,.own 24,v2]),(11,a2),(16,QU),(20,QT),(24,wI)]
abbrev abM:List (Nat×b2):=[(1,Fc),(2,.cells n3 [.cv,.cv,v2,.cv]),(3,.cells n3 [.own 8,.own 59,v2,.own 12]),(5,.cells vs [.own 26]),(8,BI),(12,BG),(26,abq),(59,Fh)]
abbrev abN:List (Nat×b2):=[(4,a9),(5,.cells wN [.cv,.cv,v2,.cv,.cv,.cv,.cv,.cv,v2,.cv,.cv,.cv,.cv,v2,v2,v2,v2,v2,v2,v2]),(50230,Ff)]
abbrev abO:List (Nat×b2):=[(1,Fc),(2,.cells n3 [.cv,.cv,v2,.cv]),(3,.cells n3 [.own 8,.own 59,v2,.own 12]),(8,BI),(12,BG),(59,Fh)]
abbrev BM:List (Nat×b2):=[(2,JX),(3,.gG t2),(4,a2),(5,a2)]
abbrev abP:List (Nat×b2):=[(2,uR),(28,.mp rm t2),(30,.cells t222 [v22,pU,v2,qJ,dU,v28,BE,pV,v2,.own 109,.fG 28]),(109,JY)]
abbrev abQ:List (Nat×b2):=[(28,.mp rm t2),(30,.cells t222 [v22,pU,v2,qJ,dU,v28,BE,pV,v2,.own 109,.fG 28]),(109,JY)]
abbrev wL:List (Nat×b2):=[(2,BF),(5,uR),(6,a9)]
abbrev abR:List (Nat×b2):=[(100000,.cells rn [nC,pW,dU,nC,v2,v2,v2,v2,v2,v2,v2,pW,.own 100002]),(100002,Fg)]
abbrev nE:List (Nat×b2):=[(1,Fc)]
abbrev oj:List (Nat×b2):=[(1,JX)]
abbrev abS:List (Nat×b2):=[(2,.gG n3),(22,.cells xW [v22,pU,v2,qJ,.own 61]),(61,Fe)]
abbrev yR:List (Nat×b2):=[(2,Fc),(3,Fc)]
abbrev qK:List (Nat×b2):=[(1,uR)]
abbrev Q3:List (Nat×b2):=[(100002,.mp t2 t2),(200001,a2)]
abbrev Fi:List (Nat×b2):=[(2,JX),(3,JX)]
abbrev Fj:List (Nat×b2):=[(5,uR),(6,uR)]
abbrev bG:cC:=S L (C b7 L)
abbrev ei:cC:=C L L
abbrev ax:cC:=S L ei
abbrev aM:cC:=S L b7
abbrev mF:cC:=S L bG
abbrev cD:cC:=S L (S ei (S (B mF) L))
abbrev et:cC:=S L (S ei (S (B b7) L))
abbrev eb:cC:=S ax (S (B bG) L)
abbrev k8:cC:=S L (S L (S L (J QZ abL (S L (B (au abt abL (S L (S ei (J abt abK (B (S L (S L (S (.nQ 5 L) (S L (B (au atD abK et))))))) (.GB 22 L))))))) (S L (J QZ J2 (S L (B (au [(1,.aW 1 0),(2,.aW 2 0),(100,v2),(101,v2)] J2 et))) (J QZ J2 (S L (B (au [(1,.aW 1 0),(2,.aW 2 0),(119,v2),(120,v2)] J2 et))) b7))))))
abbrev tt:cC:=S L (J [(0,dU),(1,v2)] [] ax (S L (J [(0,dU),(6,v228)] [] ax (S L (S L (J [(7,.own 30)] [(30,a2)] (B (au [(7,.own 30),(8,v2)] [(30,a2)] (S ax (B L)))) b7))))))
abbrev abT:cC:=S L (S L (J [(4,.fG 12)] [(12,.mp t2 jc)] (S L (B (au [(4,.fG 12),(13,pW),(14,v2),(15,v2)] [(12,.mp t2 jc)] (S L (S ei (S (B (S L (S mF L))) L)))))) (S L (J [(9,.own 9)] [(9,wJ)] (S L (B (au [(4,.fG 12),(9,.own 9),(39,dU),(40,v2),(41,v2)] [(9,wJ),(12,.jh t2 jc)] et))) b7))))
abbrev kJ:cC:=S L (S bG b7)
abbrev rQ:cC:=S ax (S (B L) L)
abbrev yS:cC:=S ax (S (B mF) L)
abbrev td:cC:=S L (S L aM)
abbrev BN:cC:=S L (S L (S bG aM))
abbrev yT:cC:=B (S L (S L ax))
abbrev abU:cC:=S L (J [] [] (S L (B (au [(0,dU),(3,v2)] [] eb))) b7)
abbrev yU:cC:=B (S L ax)
abbrev abV:cC:=S L (B (au [(1,.aW 1 0),(4,v2)] qK eb))
abbrev Q4:cC:=S L (S L (S L td))
abbrev abW:cC:=S L (S (S L (B (S L (C b7 bG)))) b7)
abbrev k7:=cK.mk ⟨[(0,.aW 100000 0),(1,.val eF)],[(100000,.gb qn)]⟩ ⟨[(0,.val t9)],[(100000,.gb qn)]⟩ [none] 2
def atE:=mk as6 func208 cr aM an5
def atF:=mk atE func148 H.cr aM H.alb
def atG:=mk atF func147 H.vG aM H.alf
def atH:=mk atG func149 H.vH kJ H.alh
def atI:=mk atH func67 H.vK (S L (S bG (J nD oj (S L (B (au tb oj eb))) (J nD oj (S L (B (au [(1,.aW 1 0),(4,v2)] oj eb))) (J nD oj (S L (B (au BL oj eb))) (J [] [] (S L (B (au [(1,.aW 1 0),(6,v2)] oj yS))) b7)))))) H.alO
def atJ:=mk atI func68 H.HX aM H.alm
def atK:=mk atJ func26 H.hZ (S L (S bG (J [] [] (S L (B (au tb oj (S ax (J tb oj (B (S L (B (au J1 oj eb)))) L))))) b7))) H.alQ
def atL:=mk atK func251 o0 aM an_
def atM:=mk atL func316 uv abU an'
def atN:=mk atM func252 sW (S L (J nD [(1,abr)] (S L (B (au tb [(1,abr)] eb))) b7)) aob
def atO:=mk atN func253 pL aM an6
def atP:=mk atO func317 A9 aM an8
def atQ:=mk atP func254 rB aM an9
def atS:=mk atQ func179 sX (S L (S bG (J nD nE (S L (B (au tb nE yS))) (J nD nE (S L (B (au BL nE (S ax (J BL nE (B (S bG (S L (B (au [(1,.aW 1 0),(5,v2),(6,v2)] nE eb))))) L))))) (J [] [] (S L (B (au [(1,.aW 1 0),(7,v2)] nE yS))) b7))))) aod
def atT:=mk atS func104 hZ (S L (S bG (J [] [] (S L (B (au tb nE (S ax (J tb nE (B (S L (B (au J1 nE yS)))) L))))) b7))) aof
def atU:=mk atT func105 cr aM ao7
def atV:=mk atU func180 II (S L (J [] [] (S L (B (au [(0,dU),(1,v2),(5,v2)] [] eb))) b7)) ao'
def atW:=mk atV func106 IK kJ apj
def atX:=mk atW func107 IL aM apk
def atY:=mk atX func48 mB (S L (S mF (S bG (J nD qK abV (J nD qK (S L (B (au BL qK eb))) (J nD qK (S L (B (au [(1,.aW 1 0),(6,v2)] qK eb))) (J [] [] (S L (B (au [(1,.aW 1 0),(7,v2)] qK yS))) b7))))))) apl
def x4:=mk atY func15 au.rO kJ au.ar7
def atZ:=mk x4 func110 vV (S L (S bG (J nD nE (S L (B (au tb nE (S ax (J tb nE (B (S bG (S L (B (au J1 nE eb))))) L))))) (S bG (J nD nE (S L (B (au BL nE eb))) b7))))) ao3
def at0:=mk atZ func50 Jd (S L (S bG (J nD qK (S L (B (au tb qK eb))) (J nD qK abV (S bG (S L (J BL qK (S L (B (au [(1,.aW 1 0),(5,v2),(6,v2)] qK rQ))) b7))))))) aqJ
def at1:=mk at0 func51 H.vV (S L (S bG (S bG (S L (J [(3,v2)] [] (S L (B (au J1 oj rQ))) b7))))) H.anw
def at2:=mk at1 func111 au.JH (S L (S L (J [(3,.own 5)] [(5,a9)] (S L (B (au [(0,v9),(3,.own 5),(4,v2)] [(5,a9)] (S ax (J [(0,v9),(3,.own 5),(4,v2)] [(5,a9)] (B ax) L))))) b7))) au.ar_
def at3:=mk at2 func112 au.JG (S L (S bG (S L (J [(3,v2)] [] (S L (B (au [(0,v9),(3,v2),(4,v2)] [] (S ax (S (B (S bG L)) L))))) b7)))) au.ar9
def at4:=mk at3 func113 au.JI (S L td) au.asa
def at5:=mk at4 func52 au.JK (S L (S L (J [(3,.own 3),(5,rP)] [(3,a2)] (S L (B (au [(3,.own 3),(5,rP),(6,v2)] [(3,a2)] (S ax (S (B (S L (S bG L))) L))))) (S L (J [] [] (S L (B (au [(3,.own 3),(5,rP),(8,rP),(9,dU),(10,dU),(11,v2)] [(3,a2)] eb))) b7))))) au.asb
def sE:=mk at5 func14 au.E7 (S L (S bG (S L (J [(1,rP),(2,.aW 2 0),(5,v2),(6,v2),(7,v2),(8,v2)] [(2,BF)] (S L (B (au [(1,rP),(2,.aW 2 0),(5,v2),(6,v2),(7,v2),(8,v2),(9,v2)] [(2,BF)] rQ))) (J [(2,.aW 2 0),(5,v2),(6,v2),(7,v2),(8,v2)] [(2,BF)] (S L (B (au abH [(2,BF)] (S ax (J abH [(2,BF)] (B (S bG (S L (B (S L (C L (S L (C L (S L (C b7 ax)))))))))) L))))) b7))))) au.asi
def at6:=mk sE func276 (kZ jX) (S L (J [] [] (S L (B (au [(0,qJ),(1,atx),(7,v2),(8,v2)] [] cD))) b7)) (sH jX)
def at7:=mk at6 func206 (je jX) aM (sI jX)
def aua:=jR at7 [] func207 (wb jX) 1 aM (EE jX)
def aub:=lZ aua [(207,1)] func144 (jz jX) aM (EF jX)
def auc:=mk aub func145 cr aM aoo
def aud:=mk auc func266 yk aM aoq
def aue:=mk aud func267 o0 aM aop
def auf:=mk aue func265 IA aM aox
def aug:=mk auf func292 (kZ bx) (S L (J [] [] (S L (B (au [(0,dU),(1,abk),(7,v2),(8,v2)] [] cD))) b7)) (sH bx)
def auh:=mk aug func227 (je bx) aM (sI bx)
def aui:=jR auh [] func331 (wb bx) 1 aM (EE bx)
def auj:=lZ aui [(331,1)] func269 (jz bx) aM (EF bx)
def auk:=mk auj func270 uv abU aot
def aul:=lZ auk [] func268 sW aM aoy
def aum:=mk aul func372 (kZ qz) (S L (J [] [] (S L (B (au [(0,QX),(1,atA),(7,v2),(8,v2)] [] cD))) b7)) (sH qz)
def aun:=mk aum func332 (je qz) aM (sI qz)
def auo:=jR aun [] func333 (wb qz) 1 aM (EE qz)
def aup:=lZ auo [(333,1)] func272 (jz qz) aM (EF qz)
def auq:=jR aup [] func271 Bc 1 aM aoz
def aur:=mk auq func64 pL aM aor
def aus:=mk aur func65 rB aM aos
def aut:=jR aus [] func273 Bd 1 aM aoA
def auu:=mk aut func373 (kZ kE) (S L (J [] [] (S L (B (au [(0,v22),(1,atB),(7,v2),(8,v2)] [] cD))) b7)) (sH kE)
def auv:=mk auu func334 (je kE) aM (sI kE)
def auw:=jR auv [] func335 (wb kE) 1 aM (EE kE)
def auy:=lZ auw [(335,1)] func274 (jz kE) aM (EF kE)
def auz:=mk auy func374 (kZ k3) (S L (J [] [] (S L (B (au [(0,pU),(1,atC),(7,v2),(8,v2)] [] cD))) b7)) (sH k3)
def auA:=mk auz func336 (je k3) aM (sI k3)
def auB:=jR auA [] func337 (wb k3) 1 aM (EE k3)
def auC:=lZ auB [(337,1)] func275 (jz k3) aM (EF k3)
def auD:=lZ auC [(271,1),(273,1)] func205 sX (S L (S L td)) aoB
def auE:=mk auD func141 hZ (S L (S bG (S L (J [] [] (S L (B (au [(3,.fG 12),(14,qJ),(15,v2),(16,v2)] [(12,.mp rm t2)] (S L (S ei (S (B (S L (S L (S mF L)))) L)))))) b7)))) aoF
def auF:=mk auE func164 cr aM ao6
def auG:=mk auF func220 rE aM ao8
def auH:=mk auG func221 IH (S L (J [] [] (S L (B (au [(0,dU),(1,abk),(7,dU),(8,v2),(9,v2)] [] cD))) b7)) ao_
def auI:=jR auH [] func222 EI 1 aM apc (hc:=λx h=>by obtain⟨w,p,ao,_⟩:=h;exact sz ⟨⟨trivial,rp (congrArg (λo=>o.1) ao)⟩,rp (congrArg (λo=>o.2) ao)⟩)
def auJ:=jR auI [(222,1)] func219 EJ 1 aM apd (hc:=λx h=>by obtain⟨_,w,ao,_⟩:=h;exact sz ⟨trivial,rp ao⟩)
def auK:=mk auJ func224 rE aM ao9
def auL:=lZ auK [] func223 EK aM ape
def auM:=jR auL [] func225 EL 1 aM apf (hc:=λx h=>by obtain⟨w,ao,_⟩:=h;exact sz ⟨trivial,rp ao⟩)
def auN:=mk auM func226 EM aM apg
def auO:=mk auN func293 (kZ nn) (S L (J [] [] (S L (B (au [(0,v28),(1,aty),(7,v2),(8,v2)] [] cD))) b7)) (sH nn)
def auP:=mk auO func228 (je nn) aM (sI nn)
def auQ:=mk auP func294 (kZ mA) (S L (J [] [] (S L (B (au [(0,BE),(1,atw),(7,v2),(8,v2)] [] cD))) b7)) (sH mA)
def auR:=mk auQ func229 (je mA) aM (sI mA)
def auS:=mk auR func295 (kZ pQ) (S L (J [] [] (S L (B (au [(0,pV),(1,atz),(7,v2),(8,v2)] [] cD))) b7)) (sH pQ)
def auT:=mk auS func230 (je pQ) aM (sI pQ)
def auU:=lZ auT [(219,1),(225,1)] func171 PB Q4 aph
def Q5:=mk auU func100 mB (S L (S mF (S bG b7))) api
def abX:cK:=⟨⟨[(0,.cv),(1,.val Nx)],[]⟩,⟨[(0,.own 50000)],[(50000,.bg t2)]⟩,[none],2,H.AD⟩
theorem auV:cS Tryz.prog dE 213 abX:=d_ Q5 [] trivial func213 (S L (S (S L (B (cg [(2,.aW 2 0)] [(2,.cells eF [.own 50000]),(50000,a2)] [(2,.aW 100002 0),(7,v2)] [(100002,.cells eF [.own 150000]),(150000,a2)] [] [(100002,.cells eF [.own 150000]),(150000,a2)] L (B L)))) b7)) H.alI
def abY:cK:=⟨⟨[(0,.val Nx)],[]⟩,⟨[(0,.own 50040)],[(50040,.bg t2)]⟩,[none],1,H.AD⟩
theorem auW:cS Tryz.prog dE 160 abY:=d_ Q5 [(213,.fb abX)] ⟨auV,trivial⟩ func160 aM H.alJ
def Q6:=pB Q5 mu [(160,.fb abY),(161,.fb QM)] ⟨auW,aa4,trivial⟩ func86 H.sJ td H.alK
def abZ:cK:=⟨⟨[(0,.hg),(1,.dW HA),(1000000,.aV t2)],[]⟩,⟨[(1000000,.aV t2)],[]⟩,[],2,H.Oo⟩
theorem auX:cS Tryz.prog dE 277 abZ:=d_ (S:=H.Oo) Q6 [] trivial func277 (S L (B (au [(0,.hg),(5,.j1 5),(1000000,.aV t2)] [(5,.ct t2 jc)] (S L (S ei yU))))) (λx=>A.le_refl _)
theorem auY:wT Tryz.prog 277 ⟨[HA],t2,H.jT⟩:=Nl (c:=abZ) auX mu (λx l L=>(l,x.getD [],(l,L,[],false),())) rfl (by decide) (by simp[gi])
 (λx l L i ag=>by
  obtain⟨T,aU⟩:=ag;obtain⟨m,hm,_⟩:=aU;subst hm;by_cases aX:i=0
  ·subst aX;exact .inr (.inr (.inl ⟨rfl,rfl⟩))
  ·by_cases E:i=1
   ·subst E;exact .inr (.inl ⟨by decide,by decide,_,_,rfl,rfl⟩)
   by_cases U:i=b4
   ·subst U;exact .inr (.inr (.inr ⟨rfl,rfl⟩))
   ·refine .inl ?_;exact (if_neg aX).trans ((if_neg E).trans (if_neg U)))
 rfl (λbm=>⟨_,_,_,_,rfl⟩) (λx l ag=>by
  obtain⟨T,aU⟩:=ag;obtain⟨m,hm,_⟩:=aU;subst hm;have h:=H.amI l m;refine⟨h.1,λbm gf dJ e6 p fm=>?_⟩;have e:aG.aV bm.1.1 t2 bm.1.2.1 bm.1.2.2.1 bm.1.2.2.2=.aV dJ t2 e6 p false:=fm;injection e with ax aM cD et eb
  rw[<-et];exact h.2 bm gf eb)
def auZ:=pB Q6 (Q6.u [] [(277,⟨[HA],t2,H.jT⟩)] ⟨auY,trivial⟩) [] trivial func210 H.x_ aM H.alN
def au0:=mk auZ func154 H.AK abT H.alY
def au1:=mk au0 func85 H.cr aM H.alc
def au2:=mk au1 func209 (H.kZ H.hp) (S L (J [] [] (S L (B (au [(0,pW),(1,QY),(7,v2),(8,v2)] [] cD))) b7)) H.aln
def au3:=mk au2 func151 (H.je H.hp) aM H.alo
def au4:=mk au3 func231 H.vG (S L (J nD [(1,abg)] (S L (B (au [(1,.aW 1 0),(13,.own 13),(14,v2),(15,v2)] [(1,abg),(13,a2)] cD))) b7)) H.alg
def au5:=mk au4 func76 H.vF aM H.ale
def au6:=mk au5 func233 H.vH (S L aM) H.ali
def au7:=jR au6 [] func232 H.Ea 1 aM H.alj
def au8:=mk au7 func234 H.Az aM H.alk
def au9:=lZ au8 [(232,1)] func172 H.vK (S L (S bG (J nD oj (S L (B (au [(1,.aW 1 0),(38,nC),(39,v2),(40,v2)] oj cD))) (J nD oj (S L (B (au [(1,.aW 1 0),(57,nC),(58,v2),(59,v2)] oj cD))) (S L aM))))) H.alP
def au_:=mk au9 func101 H.hZ (S L (S bG (S mF b7))) H.al0
def au':=mk au_ func46 au.rO kJ au.arY
def Q7:=pB au' mu [(256,.fb aa6)] ⟨as5,trivial⟩ func184 H.Jj (S L (S L (J [(0,BJ),(3,v2)] [] (S L (B (au [(0,BJ),(3,v2),(9,BJ),(10,v2),(11,v2)] [] (S L (S ei (J [(0,BJ),(3,v2),(9,BJ),(10,v2),(11,v2)] [] yT L)))))) (S L (J [(6,.own 50240)] [(50240,wJ)] (S L (B (au [(6,.own 50240),(25,BJ),(26,v2),(27,v2)] [(50240,wJ)] et))) b7))))) H.aqS
def ab0:cK:=⟨⟨[(0,.val DN)],[]⟩,⟨[(0,.own 50240)],[(50240,.bg t3)]⟩,[none],1,H.Jk⟩
theorem ava:cS Tryz.prog dE 185 ab0:=d_ Q7 [(257,.fb aa5)] ⟨as4,trivial⟩ func185 (S L (S L (J [(0,BH),(3,v2)] [] (S L (B (au [(0,BH),(3,v2),(9,BH),(10,v2),(11,v2)] [] (S L (S ei (J [(0,BH),(3,v2),(9,BH),(10,v2),(11,v2)] [] yT L)))))) (S L (J [(6,.own 50240)] [(50240,a2)] (S L (B (au [(6,.own 50240),(25,BH),(26,v2),(27,v2)] [(50240,a2)] et))) b7))))) H.aqT
def ab1:cK:=⟨⟨[(0,.own 200001)],[(200001,.bg t3)]⟩,⟨[(0,.sub 200001)],[(200001,.bg t3)]⟩,[none],1,H.Jm⟩
theorem avb:cS Tryz.prog dE 186 ab1:=d_ Q7 [] trivial func186 (S L (S bG (J [(0,.own 200001)] [(200001,a2)] (S L (B (au [(0,.own 200001),(3,v2)] [(200001,a2)] (S ax (J [(0,.own 200001),(3,v2)] [(200001,a2)] (B (S L (C (S L (J [(0,.own 200001),(3,v2)] [(200001,a2)] (S L (B (au [(0,.own 200001),(3,v2),(4,.sub 200001),(5,v2)] [(200001,a2)] (S ax (J [(0,.own 200001),(3,v2),(4,.sub 200001),(5,v2)] [(200001,a2)] (B bG) L))))) aM)) L))) L))))) b7))) H.aqZ
def avc:=mk Q7 func187 H.EX kJ H.aq7
def uS:=pB avc mu [(161,.fb QM),(185,.fb ab0),(186,.fb ab1)] ⟨aa4,ava,avb,trivial⟩ func117 H.Bt (S L (S mF (S L (S L (S mF (S L (S bG (S L BN)))))))) H.aq9
def avd:cK:=⟨⟨[(0,.val t22)],[]⟩,⟨[(0,.own 60)],[(60,.bg Ai)]⟩,[none],1,au.qG⟩
theorem ave:cS Tryz.prog dE 188 avd:=d_ uS [] trivial func188 kJ au.wB
abbrev Q8:e5:=.kA (hH.kA (au.fQ kE).dx)
theorem ab2:e5.hB Tryz.prog dE 188 Q8:=yP (sh:=(au.fQ kE).sh) ave (λx h=>⟨h,λbm gf=>by have h:bm=_:=gf;subst h;exact (A.gL).symm⟩)
def avf:cK:=⟨⟨[(0,.val DM)],[]⟩,⟨[(0,.own 60)],[(60,.bg vs)]⟩,[none],1,au.qG⟩
theorem avg:cS Tryz.prog dE 189 avf:=d_ uS [] trivial func189 kJ au.wB
abbrev Q9:e5:=.kA (hH.kA (au.fQ k3).dx)
theorem ab3:e5.hB Tryz.prog dE 189 Q9:=yP (sh:=(au.fQ k3).sh) avg (λx h=>⟨h,λbm gf=>by have h:bm=_:=gf;subst h;exact (A.gL).symm⟩)
def avh:cK:=⟨⟨[(0,.val Hx)],[]⟩,⟨[(0,.own 60)],[(60,.bg Ak)]⟩,[none],1,au.qG⟩
theorem avi:cS Tryz.prog dE 190 avh:=d_ uS [] trivial func190 kJ au.wB
abbrev Q_:e5:=.kA (hH.kA (au.fQ jX).dx)
theorem ab4:e5.hB Tryz.prog dE 190 Q_:=yP (sh:=(au.fQ jX).sh) avi (λx h=>⟨h,λbm gf=>by have h:bm=_:=gf;subst h;exact (A.gL).symm⟩)
def Q':cK:=⟨⟨[(0,.val Hw)],[]⟩,⟨[(0,.own 60)],[(60,.bg Aj)]⟩,[none],1,au.qG⟩
theorem ab5:cS Tryz.prog dE 191 Q':=d_ uS [] trivial func191 kJ au.wB
def ab6:cK:=⟨⟨[(0,.val eF)],[]⟩,⟨[(0,.own 60)],[(60,.bg t3)]⟩,[none],1,au.Jt⟩
theorem ab7:cS Tryz.prog dE 192 ab6:=d_ uS [] trivial func192 kJ au.arC
abbrev Ra:e5:=.kA (hH.kA H.oV.dx)
theorem ab8:e5.hB Tryz.prog dE 192 Ra:=yP (sh:=H.oV.sh) ab7 (λx h=>⟨h,λbm gf=>by have h:bm=_:=gf;subst h;exact (A.gL).symm⟩)
def avj:cK:=⟨⟨[(0,.val t28)],[]⟩,⟨[(0,.own 60)],[(60,.bg xV)]⟩,[none],1,au.qG⟩
theorem avk:cS Tryz.prog dE 193 avj:=d_ uS [] trivial func193 kJ au.wB
abbrev Rb:e5:=.kA (hH.kA (au.fQ nn).dx)
theorem ab9:e5.hB Tryz.prog dE 193 Rb:=yP (sh:=(au.fQ nn).sh) avk (λx h=>⟨h,λbm gf=>by have h:bm=_:=gf;subst h;exact (A.gL).symm⟩)
def avl:cK:=⟨⟨[(0,.val Hy)],[]⟩,⟨[(0,.own 60)],[(60,.bg vt)]⟩,[none],1,au.qG⟩
theorem avm:cS Tryz.prog dE 194 avl:=d_ uS [] trivial func194 kJ au.wB
abbrev J3:e5:=.kA (hH.kA (au.fQ mA).dx)
theorem Rc:e5.hB Tryz.prog dE 194 J3:=yP (sh:=(au.fQ mA).sh) avm (λx h=>⟨h,λbm gf=>by have h:bm=_:=gf;subst h;exact (A.gL).symm⟩)
def avn:cK:=⟨⟨[(0,.val Al)],[]⟩,⟨[(0,.own 60)],[(60,.bg rm)]⟩,[none],1,au.qG⟩
theorem avo:cS Tryz.prog dE 195 avn:=d_ uS [] trivial func195 kJ au.wB
abbrev Re:e5:=.kA (hH.kA (au.fQ pQ).dx)
theorem ab_:e5.hB Tryz.prog dE 195 Re:=yP (sh:=(au.fQ pQ).sh) avo (λx h=>⟨h,λbm gf=>by have h:bm=_:=gf;subst h;exact (A.gL).symm⟩)
def ab':=pB uS mu [(188,Q8),(189,Q9),(190,Q_),(191,.fb Q'),(192,Ra),(193,Rb),(194,J3),(195,Re)] ⟨ab2,ab3,ab4,ab5,ab8,ab9,Rc,ab_,trivial⟩ func118 au.Jw k8 au.arG
def aca:cK:=⟨⟨[(0,.val wN)],[]⟩,⟨[(0,.aW 17 0)],[(17,.gb qn)]⟩,[none],1,au.um⟩
theorem avp:cS Tryz.prog dE 57 aca:=d_ ab' [] trivial func57 (S L aM) au.OS
def Fk:=mk ab' func58 au.JC aM au.arT
def J4:cK:=⟨⟨[(0,.aW 100000 0),(1,.val n5),(2,.val eF)],[(100000,.gb qn)]⟩,⟨[(0,.val t9)],[(100000,.gb qn)]⟩,[none],3,au.Bv⟩
theorem Rf:cS Tryz.prog dE 196 J4:=d_ Fk [] trivial func196 BN au.arh
def Rg:cK:=k7 (au.fx 5 au.Qc)
theorem avq:cS Tryz.prog dE 119 Rg:=d_ Fk [(196,.fb J4)] ⟨Rf,trivial⟩ func119 aM au.ari
def avr:cK:=k7 (au.fx 4 au.Qd)
theorem avt:cS Tryz.prog dE 120 avr:=d_ Fk [(196,.fb J4)] ⟨Rf,trivial⟩ func120 aM au.arj
def avu:cK:=k7 (au.fx 1 au.Qe)
theorem avv:cS Tryz.prog dE 121 avu:=d_ Fk [(196,.fb J4)] ⟨Rf,trivial⟩ func121 aM au.OT
def avw:=mk Fk func339 H.HZ aM H.alq
def avx:=mk avw func280 H.H0 (S L (S L (S L (S (S L (C (S bG b7) L)) (S bG (S bG (S bG b7))))))) H.alr
def avy:=mk avx func279 H.l2 aM H.als
def avz:=mk avy func211 Iz (S L (J [] [] (S L (B (au [(0,dU),(1,v2),(7,v2),(8,v2)] [] cD))) b7)) aov
def avA:=mk avz func157 oU aM aow
def Fl:=jR avA [] func156 H.AU 1 aM H.OT
abbrev yV:=An (aju Fl) [(156,1)] []
def acb:cK:=⟨⟨[(0,.val n5)],[]⟩,⟨[(0,.own 9),(1,.val t4)],[(9,.bg jc)]⟩,[none,none],1,H.H8⟩
theorem avB:cS Tryz.prog yV 154 acb:=d_ Fl [] trivial func154 abT H.alZ
def acd:cK:=⟨⟨[(0,.own 200001),(1,.val Ny)],[(200001,.bg jc)]⟩,⟨[(0,.sub 200001)],[(200001,.bg jc)]⟩,[none],2,H.H_⟩
theorem avC:cS Tryz.prog yV 155 acd:=d_ Fl [] trivial func155 (S L (S L (S bG (J [(0,.own 200001),(5,v2)] [(200001,wJ)] (S L (B (au [(0,.own 200001),(1,QY),(5,v2),(6,v2)] [(200001,wJ)] (S ax (J [(0,.own 200001),(1,QY),(5,v2),(6,v2)] [(200001,wJ)] (B mF) L))))) aM)))) H.al1
def avD:=mk Fl func192 H.oV kJ H.alp
def avE:=mk avD func291 H.Ow (S L (J [(0,v228),(2,v2)] [] bG (J [(0,v228),(2,v2)] [] bG (J [(0,v228),(2,v2)] [] bG b7)))) H.alu
def BO:=mk avE func215 H.Ox (S L (S (C b7 L) b7)) (H.alv (λ_=>A.fail))
def ace:cK:=⟨⟨[(0,.own 200001),(1,.val t2),(2,.val t2),(3,.val DP)],[(200001,.bg qo)]⟩,⟨[],[(200001,.bg qo)]⟩,[],4,H.H3⟩
theorem avF:cS Tryz.prog yV 375 ace:=d_ BO [] trivial func375 (S L (B (au [(0,.own 200001),(1,v2),(2,v2),(3,JZ),(8,v2)] [(200001,gR)] (S ax (J [(0,.own 200001),(1,v2),(2,v2),(3,JZ),(8,v2)] [(200001,gR)] (B (S L (B (au [(0,.own 200001),(1,v2),(2,v2),(3,JZ),(8,v2),(9,v2)] [(200001,gR)] rQ)))) L))))) H.alE
def acf:cK:=⟨⟨[(0,.own 200001),(1,.val t2),(2,.val t2),(3,.val t2),(4,.val DP)],[(200001,.bg qo)]⟩,⟨[],[(200001,.bg qo)]⟩,[],5,H.H5⟩
theorem avG:cS Tryz.prog yV 338 acf:=d_ BO [(375,.fb ace)] ⟨avF,trivial⟩ func338 (S L (S L (B (au [(0,.own 200001),(1,v2),(2,v2),(3,v2),(4,JZ),(10,v4),(11,v4)] [(200001,gR)] (B (S L (S bG L))))))) H.alF
def acg:cK:=⟨⟨[(0,.own 200001),(1,.val DP)],[(200001,.bg qo)]⟩,⟨[],[(200001,.bg qo)]⟩,[],2,H.AB⟩
theorem avH:cS Tryz.prog yV 278 acg:=d_ BO [(338,.fb acf)] ⟨avG,trivial⟩ func278 b7 H.alH
def ach:cK:=⟨⟨[(0,.aW 100000 0),(1,.val eF)],[(100000,.cells rn [.val qm,.val n5,.val eF,.val qm,.val t2,.val t2,.val t2,.val t2,.val t2,.val t2,.val t2,.val n5,.own 100002]),(100002,.bg py)]⟩,⟨[(0,.val py),(1,.val t4)],[(100000,.cells rn [.val qm,.val n5,.val eF,.val qm,.val t2,.val t2,.val t2,.val t2,.val t2,.val t2,.val t2,.val n5,.own 100002]),(100002,.bg py)]⟩,[none,none],2,H.um⟩
theorem avI:cS Tryz.prog yV 212 ach:=d_ BO [(278,.fb acg)] ⟨avH,trivial⟩ func212 (S L (J [(0,.aW 100000 0),(1,dU),(6,.aW 17 0)] [(17,.cells DO [dU,.own 30000,.own 30001,.own 30002,.own 30003,.own 30004,.own 30005,.own 30006,.own 30007,.own 30008,.own 30009]),(100000,.cells rn [nC,pW,dU,nC,v2,v2,v2,v2,v2,v2,v2,pW,.own 100002]),(100002,Fg),(30000,gR),(30001,gR),(30002,gR),(30003,gR),(30004,gR),(30005,gR),(30006,gR),(30007,gR),(30008,gR),(30009,gR)] L (J [(6,.aW 17 0)] jB (S L (B (au [(1,dU),(6,.aW 17 0),(21,pW),(22,v2),(23,v2)] jB (S L (S ei (J [(1,dU),(6,.aW 17 0),(21,pW),(22,v2),(23,v2)] jB (B (S L (.split 8 4 10 L))) L)))))) (J [(6,.aW 17 0)] jB (S L (B (.nV (.num 57 0 (S L (S ei (J nq jB (B (S L (S L (S L (B (au [(6,.aW 17 0),(10,.own 30000),(56,.hG [30000,30001,30002,30003,30004,30005,30006,30007,30008,30009]),(57,v2),(62,.own 30000),(63,v2),(64,v2)] jB (S L (S ei (S (B (S L (S L (J [(6,.aW 17 0),(10,.own 30000),(11,v2),(12,.aW 12 0),(13,v2),(56,.hG [30000,30001,30002,30003,30004,30005,30006,30007,30008,30009]),(57,v2),(62,.own 30000),(63,v2),(64,v2)] tc ax bG)))) L))))))))) L)))) (.nV (.num 57 1 (S L (S ei (J nq jB (B (S L (S L (S L (B (au [(6,.aW 17 0),(10,.own 30001),(56,.hG [30000,30001,30002,30003,30004,30005,30006,30007,30008,30009]),(57,v2),(62,.own 30001),(63,v2),(64,v2)] jB (S L (S ei (S (B (S L (S L (J [(6,.aW 17 0),(10,.own 30001),(11,v2),(12,.aW 12 0),(13,v2),(56,.hG [30000,30001,30002,30003,30004,30005,30006,30007,30008,30009]),(57,v2),(62,.own 30001),(63,v2),(64,v2)] tc ax bG)))) L))))))))) L)))) (.nV (.num 57 2 (S L (S ei (J nq jB (B (S L (S L (S L (B (au [(6,.aW 17 0),(10,.own 30002),(56,.hG [30000,30001,30002,30003,30004,30005,30006,30007,30008,30009]),(57,v2),(62,.own 30002),(63,v2),(64,v2)] jB (S L (S ei (S (B (S L (S L (J [(6,.aW 17 0),(10,.own 30002),(11,v2),(12,.aW 12 0),(13,v2),(56,.hG [30000,30001,30002,30003,30004,30005,30006,30007,30008,30009]),(57,v2),(62,.own 30002),(63,v2),(64,v2)] tc ax bG)))) L))))))))) L)))) (.nV (.num 57 3 (S L (S ei (J nq jB (B (S L (S L (S L (B (au [(6,.aW 17 0),(10,.own 30003),(56,.hG [30000,30001,30002,30003,30004,30005,30006,30007,30008,30009]),(57,v2),(62,.own 30003),(63,v2),(64,v2)] jB (S L (S ei (S (B (S L (S L (J [(6,.aW 17 0),(10,.own 30003),(11,v2),(12,.aW 12 0),(13,v2),(56,.hG [30000,30001,30002,30003,30004,30005,30006,30007,30008,30009]),(57,v2),(62,.own 30003),(63,v2),(64,v2)] tc ax bG)))) L))))))))) L)))) (.nV (.num 57 4 (S L (S ei (J nq jB (B (S L (S L (S L (B (au [(6,.aW 17 0),(10,.own 30004),(56,.hG [30000,30001,30002,30003,30004,30005,30006,30007,30008,30009]),(57,v2),(62,.own 30004),(63,v2),(64,v2)] jB (S L (S ei (S (B (S L (S L (J [(6,.aW 17 0),(10,.own 30004),(11,v2),(12,.aW 12 0),(13,v2),(56,.hG [30000,30001,30002,30003,30004,30005,30006,30007,30008,30009]),(57,v2),(62,.own 30004),(63,v2),(64,v2)] tc ax bG)))) L))))))))) L)))) (.nV (.num 57 5 (S L (S ei (J nq jB (B (S L (S L (S L (B (au [(6,.aW 17 0),(10,.own 30005),(56,.hG [30000,30001,30002,30003,30004,30005,30006,30007,30008,30009]),(57,v2),(62,.own 30005),(63,v2),(64,v2)] jB (S L (S ei (S (B (S L (S L (J [(6,.aW 17 0),(10,.own 30005),(11,v2),(12,.aW 12 0),(13,v2),(56,.hG [30000,30001,30002,30003,30004,30005,30006,30007,30008,30009]),(57,v2),(62,.own 30005),(63,v2),(64,v2)] tc ax bG)))) L))))))))) L)))) (.nV (.num 57 6 (S L (S ei (J nq jB (B (S L (S L (S L (B (au [(6,.aW 17 0),(10,.own 30006),(56,.hG [30000,30001,30002,30003,30004,30005,30006,30007,30008,30009]),(57,v2),(62,.own 30006),(63,v2),(64,v2)] jB (S L (S ei (S (B (S L (S L (J [(6,.aW 17 0),(10,.own 30006),(11,v2),(12,.aW 12 0),(13,v2),(56,.hG [30000,30001,30002,30003,30004,30005,30006,30007,30008,30009]),(57,v2),(62,.own 30006),(63,v2),(64,v2)] tc ax bG)))) L))))))))) L)))) (.nV (.num 57 7 (S L (S ei (J nq jB (B (S L (S L (S L (B (au [(6,.aW 17 0),(10,.own 30007),(56,.hG [30000,30001,30002,30003,30004,30005,30006,30007,30008,30009]),(57,v2),(62,.own 30007),(63,v2),(64,v2)] jB (S L (S ei (S (B (S L (S L (J [(6,.aW 17 0),(10,.own 30007),(11,v2),(12,.aW 12 0),(13,v2),(56,.hG [30000,30001,30002,30003,30004,30005,30006,30007,30008,30009]),(57,v2),(62,.own 30007),(63,v2),(64,v2)] tc ax bG)))) L))))))))) L)))) (.nV (.num 57 8 (S L (S ei (J nq jB (B (S L (S L (S L (B (au [(6,.aW 17 0),(10,.own 30008),(56,.hG [30000,30001,30002,30003,30004,30005,30006,30007,30008,30009]),(57,v2),(62,.own 30008),(63,v2),(64,v2)] jB (S L (S ei (S (B (S L (S L (J [(6,.aW 17 0),(10,.own 30008),(11,v2),(12,.aW 12 0),(13,v2),(56,.hG [30000,30001,30002,30003,30004,30005,30006,30007,30008,30009]),(57,v2),(62,.own 30008),(63,v2),(64,v2)] tc ax bG)))) L))))))))) L)))) (.nV (.num 57 9 (S L (S ei (J nq jB (B (S L (S L (S L (B (au [(6,.aW 17 0),(10,.own 30009),(56,.hG [30000,30001,30002,30003,30004,30005,30006,30007,30008,30009]),(57,v2),(62,.own 30009),(63,v2),(64,v2)] jB (S L (S ei (S (B (S L (S L (J [(6,.aW 17 0),(10,.own 30009),(11,v2),(12,.aW 12 0),(13,v2),(56,.hG [30000,30001,30002,30003,30004,30005,30006,30007,30008,30009]),(57,v2),(62,.own 30009),(63,v2),(64,v2)] tc ax bG)))) L))))))))) L)))) (.nV (.num 57 10 (S L (S ei L))) L))))))))))))) b7)))) H.OS
def Rh(f:Nat):cK:=⟨⟨[(0,.aW 100000 0),(1,.val eF)],[(100000,.cells rn [.val qm,.val n5,.val eF,.val qm,.val t2,.val t2,.val t2,.val t2,.val t2,.val t2,.val t2,.val n5,.own 100002]),(100002,.bg py)]⟩,⟨[],[(100000,.cells rn [.val qm,.val n5,.val eF,.val qm,.val t2,.val t2,.val t2,.val t2,.val t2,.val t2,.val t2,.val n5,.own 100002]),(100002,.bg py)]⟩,[],2,H.yc f⟩
theorem aci:∀f,cS Tryz.prog yV 158 (Rh f)
 |0=>NB func158 H.amy
 |f+1=>d_ BO [(158,.fb (Rh f)),(212,.fb ach)] ⟨aci f,avI,trivial⟩ func158 (S L (S (S L (C (J [] abR (S L ax) L) L)) (S L (B (au [(0,.aW 100000 0),(1,dU),(4,v2),(7,v2)] abR rQ))))) (H.amB f)
def avJ:=pB BO (Fl.u [(156,1)] [] trivial) [(154,.fb acb),(155,.fb acd),(158,.fb (Rh 5))] ⟨avB,avC,aci 5,trivial⟩ func74 H.vR (S L (S mF (S L (S L (S L (J [(7,.aW 15 0)] [(15,.cells rn [nC,pW,dU,nC,v2,v2,v2,v2,v2,v2,v2,.sub 50200,.own 30000]),(50200,wJ),(30000,Fg)] bG kJ)))))) H.amF
def avK:=mk avJ func77 H.AV (S L (J [(4,.aW 4 0),(5,v4)] [(4,QS)] (S L (B (au abI [(4,QS)] (S L (S ei (J abI [(4,QS)] (B (S L (S L (B (S L (C L ax)))))) L)))))) b7)) H.amG
def avL:=jR avK [] func152 H.A0 1 aM H.am0
def avM:=jR avL [(152,1)] func150 H.O3 1 aM H.am1 (hc:=λx h=>by obtain⟨_,f,ao,_⟩:=h;exact sz ⟨trivial,rp ao⟩)
def Ri:=mk avM func89 H.vO (S L (S L (J [(7,v2)] [] (S L (B (au [(1,v2),(2,v2),(7,v2),(14,nC),(15,v2),(16,v2)] [] et))) b7))) H.al_
def acj:cK:=⟨⟨[(0,.hg),(1,.dW py),(2,.dW vu),(1000000,.aV (.az jc t2))],[]⟩,⟨[(1000000,.aV (.az jc t2))],[]⟩,[],3,(H.HS H.vO.sh)⟩
theorem avN:cS Tryz.prog dE 159 acj:=d_ (S:=(H.HS H.vO.sh)) Ri [] trivial func159 (S L (B (au abB [] (S L (S ei (J abB [] (B (S L (S L (B (au [(0,.hg),(2,.dW vu),(5,abm),(6,v2),(10,abn),(11,v2),(1000000,.aV (.az jc t2))] [] (S ax (S (B ax) L))))))) L)))))) (λx=>A.le_refl _)
theorem avO:wT Tryz.prog 159 ⟨[py,vu],(.az jc t2),H.sT⟩:=Nl (c:=acj) avN mu (λx l L=>(l,x.1.getD none,x.2.getD none,(l,L,[],false),())) rfl (by decide) (by simp[gi])
 (λx l L i ag=>by
  obtain⟨T,aU⟩:=ag;obtain⟨t,b,E,U,an,_⟩:=aU;obtain⟨w6,w5⟩:=x;change w6=some (some t) at E;change w5=some (some b) at U;subst E;subst U;by_cases aX:i=0
  ·subst aX;exact .inr (.inr (.inl ⟨rfl,rfl⟩))
  ·by_cases E:i=1
   ·subst E;exact .inr (.inl ⟨by decide,by decide,_,_,rfl,rfl⟩)
   by_cases ah:i=2
   ·subst ah;exact .inr (.inl ⟨by decide,by decide,_,_,rfl,rfl⟩)
   by_cases U:i=b4
   ·subst U;exact .inr (.inr (.inr ⟨rfl,rfl⟩))
   ·refine .inl ?_;exact (if_neg aX).trans ((if_neg E).trans ((if_neg ah).trans (if_neg U))))
 rfl (λbm=>⟨_,_,_,_,rfl⟩) (λx l ag=>by
  obtain⟨T,aU⟩:=ag;obtain⟨t,b,E,U,an,_⟩:=aU;obtain⟨w6,w5⟩:=x;change w6=some (some t) at E;change w5=some (some b) at U;subst E;subst U;have h:=H.amL l t b an;refine⟨h.1,λbm gf dJ e6 p fm=>?_⟩;have e:aG.aV bm.1.1 (.az jc t2) bm.1.2.1 bm.1.2.2.1 bm.1.2.2.2=.aV dJ (.az jc t2) e6 p false:=fm;injection e with ax aM cD et eb
  rw[<-et];exact h.2 bm gf eb)
def avP:=pB Ri (Ri.u [] [(159,⟨[py,vu],(.az jc t2),H.sT⟩)] ⟨avO,trivial⟩) [] trivial func79 H.AW aM H.amP
def avQ:=jR avP [] func153 H.O4 1 (S L (S (S L (B (cg [(2,.dW t2),(3,.dW Nt),(5,.aW 5 0),(6,.aW 6 0)] [(5,.cells t2 [v2]),(6,.cells t4 [v4])] [(2,.dW t2),(3,.dW Nt),(5,.aW 100005 0),(6,.aW 100006 0),(12,abj),(13,v2)] [(100005,.cells t2 [v2]),(100006,.cells t4 [v4])] [] [(100005,.cells t2 [v2]),(100006,.cells t4 [v4])] b7 (B bG)))) b7)) H.am2 (hc:=λx h=>by obtain⟨_,_,_,_,rfl,_⟩:=h;exact sz ⟨⟨⟨trivial,rfl⟩,rfl⟩,rfl⟩)
def avR:=lZ avQ [(150,1),(153,1)] func70 H.A1 (S L (S L (S bG kJ))) H.am3
def avS:=mk avR func71 H.ye aM H.am4
def avT:=lZ avS [] func34 H.Ih aM H.am5
def avU:=mk avT func199 au.yJ (S L (S bG (S L (J [(3,.own 3)] [(3,a9)] (S L (B (au [(3,.own 3),(9,dU),(10,v2),(11,v2)] [(3,a9)] et))) b7)))) au.ard
def avV:=mk avU func198 au.qF abW au.are
def ack:=mk avV func197 au.yK aM au.arf
def avW:cK:=k7 (au.fx 1 au.Qf)
theorem avX:cS Tryz.prog dE 122 avW:=d_ ack [] trivial func122 aM au.ark
def avY:=mk ack func73 H.vP kJ H.ama
def avZ:=jR avY [] func72 H.yf 1 aM H.am6
def acm:=lZ avZ [(72,1)] func35 H.AT aM H.am8
def av0:cK:=k7 (au.fx 1 au.Qg)
theorem av1:cS Tryz.prog dE 123 av0:=d_ acm [] trivial func123 aM au.arl
def av2:=jR acm [] func75 H.O5 1 aM H.am9
def av3:=jR av2 [] func78 H.O6 1 (S L (S L (S (S L (B (cg [(2,.dW t2),(3,.dW te),(7,.aW 7 0)] [(7,.cells t2 [v2])] [(2,.dW t2),(3,.dW te),(7,.aW 100007 0),(13,abj),(14,v2)] [(100007,.cells t2 [v2])] [] [(100007,.cells t2 [v2])] b7 (B ax)))) b7))) H.am_ (hc:=λx h=>by obtain⟨_,_,_,_,rfl,_⟩:=h;exact sz ⟨⟨⟨trivial,rfl⟩,rfl⟩,rfl⟩)
def acn:=lZ av3 [(75,1),(78,1)] func36 H.Ij BN H.anb
def av4:cK:=k7 (au.fx 1 au.Qh)
theorem av5:cS Tryz.prog dE 124 av4:=d_ acn [] trivial func124 aM au.arn
def av6:=mk acn func81 H.x8 aM H.ald
def av7:=jR av6 [] func80 H.A2 1 aM H.Ym
def av8:=mk av7 func83 H.yg (S L (S L (S L (J [(6,.aW 6 0),(8,.aW 8 0),(9,v4)] [(6,yQ),(8,yQ)] (S L (B (au abC [(6,yQ),(8,yQ)] (S L (S ei (J abC [(6,yQ),(8,yQ)] yU L)))))) b7)))) H.ane
def av9:=jR av8 [] func82 H.O_ 1 (S L (S L (J [(6,v2)] [] (S L (B (au [(0,abl),(1,.dW t2),(2,.dW te),(6,v2),(10,v2)] [] (S L (S ei (J [(0,abl),(1,.dW t2),(2,.dW te),(6,v2),(10,v2)] [] yT L)))))) b7))) H.anh (hc:=λx h=>by obtain⟨_,_,_,rfl,_⟩:=h;exact sz ⟨⟨trivial,rfl⟩,rfl⟩)
def aco:=lZ av9 [(80,1),(82,1)] func37 H.Il BN H.anj
def av_:cK:=k7 (au.fx 1 au.Qi)
theorem awa:cS Tryz.prog dE 125 av_:=d_ aco [] trivial func125 aM au.aro
def Rj:=jR aco [] func84 H.Pb 1 aM H.ano (hc:=λx h=>by obtain⟨a,b,ao⟩:=h;exact sz ⟨⟨trivial,rp (congrArg (λo=>o.1) ao)⟩,rp (congrArg (λo=>o.2) ao)⟩)
def acp:cK:=⟨⟨[(0,.hg),(1,.dW Hz),(1000000,.aV t2)],[]⟩,⟨[(1000000,.aV t2)],[]⟩,[],2,H.On⟩
theorem awb:cS Tryz.prog dE 162 acp:=d_ (S:=H.On) Rj [] trivial func162 (S L (B (au [(0,.hg),(5,.j1 5),(1000000,.aV t2)] [(5,.ct t2 t2)] (S L (S ei yU))))) (λx=>A.le_refl _)
theorem awc:wT Tryz.prog 162 ⟨[Hz],t2,H.jT⟩:=Nl (c:=acp) awb mu (λx l L=>(l,x.getD [],(l,L,[],false),())) rfl (by decide) (by simp[gi])
 (λx l L i ag=>by
  obtain⟨T,aU⟩:=ag;obtain⟨m,hm,_⟩:=aU;subst hm;by_cases aX:i=0
  ·subst aX;exact .inr (.inr (.inl ⟨rfl,rfl⟩))
  ·by_cases E:i=1
   ·subst E;exact .inr (.inl ⟨by decide,by decide,_,_,rfl,rfl⟩)
   by_cases U:i=b4
   ·subst U;exact .inr (.inr (.inr ⟨rfl,rfl⟩))
   ·refine .inl ?_;exact (if_neg aX).trans ((if_neg E).trans (if_neg U)))
 rfl (λbm=>⟨_,_,_,_,rfl⟩) (λx l ag=>by
  obtain⟨T,aU⟩:=ag;obtain⟨m,hm,_⟩:=aU;subst hm;have h:=H.amH l m;refine⟨h.1,λbm gf dJ e6 p fm=>?_⟩;have e:aG.aV bm.1.1 t2 bm.1.2.1 bm.1.2.2.1 bm.1.2.2.2=.aV dJ t2 e6 p false:=fm;injection e with ax aM cD et eb
  rw[<-et];exact h.2 bm gf eb)
def awd:=pB Rj (Rj.u [] [(162,⟨[Hz],t2,H.jT⟩)] ⟨awc,trivial⟩) [] trivial func87 H.H6 aM H.alM
def acq:=lZ awd [(84,1)] func38 H.Im (S L (S L (S bG (S L (J [(10,.fG 24)] [(24,.mp t2 t2)] (S L (B (au abD [(4,.gG t2),(5,.gG t2),(24,.mp t2 t2)] (S L (S ei (J abD [(4,.gG t2),(5,.gG t2),(24,.mp t2 t2)] yT L)))))) b7))))) H.anp
def awe:cK:=k7 (au.fx 2 au.Qk)
theorem awf:cS Tryz.prog dE 126 awe:=d_ acq [] trivial func126 (S L (S L (S bG (S bG b7)))) au.ars
def awg:=jR acq [] func88 H.A2 1 aM H.ang
def acr:=lZ awg [(88,1)] func39 H.Io (S L (S L (S bG (J [(4,.own 4),(5,.own 5)] [(4,a2),(5,a2)] (S L (B (au abE BM (S L (S ei (J abE BM (B (S L (S L (J abz BM (S L (B (au abv BM (S L (S ei (J abv BM yT L)))))) (J abz BM ax ax))))) L)))))) b7)))) H.anu
def awh:cK:=k7 (au.fx 1 au.Qm)
theorem awi:cS Tryz.prog dE 127 awh:=d_ acr [] trivial func127 (S L kJ) au.aru
def awj:=mk acr func143 EC (S L aM) aoH
def awk:=jR awj [] func142 yl 1 aM aoI (hc:=λx h=>by obtain⟨i,w,n,ao,_⟩:=h;exact sz ⟨⟨⟨trivial,rp (congrArg (λo=>o.1) ao)⟩,rp (congrArg (λo=>o.2.1) ao)⟩,rp (congrArg (λo=>o.2.2) ao)⟩)
def awl:=lZ awk [(142,1)] func63 Be (S L (S mF (S bG (S L (J [(7,.aW 22 0)] [(22,.cells xW [v22,pU,v2,qJ,.own 61]),(61,Fe)] (S L (B (au [(2,.aW 2 0),(7,.aW 22 0),(24,v22),(25,v2),(26,v2)] abS (S L (S ei (J [(2,.aW 2 0),(7,.aW 22 0),(24,v22),(25,v2),(26,v2)] abS (B (S L (S L (J [(2,.aW 2 0),(7,.aW 22 0),(10,.own 10),(24,v22),(25,v2),(26,v2)] [(2,.gG n3),(10,a2),(22,.cells xW [v22,pU,v2,qJ,.own 61]),(61,Fe)] (S L (B (au abu [(2,.gG n3),(8,.gG t2),(9,abp),(10,a2),(11,.cells t2 [v2]),(22,.cells xW [v22,pU,v2,qJ,.own 61]),(61,Fe)] (S ax (J abu [(2,.gG n3),(8,.gG t2),(9,abp),(10,a2),(11,.gG t2),(22,.cells xW [v22,pU,v2,qJ,.own 61]),(61,Fe)] yU (S b7 L)))))) (S bG L))))) L)))))) b7))))) aoM
def D3:=mk awl func24 yj BN aoU
def BP:cK:=⟨⟨[(0,.val t32)],[]⟩,⟨[(0,.val t22),(1,.val DM),(2,.val t2),(3,.own 28),(4,.own 11),(5,.own 16),(6,.own 20),(7,.own 24),(8,.val t2)],[(28,.bg Ak),(11,.bg t2),(16,.bg xV),(20,.bg vt),(24,.bg rm)]⟩,[some 9],1,au.wC⟩
theorem Fm:cS Tryz.prog dE 118 BP:=d_ D3 [(188,Q8),(189,Q9),(190,Q_),(191,.fb Q'),(192,Ra),(193,Rb),(194,J3),(195,Re)] ⟨ab2,ab3,ab4,ab5,ab8,ab9,Rc,ab_,trivial⟩ func118 k8 au.arF
def awm:cK:=k7 (au.fx 4 au.yF)
theorem awn:cS Tryz.prog dE 128 awm:=d_ D3 [(118,.fb BP)] ⟨Fm,trivial⟩ func128 (S L (S L (S L (S L (S bG (S mF aM)))))) au.arJ
def awo:=mk D3 func146 Ix abW aoN
def awp:=mk awo func66 IE (S L (S L (J [(0,abi),(1,v2),(9,v2)] [] (S L (B (au abF [] (S L (S ei (J abF [] yU L)))))) b7))) aoS
def rs:=mk awp func23 Bb (S L kJ) aoW
def awq:cK:=k7 (au.fx 3 au.Qn)
theorem awr:cS Tryz.prog dE 129 awq:=d_ rs [] trivial func129 (S L kJ) au.arw
def Fo:cK:=⟨⟨[(0,.aW 100000 0),(1,.val t32)],[(100000,.gb qn)]⟩,⟨[(0,.val t9)],[(100000,.gb qn)]⟩,[none],2,au.wD⟩
theorem J5:cS Tryz.prog dE 200 Fo:=d_ rs [] trivial func200 (S L (S bG aM)) au.arH
def aws:cK:=k7 (au.fx 2 au.uK)
theorem awt:cS Tryz.prog dE 130 aws:=d_ rs [(118,.fb BP),(200,.fb Fo)] ⟨Fm,J5,trivial⟩ func130 BN au.arK
def awu:cK:=k7 (au.fx 3 au.Qo)
theorem awv:cS Tryz.prog dE 131 awu:=d_ rs [(118,.fb BP),(200,.fb Fo)] ⟨Fm,J5,trivial⟩ func131 td au.arL
def aww:cK:=k7 (au.fx 4 au.Qp)
theorem awx:cS Tryz.prog dE 132 aww:=d_ rs [(118,.fb BP),(200,.fb Fo)] ⟨Fm,J5,trivial⟩ func132 td au.arM
def awy:cK:=k7 (au.fx 5 au.Qq)
theorem awz:cS Tryz.prog dE 133 awy:=d_ rs [(118,.fb BP),(200,.fb Fo)] ⟨Fm,J5,trivial⟩ func133 td au.arN
def acs:cK:=⟨⟨[(0,.own 200001),(1,.val t3),(2,.val t3)],[(200001,.bg vt)]⟩,⟨[(0,.sub 200001)],[(200001,.bg vt)]⟩,[none],3,(au.Ju au.Jy)⟩
theorem awA:cS Tryz.prog dE 201 acs:=d_ rs [] trivial func201 (S L (S L (S bG td))) (au.arD au.Jy)
def awB:cK:=k7 (au.fx 1 au.yG)
theorem awC:cS Tryz.prog dE 134 awB:=d_ rs [(194,J3),(201,.fb acs)] ⟨Rc,awA,trivial⟩ func134 (S L (S bG (S .GC b7))) au.arO
def awD:=mk rs func217 sY (S L (S L (S L (S L (S L Q4))))) apn
def awE:=mk awD func165 sY (S L (S (C aM L) aM)) (apq (λ_=>A.fail))
def awF:=mk awE func163 IQ (S L (J [(0,nC),(1,v2)] [] ax (S L (J [(0,nC),(6,v228)] [] ax (S L (S L (J [(7,.own 30)] [(30,JY)] (B (au [(7,.own 30),(8,v2)] [(30,JY)] (S ax (B L)))) b7))))))) apy
def awG:=mk awF func90 Bk (S L (S mF (S bG (S L (J [(2,.aW 2 0),(7,.aW 30 0)] wK (S L (C mF L)) (J [(2,.aW 2 0),(7,.aW 30 0)] wK (S L (B (au [(2,.aW 2 0),(7,.aW 30 0),(46,v2),(47,v2)] wK (S L (S ei (J [(2,.aW 2 0),(7,.aW 30 0),(46,v2),(47,v2)] wK (B (S L (S L (B (au abA wK (S L (S ei (J abA wK (B (S L (S L (B (au abw wK (S L (S ei (J abw wK yT L)))))))) L)))))))) L)))))) (J [(2,.aW 2 0),(7,.aW 30 0)] abP (S L (B (au [(2,.aW 2 0),(7,.aW 30 0),(92,dU),(93,v2),(94,v2)] abP et))) (J [(7,.aW 30 0)] abQ (S L (B (au [(7,.aW 30 0),(114,pV),(115,v2),(116,v2)] abQ et))) b7)))))))) apK
def acu:=mk awG func91 PD aM apB
def acv:cK:=⟨⟨[(0,.val eF),(1,.val t3)],[]⟩,⟨[(0,.own 30)],[(30,.bg t3)]⟩,[none],2,wc⟩
theorem awH:cS Tryz.prog dE 92 acv:=d_ acu [] trivial func92 tt ZL
def awI:=mk acu func168 we (S L (S (B (S L (C b7 (S L (C b7 bG))))) b7)) apD
def acw:=mk awI func96 I3 (S L (S L (J [(6,.own 6)] [(6,wI)] (S L (B (au [(0,kI),(6,.own 6),(14,dU),(15,v2),(16,v2)] [(6,wI)] (S L (S ei (J [(0,kI),(6,.own 6),(14,dU),(15,v2),(16,v2)] [(6,wI)] (B (S L (S ax (S L (S L (J [(0,kI),(6,.own 6),(10,.aW 10 0),(11,v2),(14,dU),(15,v2),(16,v2)] [(6,wI),(10,abh)] (S L (B (S L (C b7 ax)))) (S bG (S L (B (au [(0,kI),(6,.own 6),(10,.aW 10 0),(11,v2),(14,dU),(15,v2),(16,v2),(58,dU),(59,v2),(60,v2)] [(6,wI),(10,abh)] et)))))))))) L)))))) b7))) apW
def acx:cK:=⟨⟨[(0,.val eF),(1,.val t2)],[]⟩,⟨[(0,.own 30)],[(30,.bg t2)]⟩,[none],2,wc⟩
theorem awJ:cS Tryz.prog dE 92 acx:=d_ acw [] trivial func92 tt ZL
def acy:=mk acw func169 Bp aM ap7
def Rk(f:Nat):cK:=⟨⟨[(0,.val oN),(1,.own 200001),(2,.val Al),(3,.val t2),(4,.fG 100002)],[(100002,.mp t2 t2),(200001,.bg t2)]⟩,⟨[(0,.val t4)],[(100002,.mp t2 t2),(200001,.bg t2)]⟩,[none],5,uE f⟩
theorem acz:∀f,cS Tryz.prog dE 170 (Rk f)
 |0=>NB func170 aqe
 |f+1=>d_ acy [(170,.fb (Rk f))] ⟨acz f,trivial⟩ func170 (S L (J [] Q3 (S L (B (au aby Q3 (S L (S ei (J aby Q3 (B (S L (S ax (S L (S L (C aM L)))))) L)))))) b7)) (aqd f)
def awK:=pB acy mu [(92,.fb acx),(170,.fb (Rk 201))] ⟨awJ,acz 201,trivial⟩ func98 I7 (S L (S L (S L (J [(6,v2)] [] (S L (B (au abJ [(50140,a2)] (S L (S ei (J abJ [(50140,a2)] yU L)))))) b7)))) aqg
def awL:=mk awK func93 wu (S L aM) aqh
def acA:=pB awL mu [(92,.fb acv)] ⟨awH,trivial⟩ func40 Jb (S L (S L (S bG (S L (S L (J [(8,.own 8)] [(8,a2)] (S L (B (au abG [(8,a2),(50260,a2)] (S L (S ei (J abG [(8,a2),(50260,a2)] yT L)))))) b7)))))) aqD
def awM:cK:=k7 (au.fx 1 au.Qr)
theorem awN:cS Tryz.prog dE 135 awM:=d_ acA [] trivial func135 (S L aM) au.ary
def awO:=mk acA func181 PE aM apC
def awP:=mk awO func108 IS (S L (J [(1,dU),(2,.aW 2 0)] [(2,uR)] (S L (B (au [(1,dU),(2,.aW 2 0),(7,dU),(8,v2),(9,v2)] [(2,uR)] cD))) b7)) apE
def awQ:=mk awP func109 s5 (S L (J [(4,v2)] [] (S L (B (au [(0,kI),(4,v2),(7,dU),(8,v2),(9,v2)] [] (S L (S ei (J [(0,kI),(4,v2),(7,dU),(8,v2),(9,v2)] [] yU L)))))) b7)) apY
def acB:=mk awQ func49 yA (S L (S L (S bG (S bG b7)))) aqF
def awR:cK:=k7 (au.fx 0 au.Qs)
theorem awS:cS Tryz.prog dE 136 awR:=d_ acB [(192,.fb ab6)] ⟨ab7,trivial⟩ func136 (S L (S L (J [(0,.aW 100000 0),(5,.own 50100)] [(50100,a2),(100000,Ff)] (S L (B (au [(0,.aW 100000 0),(5,.own 50100),(12,v2),(13,v2)] [(50100,a2),(100000,Ff)] et))) aM))) au.arz
def Rl:=mk acB func92 IN tt apx
def J6(f:Nat):cK:=⟨⟨[(0,.val oN),(1,.val eF),(2,.val t2),(3,.hg),(1000000,.aV eF)],[]⟩,⟨[(0,.val t4),(1000000,.aV eF)],[]⟩,[none],4,rI f⟩
theorem Rm:∀f,cS Tryz.prog dE 167 (J6 f)
 |0=>NB func167 aqr
 |f+1=>d_ Rl [(167,.fb (J6 f))] ⟨Rm f,trivial⟩ func167 (S L (S L (S bG (J [(0,kI),(1,dU),(2,v2),(3,.hg),(9,v2),(1000000,.aV eF)] [] (S L (B (au abx [] (S L (S ei (J abx [] (B (S L (S ax bG))) L)))))) b7)))) (aqq f)
def acC:cK:=⟨⟨[(0,.val oN),(1,.hg),(1000000,.aV eF)],[]⟩,⟨[(1000000,.aV eF)],[]⟩,[],2,(HO (rI 10))⟩
theorem awT:cS Tryz.prog dE 218 acC:=d_ (S:=(HO (rI 10))) Rl [(167,.fb (J6 10))] ⟨Rm 10,trivial⟩ func218 L (λx=>A.le_refl _)
def J7:zJ:=⟨oN,eF,yx,I9⟩
theorem awU:Db Tryz.prog 218 J7:=UX (c:=acC) awT mu (ic:=J7) (λx l L=>(x,l,(l,L,[],false),())) rfl (by decide) (by simp[J7])
 (λx l L i=>by
  by_cases aX:i=0
  ·subst aX;exact .inr (.inl ⟨by decide,rfl⟩)
  ·by_cases E:i=1
   ·subst E;exact .inr (.inr (.inl ⟨rfl,rfl⟩))
   ·by_cases U:i=b4
    ·subst U;exact .inr (.inr (.inr ⟨rfl,rfl⟩))
    ·refine .inl ?_;exact (if_neg aX).trans ((if_neg E).trans (if_neg U)))
 rfl (λbm=>⟨_,_,_,_,rfl⟩) (λx l an=>by
  obtain⟨s,aD,ae⟩:=an;subst aD;have h:=aqs s ae l;refine⟨h.1,λbm gf dJ e6 n fm=>?_⟩;have e:aG.aV bm.1.1 eF bm.1.2.1 bm.1.2.2.1 bm.1.2.2.2=.aV dJ eF e6 n false:=fm;injection e with ax aM cD et eb
  exact et.symm.trans ((h.2 bm gf).2.2 eb))
def awV:=pB Rl mu [(218,.ct J7)] ⟨awU,trivial⟩ func166 P6 (S L (S L (S (S L (B (cg [(1,.aW 1 0),(3,.aW 3 0)] [(1,.cells oN [kI]),(3,.cells eF [dU])] [(1,.aW 100001 0),(3,.aW 100003 0),(15,dU)] [(100001,.cells oN [kI]),(100003,.cells eF [dU])] [] [(100001,.cells oN [kI]),(100003,.cells eF [dU])] L (B ax)))) b7))) aqy
def awW:=mk awV func94 P8 (S L kJ) aqz
def Rn:=mk awW func41 yy aM aqA
def awX:cK:=k7 (au.fx 0 au.Qt)
theorem awY:cS Tryz.prog dE 137 awX:=d_ Rn [] trivial func137 (S L aM) au.arA
def acD:cK:=⟨⟨[(0,.val oN),(1,.hg),(1000000,.aV eF)],[]⟩,⟨[(1000000,.aV eF)],[]⟩,[],2,(HP (rI 10))⟩
theorem awZ:cS Tryz.prog dE 95 acD:=d_ (S:=(HP (rI 10))) Rn [(167,.fb (J6 10))] ⟨Rm 10,trivial⟩ func95 L (λx=>A.le_refl _)
def J8:zJ:=⟨oN,eF,yx,P2⟩
theorem aw0:Db Tryz.prog 95 J8:=UX (c:=acD) awZ mu (ic:=J8) (λx l L=>(x,l,(l,L,[],false),())) rfl (by decide) (by simp[J8])
 (λx l L i=>by
  by_cases aX:i=0
  ·subst aX;exact .inr (.inl ⟨by decide,rfl⟩)
  ·by_cases E:i=1
   ·subst E;exact .inr (.inr (.inl ⟨rfl,rfl⟩))
   ·by_cases U:i=b4
    ·subst U;exact .inr (.inr (.inr ⟨rfl,rfl⟩))
    ·refine .inl ?_;exact (if_neg aX).trans ((if_neg E).trans (if_neg U)))
 rfl (λbm=>⟨_,_,_,_,rfl⟩) (λx l an=>by
  obtain⟨s,aD,ae⟩:=an;subst aD;have h:=aqt s ae l;refine⟨h.1,λbm gf dJ e6 n fm=>?_⟩;have e:aG.aV bm.1.1 eF bm.1.2.1 bm.1.2.2.1 bm.1.2.2.2=.aV dJ eF e6 n false:=fm;injection e with ax aM cD et eb
  exact et.symm.trans ((h.2 bm gf).2.2 eb))
def aw1:=mk Rn func97 PW (S L (J [] [] (S L (B (au [(0,kI),(9,pV),(10,v2),(11,v2)] [] (S L (S ei (J [(0,kI),(9,pV),(10,v2),(11,v2)] [] (B (S L (S L (J [(0,kI),(7,v4),(9,pV),(10,v2),(11,v2)] [] (S L (B (au [(0,kI),(6,.aW 6 0),(7,v4),(9,pV),(10,v2),(11,v2),(20,v2),(21,v2)] [(6,att)] et))) bG)))) L)))))) b7)) ap9
def Ro:=pB aw1 mu [(95,.ct J8)] ⟨aw0,trivial⟩ func42 uG (S L (S L (S bG (S L (S (S L (B (cg [(4,.aW 4 0),(6,.aW 6 0)] [(4,.cells oN [kI]),(6,.cells t2 [v2])] [(4,.aW 100004 0),(6,.aW 100006 0),(21,dU)] [(100004,.cells oN [kI]),(100006,.cells t2 [v2])] [] [(100004,.cells oN [kI]),(100006,.cells t2 [v2])] L (B (S L (S ax (S L ax))))))) (S bG b7)))))) aqB
def aw2:cK:=k7 (au.fx 0 au.Qu)
theorem aw3:cS Tryz.prog dE 138 aw2:=d_ Ro [] trivial func138 (S L aM) au.arB
theorem aw4:∀ k∈[119,120,121,122,123,124,125,126,127,128,129,130,131,132,133,134,135,136,137,138],cS Tryz.prog dE k {Rg with sh:=au.E4 k}:=E8.mem (l:=[119,120,121,122,123,124,125,126,127,128,129,130,131,132,133,134,135,136,137,138]) ⟨avq,avt,avv,avX,av1,av5,awa,awf,awi,awn,awr,awt,awv,awx,awz,awC,awN,awS,awY,aw3,trivial⟩
def acE:cK:=⟨⟨[(0,.aW 100000 0),(1,.val Ns),(2,.val t9)],[(100000,.gb qn)]⟩,⟨[(0,.val t9)],[(100000,.gb qn)]⟩,[none],3,au.JE⟩
theorem aw5:cS Tryz.prog dE 59 acE:=d_ Ro [(999999,.Gl Rg au.E4 [119,120,121,122,123,124,125,126,127,128,129,130,131,132,133,134,135,136,137,138])] ⟨aw4,trivial⟩ func59 (S L (S L (S L (S mF (S L (J [(0,.aW 100000 0),(8,.aW 8 0),(11,.own 48)] [(8,abo),(48,a2),(100000,Ff)] (S L (B (au [(0,.aW 100000 0),(8,.aW 8 0),(11,.own 48),(50,rP),(51,v2),(52,v2)] [(8,abo),(48,a2),(100000,Ff)] (S L (S ei (S (B (S L (S L (S bG L)))) L)))))) b7)))))) au.arW
def Ob:=pB Ro mu [(57,.fb aca),(59,.fb acE)] ⟨avp,aw5,trivial⟩ func20 au.uM (S L (S mF (S bG (S L (J [(4,.own 4),(5,.aW 5 0),(8,.aW 50230 0)] abN (S L (B (au [(4,.own 4),(5,.aW 5 0),(8,.aW 50230 0),(9,atu),(25,rP),(26,v2),(27,v2)] abN et))) b7))))) au.ar3
def aw6:=mk Ob func183 Pz aM ao4
def aw7:=mk aw6 func115 Je aM aqK
def aw8:=mk aw7 func54 au.JF aM au.ar5
def D0:=mk aw8 func17 au.E_ (S L td) au.atd
def aw9:=mk D0 func45 au.JQ (S L (S bG (S L (J [(3,v9)] [] (B (au [(0,v2),(3,v9)] [] (S ax (B b7)))) b7)))) au.as7
def D1:=mk aw9 func18 au.BA (S L (J [(0,v9)] [] (S L (B (au [(0,v9),(1,dU),(5,v2)] [] rQ))) b7)) au.as9
def aw_:=mk D1 func116 vI (S L (S L (S L (S L (J BK [(2,.cells n3 [.cv,.cv,v2,.cv]),(3,.cells n3 [.own 8,.own 59,v2,.own 12]),(8,BI),(12,BG),(59,Fh)] (S L (B (au Q0 abO (S ax (J Q0 abO (B (S L (J [(1,.aW 1 0),(2,.aW 2 0),(3,.aW 3 0),(4,v2),(5,.aW 5 0)] abM (S L (B (au [(1,.aW 1 0),(2,.aW 2 0),(3,.aW 3 0),(4,v2),(5,.aW 5 0),(6,v2)] abM rQ))) L))) L))))) b7))))) Ov
def aw':=mk aw_ func55 Jc (S L (S L (S L (S L (S L (J [(1,.aW 1 0),(2,.aW 2 0),(3,.aW 3 0)] Q2 (S L (B (au Q0 Q2 rQ))) (J BK [(2,.cells t32 [.cv,.cv,v2,.cv,.cv,.cv,.cv,.cv,v2]),(3,.cells t32 [v22,pU,v2,qJ,.own 11,.own 16,.own 20,.own 24,v2]),(11,a2),(16,QU),(20,QT),(24,wI)] (S L (B (au [(1,.aW 1 0),(2,.aW 2 0),(3,.aW 3 0),(5,v2)] Q2 rQ))) b7))))))) aqI
def axa:=mk aw' func56 H.vI td H.Ov
def D2:=mk axa func19 au.Fa aM au.atg
def Oc:=mk D2 func21 au.E' (S L (J [(0,rP),(1,v2)] [] (S L (B (au [(0,rP),(1,v2),(5,v2)] [] eb))) b7)) au.atf
def axb:=mk Oc func62 au.uO (S L (S bG (J [] [] (S L (B (au [(0,dU),(1,dU),(5,v2)] [] eb))) b7))) au.asd
def axc:=mk axb func60 au.JL (S L (S bG (J BK Fi (S L (B (au [(2,.aW 2 0),(3,.aW 3 0),(5,v2)] Fi eb))) (J BK Fi (S L (B (au [(2,.aW 2 0),(3,.aW 3 0),(6,v2)] Fi eb))) (J [] [] (S L (B (au Q1 Fi eb))) b7))))) au.ase
def axd:=mk axc func61 au.JM (S L (S bG (J BK yR (S L (B (au [(2,.aW 2 0),(3,.aW 3 0),(5,v2)] yR eb))) (J BK yR (S L (B (au [(2,.aW 2 0),(3,.aW 3 0),(6,v2)] yR eb))) (J [] [] (S L (B (au Q1 yR (S ax (J Q1 yR (B (S L (S bG (S L (B (au [(2,.aW 2 0),(3,.aW 3 0),(7,v2),(8,QX),(9,QX),(10,v2)] yR eb)))))) L))))) b7))))) au.asf
def Od:=mk axd func22 au.By (S L (S L (S bG (J [(5,.aW 5 0),(6,.aW 6 0)] Fj (S L (B (au [(5,.aW 5 0),(6,.aW 6 0),(7,v2)] Fj yS))) (J [(5,.aW 5 0),(6,.aW 6 0)] Fj (S L (B (au [(5,.aW 5 0),(6,.aW 6 0),(10,v2)] Fj yS))) (J [] [] (S L (B (au [(5,.aW 5 0),(6,.aW 6 0),(13,v2)] Fj eb))) b7)))))) au.asg
theorem acU:h3 Tryz.prog 13 (.az wN eF) t4 (λx=>Pm au.E7.sh au.rO.sh au.E_.sh au.BA.sh au.Fa.sh au.uM.sh au.E'.sh au.By.sh yy.sh uG.sh mB.sh yA.sh x):=HH Od mu (sp:=[]) trivial func13 (ann:=(S L (S bG (S L (S L (J J0 wL (S L (B (au [(1,dU),(2,.aW 2 0),(5,.aW 5 0),(6,.own 6),(7,v2)] wL rQ))) (J J0 wL (S L (B (au [(1,dU),(2,.aW 2 0),(5,.aW 5 0),(6,.own 6),(8,v2)] wL rQ))) (J J0 wL (S L (B (au [(1,dU),(2,.aW 2 0),(5,.aW 5 0),(6,.own 6),(9,v2)] wL (S ax (S (B b7) L))))) (J J0 wL (S L (B (au [(1,dU),(2,.aW 2 0),(5,.aW 5 0),(6,.own 6),(11,v2)] wL (S ax (S (B b7) L))))) (S L (S L (S L (S L (S bG Q4)))))))))))))) (λx=>A.le_refl _) (by kernel_rfl) λx=>by kernel_rfl
end
end Go.Fer.om
namespace Go.Fer.om
open Go Go.Proofs
theorem acR{H:Type}{enc:TypeId×Value->H}{a:Assume}{C:Checked}{os:Os}{f:FuncId}{fn:Func}{s:ChangeSpec}{conds:List PathCond}{apart Gj handsOn again:Bool}{X:World->Array Value->Prop}
  (zW:∀ (w w':World) (args:Array Value),w.heap=w'.heap->X w args->X w' args)
  (own:ownKnob C.prog.godebug=none) (started:os.Started) (axe:C.prog.inits.idxOf? f=none) (tf:C.prog.funcs[f]?=some fn)
  (witness:∃ (w:World) (tape:Tape) (i:Input),w.os=os/\(w.forCall tape i).Shaped C.prog/\i.vars=[]/\Input.okWide C.prog (w.forCall tape i) .any w.heap.size f i/\
   ((s.pre enc C.prog fn conds apart (w.forCall tape i).memory i.args/\X (w.forCall tape i).memory i.args)/\sizedMet enc C.prog fn (OpenSpec.ofChange s) apart (w.forCall tape i).memory i.args)/\a.holds C.prog (lone (Frame.enter C.prog f i.args .normal) [] (w.forCall tape i)))
  (axf:∀ (au:World) (base:Nat) (args:Array Value) (bh gs:List (DataW H)) (before:List MemPlace),(∀ (j:Nat) t v,fn.params[j]?=some t->args[j]?=some v->Value.okWide C.prog au .any base t v)->
   DataW.Whole enc C.prog fn.params.toList s.vars apart au args.toList bh gs before->
   au.ShapedOpen C.prog->X au args->
   Calls C.prog f args au λe qj=>∃ v,e=.returned v/\s.post enc C.prog fn apart Gj handsOn again au args v qj) :
  ReturnsInHanded a C os f .any (λw args=>(s.pre enc C.prog fn conds apart w args/\X w args)/\sizedMet enc C.prog fn (OpenSpec.ofChange s) apart w args) (s.post enc C.prog fn apart Gj handsOn again):=by
 refine returnsInHanded_of_calls own started axe witness ?_;intro w tape i _ nF _ cL gJ ayF;obtain⟨_,_,_,axg,axh,_,_,_,_,xT⟩:=cL;have e:axg=fn:=Option.some.inj (axh.symm.trans tf);subst e;obtain⟨⟨⟨bh,gs,before,hw,hc⟩,ag⟩,bk⟩:=gJ;have C4:=DataW.Whole.of_heap (w':=w.forCall tape i) (by rfl) hw;refine (axf (w.forCall tape i) w.heap.size i.args bh gs before xT C4 nF (zW (w.forCall tape i).memory (w.forCall tape i) i.args rfl ag)).mono λe qj ⟨v,he,an⟩=>?_;subst he;exact ChangeSpec.post_blind an
theorem J_{P:Program}{w:World}:∀ {l:List (String×DataW Unit)} {ps:List MemPlace},DataW.LaidVars P w l ps->∀ n d,(n,d)∈l->∃ g t cs cj p,P.globalNamed n=some g/\(P.globals[g]?).map (·.type)=some t/\w.var? P n=some cs/\DataW.trod (λ_=>()) P w 0 (λ_=>true) false cj t cs.toList=some (d,p)
 | [],_,_,_,_,hm=>by cases hm
 | (iZ,uX)::r,ps,h,n,d,hm=>by
  obtain⟨g,t,cs,cj,p,q,E,U,ah,a1,bK,_⟩:=h;rcases List.mem_cons.1 hm with e | e
  ·cases e;exact⟨g,t,cs,cj,p,E,U,ah,a1⟩
  ·exact J_ bK n d e
theorem acQ{P:Program}{w:World}{n:String}{g:Nat}{t:TypeId}{d:DataW Unit}{cj:Nat}{cs:Array Value}{p:List MemPlace}(aB:P.globalNamed n=some g)(ae:w.var? P n=some cs)(hu:∃ ms,P.underlying t=some (.interface ms))
  (h:DataW.trod (λ_=>()) P w 0 (λ_=>true) false cj t cs.toList=some (d,p)):∃ v,w.cell? ⟨g,0,none⟩=some v/\(v=.nilIface\/∃ lG l9,v=.iface lG l9):=by
 obtain⟨ms,hu⟩:=hu;have hc:w.cell? ⟨g,0,none⟩=cs[0]?:=by
  unfold World.var? at ae;rw[aB]at ae;simp only[Option.bind_some]at ae;cases af:w.heap[g]? with
  | none=>rw[af]at ae;cases ae
  | some o=>
   rw[af]at ae;cases o with
   | cells a T sM=>cases ae;simp[World.cell?,af]
   | _=>cases ae
 have aH:cs[0]?=cs.toList[0]?:=by simp
 rw[hc,aH];generalize cs.toList=l at h;cases cj with
 | zero=>simp[DataW.trod]at h
 | succ cj=>
  match l with
  | []=>simp[DataW.trod,hu]at h
  | [.nilIface]=>exact⟨_,rfl,.inl rfl⟩
  | [.iface u v]=>exact⟨_,rfl,.inr ⟨u,v,rfl⟩⟩
  | _::_::_=>simp[DataW.trod,hu]at h
  | [x]=>cases x<;>first | exact⟨_,rfl,.inl rfl⟩ | exact⟨_,rfl,.inr ⟨_,_,rfl⟩⟩ | (simp[DataW.trod,hu]at h;done)
theorem axi:((List.range 8).all λb=>(((begin Tryz.prog (λ_ _=>0) default).world.heap[b]?).bind Obj.row?).isSome)=true:=by kernel_rfl
theorem acW{au : World}(h : au.ShapedOpen Tryz.prog)(E : ∃ v, au.cell? ⟨1, 0, none⟩ = some v /\ (v = .nilIface \/ ∃ lG l9, v = .iface lG l9))(U : ∃ v, au.cell? ⟨2, 0, none⟩ = some v /\ (v = .nilIface \/ ∃ lG l9, v = .iface lG l9))(aH : Lib.TabIs Tryz.prog au "internal/strconv.uint64pow10" .u64 Lib.pow10Tab) : nH Tryz.prog (ql au) au := λb W => by
 have ix:b<8:=Nat.lt_of_lt_of_le W (of_decide_eq_true (by kernel_rfl));refine⟨?_,?_⟩
 ·have M:=List.all_eq_true.1 axi b (List.mem_range.2 ix);obtain⟨⟨zero,t⟩,bk⟩:=Option.isSome_iff_exists.1 M;obtain⟨cs,cW,_⟩:=h.1 b zero t W bk;exact (Array.getElem?_eq_some_iff.1 cW).1
 ·match b,W,ix with
  | 0,W,_=>exact cell_of_shapedOpen_int (t:=3) (zero:=#[.int .i64 0]) h W (by kernel_rfl) rfl (by kernel_rfl) (by kernel_rfl) Tryz.underlying3
  | 1,_,_=>exact E
  | 2,_,_=>exact U
  | 3,_,_=>trivial
  | 4,_,_=>trivial
  | 5,_,_=>
   show ∀ i,au.cell? ⟨5,i,none⟩=if i<20 then some (.int .u64 (10 ^ i)) else none
   unfold Lib.TabIs World.var? at aH;rw[show Tryz.prog.globalNamed "internal/strconv.uint64pow10" = some 5 by kernel_rfl]at aH;change (match au.heap[5]? with | some (.cells cs _ _)=>some cs | _=>none)=_ at aH;intro i;cases af:au.heap[5]? with
   | none=>rw[af]at aH;cases aH
   | some o=>
    rw[af]at aH;cases o with
    | cells cs T sM=>
     simp only[Option.some.injEq]at aH;simp only[World.cell?,af,aH];simp only[Option.isSome_none,Bool.false_eq_true,if_false,List.getElem?_toArray,List.getElem?_map,Lib.pow10Tab];split
     ·rename_i Bz;rw[List.getElem?_range Bz];simp
     ·rename_i Bz;rw[List.getElem?_eq_none (by simp;omega)];rfl
    | _=>cases aH
  | 6,_,_=>trivial
  | 7,_,_=>trivial
end Go.Fer.om
