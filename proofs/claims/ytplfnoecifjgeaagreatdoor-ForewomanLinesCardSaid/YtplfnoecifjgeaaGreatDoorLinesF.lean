/- Part 6 of the proof of Lines: shallow programs of Go functions, and what they compute. No condition. -/
import Derived.Test.YtplfnoecifjgeaaGreatDoorLinesE
import Derived.Lib.AtoiAll
import Derived.Lib.ItoaLen
import Derived.Lib.Join
noncomputable section
set_option linter.unusedVariables false
set_option linter.unusedSimpArgs false
namespace Go.Fer
def tB(s:aS)(n:Int):Bool:=decide (0<=n)&&decide (n<(s.2.2.2.1.length:Int))
def u3(s:aS)(n:Int):Bool:=decide (0<=n)&&decide (n<(s.2.2.1.length:Int))
theorem ae9{s:aS}{n:Int}:tB s n=true<->0<=n/\n<(s.2.2.2.1.length:Int):=by simp[tB]
theorem ae_{s:aS}{n:Int}:u3 s n=true<->0<=n/\n<(s.2.2.1.length:Int):=by simp[u3]
abbrev Dd:aF:=⟨.ar hE bp,dm,λx=>eN x.1,λx=>tB x.1 x.2⟩
abbrev De:aF:=⟨.ar hE bp,dm,λx=>eN x.1,λx=>u3 x.1 x.2⟩
theorem awK(x):aR (aao cS.sh x) (Dd.sh x):=bg λh=>by
 have af:=h.2.2.2.1;have hw:=bc (n:=(x.1.2.2.2.1.length:Int) - 1) (by omega) (by omega);unfold aao aB cu;simp[aF.sh,cS,hw,tB,uX]
theorem awL(x):aR (aay cS.sh x) (Dd.sh x):=bg λh=>by
 have af:=h.2.2.2.1;have hw:=bc (n:=(x.1.2.2.2.1.length:Int) - 1) (by omega) (by omega);unfold aay aB cu;simp[aF.sh,cS,hw,tB,uX]
theorem awM(x):aR (aaw cS.sh x) (De.sh x):=bg λh=>by
 have af:=h.2.2.1;have hw:=bc (n:=(x.1.2.2.1.length:Int) - 1) (by omega) (by omega);unfold aaw aB cu;simp[aF.sh,cS,hw,u3,uX]
theorem awN(x):aR (aaq cS.sh x) (De.sh x):=bg λh=>by
 have af:=h.2.2.1;have hw:=bc (n:=(x.1.2.2.1.length:Int) - 1) (by omega) (by omega);unfold aaq aB cu;simp[aF.sh,cS,hw,u3,uX]
def n8(x:jQ)(p:lZ):Int:=if (!x.1.contains p.1||!cg p.2.1 x.2.1.1 x.2.1.2)=true then 0 else if p.2.2.1=x.2.2.1 then 1 else if p.2.2.1=0 then 2 else 0
abbrev qz:aF:=⟨.ar oR oQ,bp,λx=>x.1.1.length<2 ^ 63,λx=>n8 x.1 x.2⟩
theorem awO(x):aR (aax cS.sh i'.sh x) (qz.sh x):=bg λh=>by
 unfold aax b3 aG;simp only[aF.sh,cS,i',ed,lr,aKl,bS,uA];rw[bb (by exact h)];show _=mpure (n8 x.1 x.2);unfold n8 cg;grind
theorem awP(x):aR (aaz cS.sh x) (qz.sh x):=bg λh=>by
 obtain⟨w,p⟩:=x;change w.1.length<2 ^ 63 at h;unfold aaz cR b3 aL aG aQ aB bj a7 ay;rw[db w.1 (λi (b:Bool)=>(b,(i:Int),w,p,())) (λc b=>.next (b||decide (c=p.1))) (λb=>.next (b,w,p,())) false ?_ ?_ ?_]
 ·rw[cU];have e:∀ (l:z1') (b:Bool),l.foldl (λb c=>b||decide (c=p.1)) b=(b||l.contains p.1):=by
   intro l;induction l with
   | nil=>simp
   | cons c l aP=>
    grind
  rw[e];simp only[aKZ,aH,cp,aF.sh,cS,lr,ed,aKl,bS,uA];show _=mpure (n8 w p);unfold n8 cg;grind
 ·rfl
 ·intro i D b;have hw:=bc (n:=(i:Int)+1) (by omega) (by omega);simp_all
 simp
def qA(s:aS)(l:z1')(i:Nat):Bool:=decide (l.getD i 0=-1)||(u3 s (l.getD i 0)&&!(l.take i).contains (l.getD i 0))
def oT(s:aS)(l:z1'):Bool:=((List.range l.length).all (qA s l))&&decide ((l.length:Int)=(s.2.2.2.1.length:Int))
abbrev As:aF:=⟨.ar hE dV,dm,λx=>eN x.1/\x.2.length<2 ^ 63,λx=>oT x.1 x.2⟩
theorem awQ(x):aR (aaE De.sh i'.sh x) (As.sh x):=bg λh=>by
 obtain⟨s,l⟩:=x;obtain⟨az,af⟩:=h;change eN s at az;change l.length<2 ^ 63 at af;unfold aaE b3 aL aG aQ aB bj b_ a7 ay a6;rw[db (List.range l.length) (λi (_:Unit)=>(l,l,(l.length:Int),(i:Int),s,())) (λi b=>if (!qA s l i)=true then .done (.done false) else .next b) (λ_=>.next (l,s,())) () ?_ ?_ ?_]
 ·rw[j9 (q:=qA s l) _ _ (λ_=>rfl)];show _=mpure (oT s l);unfold oT;cases (List.range l.length).all (qA s l)<;>simp
 ·simp
 ·intro i D b;have D:i<l.length:=by grind
  have hw:=bc (n:=(i:Int)+1) (by omega) (by omega);obtain⟨aN,jF⟩:∃ aN,l.getD i 0=aN:=⟨_,rfl⟩
  have cJ:qA s l i=(decide (aN=-1)||(u3 s aN&&!(l.take i).contains aN)):=by unfold qA;rw[jF]
  simp only[ch,cT D,if_true,aJ6,cE D,bS,aF.sh,ed,lr,ajr,jF];rw[bb (by grind),bb,bb]
  ·simp only[aH,cy,hw,qA,jF];by_cases E:aN=-1
   ·simp_all
   ·cases M:u3 s aN<;>cases ai:(l.take i).contains aN<;>simp[E,M,ai,bq.ls]
  ·intro _;show (l.take i).length<2 ^ 63;rw[aLk];omega
  ·intro dt;exact⟨⟨dt,trivial,dt⟩,⟨by omega,by omega,by omega⟩,trivial⟩
 simp
theorem awR(x):aR (aad De.sh x) (As.sh x):=bg λh=>by
 obtain⟨s,l⟩:=x;obtain⟨az,af⟩:=h;change eN s at az;change l.length<2 ^ 63 at af;unfold aad cR eM aL b1 bN aG aQ aB bj b_ e9 a7 ay a6 kJ;rw[db (List.range l.length) (λi (_:Unit)=>(l,(i:Int),s,())) (λi b=>if (!qA s l i)=true then .done (.done false) else .next b) (λ_=>.next (l,s,())) () ?_ ?_ ?_]
 ·rw[j9 (q:=qA s l) _ _ (λ_=>rfl)];show _=mpure (oT s l);unfold oT;cases (List.range l.length).all (qA s l)<;>simp
 ·simp
 ·intro i D b;have D:i<l.length:=by grind
  have hw:=bc (n:=(i:Int)+1) (by omega) (by omega);obtain⟨aN,jF⟩:∃ aN,l.getD i 0=aN:=⟨_,rfl⟩
  have cJ:qA s l i=(decide (aN=-1)||(u3 s aN&&!(l.take i).contains aN)):=by unfold qA;rw[jF]
  simp only[ch,cT D,if_true,aJ6,cE D,bS,aF.sh,lY,fZ,ajr,jF,az,aLg,aK0,aKH,aLY];by_cases E:aN=-1
  ·simp only[E,ne_eq,not_true,aKe,aLB,ajh,ajq];rw[db (List.range i) (λk (_:Unit)=>(l,(i:Int),(k:Int),s,())) (λk b=>.next b) (λ_=>.next (l,(i:Int),s,())) () ?_ ?_ ?_]
   ·rw[cU];simp_all
   ·rfl
   ·intro k ah b;have ah:k<i:=by grind
    have sk:k<l.length:=by omega
    have kM:=bc (n:=(k:Int)+1) (by omega) (by omega);simp_all
   simp
  ·cases M:u3 s aN
   ·simp_all
   ·simp only[E,ne_eq,not_false_iff,aKP,aKo,Bool.and_false,ajh,ajq];rw[db (List.range i) (λk (_:Unit)=>(l,(i:Int),(k:Int),s,())) (λk b=>if decide (l.getD k 0=aN)=true then .done (.done (.done (.done false))) else .next b) (λ_=>.next (l,(i:Int),s,())) () ?_ ?_ ?_]
    ·rw[n2];have e:((List.range i).any λk=>decide (l.getD k 0=aN))=(l.take i).contains aN:=by
      rw[aKW];simp only[aLE,aKR,ajl,aK8,List.mem_take_iff_getElem];constructor
      ·grind
      ·rintro⟨k,ah,e⟩;exact⟨k,by omega,by grind⟩
     rw[e];rw[cJ];cases ai:(l.take i).contains aN<;>simp only[E,M,bq.ls,hw,aKo,Bool.and_false,Bool.and_true,aKF,Bool.or_self,aKZ,aKe,Bool.or_true,ajh,ajq,if_true,aH,tl,cp,cy]<;>rfl
    ·rfl
    ·intro k ah b;have ah:k<i:=by grind
     have sk:k<l.length:=by omega
     have kM:=bc (n:=(k:Int)+1) (by omega) (by omega);simp only[cT ah,if_true,aJ6,ajr,jF,cE D,cE sk,bS,E,ne_eq,not_false_iff,aKP,Bool.and_true,aLg,aK0,aKH,aLY,cy,kM,aH];exact lu (mk:=λ_:Unit=>(l,(i:Int),(k:Int)+1,s,()))
    simp
 simp
def fJ(s:aS)(cv:Bool):Int:=if ke s≠0 then ke s else if cv=false then 1 else dF s.1 true
theorem ae'{s:aS}(h:ke s=0):cA s.1=0/\qy s=true:=by
 unfold ke at h;grind
theorem oU{s:aS}{cv:Bool}(h:fJ s cv=0):ke s=0/\cv=true/\dF s.1 true=0/\u0 s.1=true:=by
 unfold fJ at h;by_cases he:ke s=0
 ·rw[if_neg (by omega)]at h;cases cv with
  | false=>grind
  | true=>
   simp only[aLq,ajq]at h;exact⟨he,rfl,h,(C9 h).2.2⟩
 omega
structure fg(s:aS):Prop where
 fB:eN s
 uU:mv s.1
 tC:s.2.1.length=s.1.1.length
 b9:∀ n∈s.2.1,0<=n/\n<=10
 wM:s.2.2.1.length<=8
 awS:∀ p∈s.2.2.1,u1 s.1 p=true
 nc:s.2.2.2.1.length<=6
 afa:∀ x∈s.2.2.2.1,tz x=true
 GY:s.2.2.2.2.1.length<=8
 Lk:∀ d∈s.2.2.2.2.1,qx s.1 d=true
 afb:0<=s.2.2.2.2.2/\s.2.2.2.2.2<=99
theorem qB{s:aS}(az:eN s)(h:ke s=0):fg s:=by
 obtain⟨E,M⟩:=ae' h;simp only[qy,ajm,ajl,aKu,cg,lA]at M;obtain⟨⟨⟨⟨⟨⟨⟨⟨aY,a_⟩,b7⟩,hg⟩,p7⟩,zu⟩,JR⟩,FL⟩,PE⟩:=M;exact⟨az,⟨az.1,GK E⟩,by omega,a_,by omega,hg,by omega,zu,by omega,FL,PE⟩
theorem fg.Au{s:aS}(h:fg s):s.1.1.length<=10:=(yc h.uU.2).1
def tD(w:bL)(t:z5')(q:Int×Int×Int):z5':=if rl w q.1 q.2.1 q.2.2=1 then xG t q (IntKind.i64.wrap ((l4 t q).getD 0+1)) else t
def afc(w:bL)(i m:Nat)(t:z5'):z5':=(List.range (jq w (m:Int)).length).foldl (λt (k:Nat)=>tD w t ((i:Int),(m:Int),(k:Int))) t
def SQ(w:bL)(i:Nat)(t:z5'):z5':=(List.range w.2.1.length).foldl (λt m=>afc w i m t) t
def rq(w:bL)(n:Nat):z5':=(List.range n).foldl (λt i=>SQ w i t) []
def l6(p:Int×Int)(n:Int):z3':=List.replicate n.toNat p
def Df(l:z1'):z3':=(List.range l.length).flatMap λ(i:Nat)=>l6 ((i:Int),0) (l.getD i 0)
def SR(l:List fM):z3':=l.flatMap λd=>l6 (d.2.1,d.1) d.2.2
def yj(s:aS):z3':=Df s.2.1++SR s.2.2.2.2.1
def dw(s:aS):fu:=(s,yj s,rq s.1 s.2.1.length)
def Av(s:aS)(cv:Bool):Option fu×Int:=if fJ s cv≠0 then (none,fJ s cv) else (some (dw s),0)
theorem Ll{ag bet:Type}(f:ag->List bet):∀ (l:List ag) (b:List bet),l.foldl (λb x=>b++f x) b=b++l.flatMap f
 | [],b=>by simp
 | x::l,b=>by rw[aKd,Ll f l,aKG,aK1]
abbrev awT:aa:=.ae (.ar bp (.ar bp bp))
abbrev yk:aa:=.bV (.ae (.ar hE (.ar (.slice Li) (.map awT bp))))
abbrev Dg:aF:=⟨.ar hE dm,.ar yk bp,λx=>eN x.1,λx=>Av x.1 x.2⟩
theorem awU(s:aS)(cv:Bool)(az:eN s):QU oS.sh C_.sh tx.sh Lj.sh (s,cv)=mpure (Av s cv):=by
 unfold QU bU gC aL b1 aG aQ aB bj a7 hU ay a6 bT Av fJ;simp only[aF.sh,ed,bb az];by_cases he:ke s=0
 ·have ab:=qB az he;simp only[he,ne_eq,not_true,aKe,ajh,ajq];cases cv with
  | false=>simp
  | true=>
   simp only[aKo,ajh,ajq,aLq];refine Eq.trans (congrArg (λm=>ao m _) (show _=(if dF s.1 true≠0 then mpure (bq.done ((none:Option fu),dF s.1 true)) else mpure (bq.next (s,([]:z5'),s.1.1,s.1.2.1,s.1.2.2.1,s.1.2.2.2,s.2.1,s.2.2.1,s.2.2.2.1,s.2.2.2.2.1,s.2.2.2.2.2,()))) from ?_)) ?_
   ·by_cases bD:s.2.1.length=0
    ·have aT:dF s.1 true=0:=by
      unfold dF;have aZ:s.1.1.length=0:=by rw[<-ab.tC];exact bD
      have:u0 s.1=true:=by unfold u0;grind
      simp[(ae' he).1,this]
     grind
    ·have E:decide (Int.ofNat (List.length s.2.1) > 0)=true:=by grind
     have M:fP s.1 0=true:=by rw[qv];have:=ab.tC;omega
     rw[if_pos E,bb az.1];unfold ye;rw[M];by_cases ah:dF s.1 true=0
     ·simp[ah]
     ·simp[ah]
   by_cases SS:dF s.1 true=0
   ·simp only[SS,ne_eq,not_true,ajq,aH,cp];have aJz:=ab.Au;have eG:=ab.tC;have SU:s.1.2.1.length<=6:=(yc ab.uU.2).2.1;rw[db (List.range s.2.1.length) (λi t=>((s.2.1.length:Int),(i:Int),s,t,s.1.1,s.1.2.1,s.1.2.2.1,s.1.2.2.2,s.2.1,s.2.2.1,s.2.2.2.1,s.2.2.2.2.1,s.2.2.2.2.2,())) (λi t=>.next (SQ s.1 i t)) (λt=>.next (s,t,s.1.1,s.1.2.1,s.1.2.2.1,s.1.2.2.2,s.2.1,s.2.2.1,s.2.2.2.1,s.2.2.2.2.1,s.2.2.2.2.2,())) [] ?_ ?_ ?_]
    ·rw[cU];simp only[aH,cp];rw[d' (List.range s.2.1.length) (λi acc=>(s.2.1,(s.2.1.length:Int),(i:Int),s,rq s.1 s.2.1.length,s.1.1,s.1.2.1,s.1.2.2.1,s.1.2.2.2,s.2.1,s.2.2.1,s.2.2.2.1,s.2.2.2.2.1,s.2.2.2.2.2,acc,())) (λi acc=>.next (acc++l6 ((i:Int),0) (s.2.1.getD i 0))) (λacc=>.next (s,rq s.1 s.2.1.length,s.1.1,s.1.2.1,s.1.2.2.1,s.1.2.2.2,s.2.1,s.2.2.1,s.2.2.2.1,s.2.2.2.2.1,s.2.2.2.2.2,acc,())) (λi acc=>acc.length<=10*i) [] ?_ ?_ ?_ ?_]
     ·rw[cU,Ll];simp only[aH,cp,aKw];have h5:(Df s.2.1).length<=100:=by
       have:∀ (l:List Nat),(∀ i∈l,i<s.2.1.length)->(l.flatMap λ(i:Nat)=>l6 ((i:Int),0) (s.2.1.getD i 0)).length<=10*l.length:=by
        intro l;induction l with
        | nil=>simp
        | cons i l aP=>
         intro af;have E:=aP λj aI=>af j (by grind);have M:=af i (by simp);have ai:=ab.b9 _ (ajj M);have jF:s.2.1.getD i 0=s.2.1[i]:=by grind
         rw[aKG,aKx,aKN,jF];simp only[l6,aKL];simp only[l6]at E;omega
       have:=this (List.range s.2.1.length) (λi D=>by grind);rw[aLP]at this;unfold Df;omega
      rw[d' s.2.2.2.2.1 (λi acc=>(s.2.2.2.2.1,(s.2.2.2.2.1.length:Int),(i:Int),rq s.1 s.2.1.length,s.1.1,s.1.2.1,s.1.2.2.1,s.1.2.2.2,s.2.1,s.2.2.1,s.2.2.2.1,s.2.2.2.2.1,s.2.2.2.2.2,acc,())) (λd acc=>.next (acc++l6 (d.2.1,d.1) d.2.2)) (λacc=>.next (rq s.1 s.2.1.length,s.1.1,s.1.2.1,s.1.2.2.1,s.1.2.2.2,s.2.1,s.2.2.1,s.2.2.2.1,s.2.2.2.2.1,s.2.2.2.2.2,acc,())) (λi acc=>acc.length<=100+10*i) (Df s.2.1) ?_ ?_ ?_ ?_]
      ·rw[cU,Ll,aH,cp];rfl
      ·rfl
      ·omega
      ·intro i D acc wJ;have bU:=ab.GY;have gy:=bc (n:=(i:Int)+1) (by omega) (by omega);have an:=ab.Lk _ (ajj D);have Fs:1<=s.2.2.2.2.1[i].2.2/\s.2.2.2.2.1[i].2.2<=10:=by
        simp only[qx,cg,ajm,ajl]at an;omega
       have hlen:(l6 (s.2.2.2.2.1[i].2.1,s.2.2.2.2.1[i].1) s.2.2.2.2.1[i].2.2).length<=10:=by simp only[l6,aKL];omega
       have ix:bW (acc.length+(l6 (s.2.2.2.2.1[i].2.1,s.2.2.2.2.1[i].1) s.2.2.2.2.1[i].2.2).length):=by unfold bW;omega
       refine⟨?_,λbl V=>?_⟩
       ·simp only[ch,cT D,if_true,c_ D,cE D,bS,lY,fZ,cy,mY,gy];rw[bb (by grind),bb (by exact ix)];rfl
       grind
      simp
     ·rfl
     ·simp
     ·intro i D acc wJ;have D:i<s.2.1.length:=by grind
      have gy:=bc (n:=(i:Int)+1) (by omega) (by omega);have jF:s.2.1.getD i 0=s.2.1[i]:=by grind
      have Fs:=ab.b9 _ (ajj D);have hlen:(l6 ((i:Int),0) s.2.1[i]).length<=10:=by simp only[l6,aKL];omega
      have ix:bW (acc.length+(l6 ((i:Int),0) s.2.1[i]).length):=by unfold bW;omega
      refine⟨?_,λbl V=>?_⟩
      ·simp only[ch,cT D,if_true,c_ D,cE D,bS,lY,fZ,cy,mY,gy,aJ6,jF];rw[bb (by grind),bb (by exact ix)];rfl
      grind
     simp
    ·simp
    ·intro i D t;have D:i<s.2.1.length:=by grind
     have gy:=bc (n:=(i:Int)+1) (by omega) (by omega);simp only[ch,cT D,if_true,aJ6];rw[db (List.range s.1.2.1.length) (λm t=>((i:Int),(s.2.1.length:Int),(i:Int),s.1.2.1,(s.1.2.1.length:Int),(m:Int),s,t,s.1.1,s.1.2.1,s.1.2.2.1,s.1.2.2.2,s.2.1,s.2.2.1,s.2.2.2.1,s.2.2.2.2.1,s.2.2.2.2.2,())) (λm t=>.next (afc s.1 i m t)) (λt=>.next ((s.2.1.length:Int),(i:Int),s,t,s.1.1,s.1.2.1,s.1.2.2.1,s.1.2.2.2,s.2.1,s.2.2.1,s.2.2.2.1,s.2.2.2.2.1,s.2.2.2.2.2,())) t ?_ ?_ ?_]
     ·rw[cU];simp only[aH,cp,cy,gy];rfl
     ·rfl
     ·intro m hm t;have hm:m<s.1.2.1.length:=by grind
      have Lm:=bc (n:=(m:Int)+1) (by omega) (by omega);have awV:s.1.2.1[m]=jq s.1 (m:Int):=by simp[jq,aJ7,hm]
      simp only[ch,cT hm,if_true,aJ6,cE hm,bS,c_ hm,awV];have GJ:=KZ az.1 (m:Int);rw[db (List.range (jq s.1 (m:Int)).length) (λk t=>((i:Int),(m:Int),(s.2.1.length:Int),(i:Int),s.1.2.1,(s.1.2.1.length:Int),(m:Int),((jq s.1 (m:Int)).length:Int),(k:Int),s,t,s.1.1,s.1.2.1,s.1.2.2.1,s.1.2.2.2,s.2.1,s.2.2.1,s.2.2.2.1,s.2.2.2.2.1,s.2.2.2.2.2,())) (λk t=>.next (tD s.1 t ((i:Int),(m:Int),(k:Int)))) (λt=>.next ((i:Int),(s.2.1.length:Int),(i:Int),s.1.2.1,(s.1.2.1.length:Int),(m:Int),s,t,s.1.1,s.1.2.1,s.1.2.2.1,s.1.2.2.2,s.2.1,s.2.2.1,s.2.2.2.1,s.2.2.2.2.1,s.2.2.2.2.2,())) t ?_ ?_ ?_]
      ·rw[cU];simp only[aH,cp,cy,Lm];rfl
      ·rfl
      ·intro k ah t;have ah:k<(jq s.1 (m:Int)).length:=by grind
       have kM:=bc (n:=(k:Int)+1) (by omega) (by omega);have oD:fP s.1 (i:Int)=true:=by rw[qv];omega
       have awW:h8 s.1 (m:Int) (k:Int)=true:=by rw[Am];omega
       have aw:kc s.1 (i:Int) (m:Int) (k:Int)=(rl s.1 (i:Int) (m:Int) (k:Int),0):=by simp[kc,oD,awW,SS]
       simp only[cT ah,if_true,aJ6];simp only[aw,bb az.1,ajl];by_cases E:rl s.1 (i:Int) (m:Int) (k:Int)=1
       ·simp only[E,if_true,aKH,bS,aH,cp,cy,kM,bq.ls,tD];rfl
       ·simp only[E,ajq,aH,cp,cy,kM,bq.ls,tD];rfl
      simp
     simp
    simp
   ·simp[SS]
 grind
theorem awX(x):aR (QU oS.sh C_.sh tx.sh Lj.sh x) (Dg.sh x):=bg λh=>awU x.1 x.2 h
theorem awY{p:Int->Bool}{l:z1'}(h:mw p l=true):∀ x∈l,p x=true:=by
 intro x al;obtain⟨i,D,rfl⟩:=List.mem_iff_getElem.1 al;unfold mw at h;simp_all
theorem awZ{p:Int->Bool}{l:z1'}(h:mw p l=true):l.Pairwise (·<·):=by
 unfold mw at h;have key:∀ j i,i<j->j<l.length->l.getD i 0<l.getD j 0:=by
  intro j;induction j<;>grind
 rw[List.pairwise_iff_getElem];grind
theorem Aw{s:aS}(ab:fg s){p:lZ}(aq:p∈s.2.2.1):su s.1 p.2.2.2.1=true/\p.2.2.2.2.length<=4/\∀ k∈p.2.2.2.2,h8 s.1 p.2.2.2.1 k=true:=by
 have h:=ab.awS p aq;simp  [u1]at h;obtain⟨⟨_,hm⟩,U⟩:=h;have gl:∀ k∈p.2.2.2.2,h8 s.1 p.2.2.2.1 k=true:=λk ah=>by
  have:=awY U k ah;rw[Am];simp  [Lb,ajl]at this;exact⟨Sv.1 hm,this⟩
 refine⟨hm,?_,gl⟩;have aw0:=awZ U;have EI:p.2.2.2.2.Nodup:=aw0.imp λh e=>by omega
 cases V:p.2.2.2.2 with
 | nil=>simp
 | cons k l=>
  rw[<-V];have bf:=avo ab.uU.2 (gl k (by grind));have:=aeZ (jq s.1 p.2.2.2.1).length p.2.2.2.2 EI λk ah=>by
   have:=Am.1 (gl k ah);omega
  omega
abbrev rr:Type:=Int×Int×Int
abbrev aw1:jQ:=([],(0,0),0,0,0)
abbrev aw2:lZ:=(0,0,0,0,[])
abbrev Ax:fu:=((([],[],0,[]),[],[],[],[],0),[],[])
def h9(s:aS)(i:Int):jQ:=s.2.2.2.1.getD i.toNat aw1
def h_(s:aS)(i:Int):lZ:=s.2.2.1.getD i.toNat aw2
def nd(s:aS)(x:jQ)(p:lZ):Option Int:=if n8 x p=0 then none else if (if n8 x p=2 then x.2.2.2.1 - s.2.2.2.2.2 else x.2.2.2.1)<0 then none else some (if n8 x p=2 then x.2.2.2.1 - s.2.2.2.2.2 else x.2.2.2.1)
def l7(s:aS)(bm:z1')(i:Nat):Option (List rr):=if bm.getD i 0<0 then some [] else (nd s (h9 s (i:Int)) (h_ s (bm.getD i 0))).map λd=>(h_ s (bm.getD i 0)).2.2.2.2.map λk=>((h_ s (bm.getD i 0)).2.2.2.1,k,d)
def iH(s:aS)(bm:z1'):List rr×Bool:=if ((List.range bm.length).all λi=>(l7 s bm i).isSome)=true then ((List.range bm.length).flatMap λi=>(l7 s bm i).getD [],true) else ([],false)
def jc(s:aS)(bm:z1'):Prop:=bm.length<=s.2.2.2.1.length/\∀ p∈bm,p<(s.2.2.1.length:Int)
def pG(o:Option fu):aS:=(o.getD Ax).1
def yl(o:Option fu)(s:aS):Prop:=o=some (dw s)/\fg s
theorem ym{s:aS}{i:Nat}(h:i<s.2.2.2.1.length):h9 s (i:Int)∈s.2.2.2.1:=by
 simp[h9,h]
theorem GZ{s:aS}{i:Int}(aZ:0<=i)(h:i<(s.2.2.1.length:Int)):h_ s i∈s.2.2.1:=zP aZ h
theorem Dh{s:aS}(ab:fg s){x:jQ}(al:x∈s.2.2.2.1):(0<=x.2.2.2.1/\x.2.2.2.1<=99)/\(0<=x.2.2.2.2/\x.2.2.2.2<=100000):=by
 have:=ab.afa x al;simp  [tz,lA,cg,ajl]at this;omega
theorem afd{s:aS}(ab:fg s){bm:z1'}(aq:jc s bm){i:Nat}(D:i<bm.length){l:List rr}(h:l7 s bm i=some l):l.length<=4:=by
 unfold l7 at h;split at h
 ·grind
 ·rw[aKt]at h;obtain⟨d,_,rfl⟩:=h;rw[aKD];have hm:bm.getD i 0∈bm:=by grind
  exact (Aw ab (GZ (by omega) (aq.2 _ hm))).2.1
def Ay{ag bet rho:Type}(f:ag->Option (List bet))(r:rho)(x:ag)(b:List bet):bq (List bet) rho:=if (f x).isSome=true then .next (b++(f x).getD []) else .done r
theorem wN{ag bet rho:Type}{f:ag->Option (List bet)}{r:rho}{x:ag}{b y:List bet}(h:f x=some y):Ay f r x b=.next (b++y):=by simp[Ay,h]
theorem Az{ag bet rho:Type}{f:ag->Option (List bet)}{r:rho}{x:ag}{b:List bet}(h:f x=none):Ay f r x b=.done r:=by simp[Ay,h]
theorem SV{ag bet rho:Type}{f:ag->Option (List bet)}{r:rho}{fin:List bet->rho}:∀ (l:List ag) (b:List bet),e' (Ay f r) fin l b=if (l.all λx=>(f x).isSome)=true then fin (b++l.flatMap λx=>(f x).getD []) else r
 | [],b=>by simp[e']
 | x::l,b=>by
  simp  [e'];cases h:f x with
  | none=>simp[Az h,h]
  | some y=>
   have:=SV (f:=f) (r:=r) (fin:=fin) l (b++y);simp  [wN h,aju];grind
abbrev Ln:aa:=.ae (.ar bp (.ar bp bp))
abbrev Lo:aF:=⟨.ar yk dV,.ar (.slice Ln) dm,λx=>∃ s,yl x.1 s/\jc s x.2,λx=>iH (pG x.1) x.2⟩
theorem aw3(s:aS)(ab:fg s)(bm:z1')(aq:jc s bm):QV qz.sh (some (dw s),bm)=mpure (iH s bm):=by
 unfold QV aL b1 aG aQ aB bj b_ e9 a7 ay cM a6 cu;have sx:=ab.nc;have aw4:=aq.1;rw[d' (List.range bm.length) (λi acc=>(some (dw s),bm,(bm.length:Int),(i:Int),acc,())) (Ay (l7 s bm) (.done ([],false))) (λacc=>.next (acc,())) (λi acc=>acc.length<=4*i) [] ?_ ?_ ?_ ?_]
 ·rw[SV];unfold iH;by_cases h:((List.range bm.length).all λi=>(l7 s bm i).isSome)=true
  ·simp[h]
  ·simp[h]
 ·rfl
 ·simp
 ·intro i D acc wJ;have D:i<bm.length:=by grind
  have qC:i<s.2.2.2.1.length:=by omega
  have gy:=bc (n:=i+1) (by omega) (by omega);have wO:=ym qC;rw[aJ6];obtain⟨aN,SW⟩:∃ aN,bm.getD i 0=aN:=⟨_,rfl⟩
  have SX:aN∈bm:=by grind
  refine⟨?_,λbl V=>?_⟩
  ·simp only[ajr,SW,aju];by_cases Ar:aN<0
   ·have iy:l7 s bm i=some []:=by unfold l7;grind
    rw[wN iy];simp_all
   ·have iz:=aq.2 aN SX;have SY:=GZ   (by omega) iz;have h5:(dw s).1=s:=rfl;have wP:List.getD s.2.2.2.1 i ([],(0,0),0,0,0)=h9 s i:=rfl;have Di:List.getD s.2.2.1 aN.toNat (0,0,0,0,[])=h_ s aN:=rfl;simp only[Ar,h5,aF.sh,ed,wP,Di];have iy:l7 s bm i=(nd s (h9 s i) (h_ s aN)).map λd=>(h_ s aN).2.2.2.2.map λk=>((h_ s aN).2.2.2.1,k,d):=by unfold l7;grind
    rw[bb (ab.fB.2.2.2.2.2.2 _ wO)];obtain⟨aw5,_⟩:=Dh ab wO;have nY:=ab.afb;obtain⟨SU,jz,B6⟩:=Aw ab SY;have SZ:=bc (n:=(h9 s i).2.2.2.1 - s.2.2.2.2.2) (by omega) (by omega);generalize h9 s i=x at *
    generalize h_ s aN=p at *
    by_cases aZ:n8 x p=0
    ·have an:nd s x p=none:=by unfold nd;grind
     rw[an]at iy;rw[Az iy];simp_all
    ·by_cases M:n8 x p=2;all_goals simp only[aZ,M,aKP,aKe,ajh,ajq,if_true,aH,cp,SZ,Int.reduceEq]
     ·have an:nd s x p=(if x.2.2.2.1 - s.2.2.2.2.2<0 then none else some (x.2.2.2.1 - s.2.2.2.2.2)):=by unfold nd;grind
      generalize x.2.2.2.1 - s.2.2.2.2.2=d at *
      by_cases oy:d<0
      ·rw[if_pos oy]at an;rw[an]at iy;rw[Az iy];simp_all
      ·rw[if_neg oy]at an;rw[an]at iy;rw[wN iy];simp  [oy,ajq];rw[d' p.2.2.2.2 (λk acc=>(some (dw s),d,bm,(bm.length:Int),(i:Int),p.2.2.2.2,(p.2.2.2.2.length:Int),(k:Int),acc,p,())) (λk acc=>.next (acc++[(p.2.2.2.1,k,d)])) (λacc=>.next (some (dw s),bm,bm.length,i,acc,())) (λk pH=>pH.length<=4*i+k) acc ?_ ?_ ?_ ?_]
       ·rw[cU,oG];simp_all
       ·rfl
       ·omega
       ·intro k ah pH S0;have kM:=bc (n:=k+1) (by omega) (by omega);have ix:bW (pH.length+(0+1)):=by unfold bW;omega
        refine⟨?_,λbl V=>?_⟩
        ·simp_all
        grind
       simp
     ·have an:nd s x p=(if x.2.2.2.1<0 then none else some x.2.2.2.1):=by unfold nd;grind
      generalize x.2.2.2.1=d at *
      by_cases oy:d<0
      ·omega
      ·rw[if_neg oy]at an;rw[an]at iy;rw[wN iy];simp  [oy,ajq];rw[d' p.2.2.2.2 (λk acc=>(some (dw s),d,bm,(bm.length:Int),(i:Int),p.2.2.2.2,(p.2.2.2.2.length:Int),(k:Int),acc,p,())) (λk acc=>.next (acc++[(p.2.2.2.1,k,d)])) (λacc=>.next (some (dw s),bm,bm.length,i,acc,())) (λk pH=>pH.length<=4*i+k) acc ?_ ?_ ?_ ?_]
       ·rw[cU,oG];simp_all
       ·rfl
       ·omega
       ·intro k ah pH S0;have kM:=bc (n:=k+1) (by omega) (by omega);have ix:bW (pH.length+(0+1)):=by unfold bW;omega
        refine⟨?_,λbl V=>?_⟩
        ·simp_all
        grind
       simp
  ·cases iy:l7 s bm i with
   | none=>rw[Az iy]at V;grind
   | some y=>
    rw[wN iy]at V;have:=afd ab aq D iy;grind
 simp
theorem aw6(x):aR (QV qz.sh x) (Lo.sh x):=bg λh=>by
 obtain⟨o,bm⟩:=x;obtain⟨s,⟨aw,ab⟩,aq⟩:=h;subst aw;exact aw3 s ab bm aq
def iI(s:aS)(bm:z1'):Int:=((List.range bm.length).map λ(i:Nat)=>if bm.getD i 0=-1 then 0 else (h9 s (i:Int)).2.2.2.2).foldl (·+·) 0
abbrev yn:aF:=⟨.ar yk dV,bp,λx=>∃ s,yl x.1 s/\x.2.length<=s.2.2.2.1.length,λx=>iI (pG x.1) x.2⟩
theorem aw7(s:aS)(ab:fg s)(bm:z1')(aq:bm.length<=s.2.2.2.1.length):Q0 (some (dw s),bm)=mpure (iI s bm):=by
 unfold Q0 e_ aL b1 aG aB bj a7 ay a6;have sx:=ab.nc;rw[d' (List.range bm.length) (λi n=>(some (dw s),n,bm,(bm.length:Int),(i:Int),())) (λi n=>.next (n+if bm.getD i 0=-1 then 0 else (h9 s i).2.2.2.2)) (λn=>.next (n,())) (λi n=>0<=n/\n<=100000*i) 0 ?_ ?_ ?_ ?_]
 ·rw[cU];unfold iI;rw[aLA,aH,cp]
 ·rfl
 ·simp
 ·intro i D n aC;have D:i<bm.length:=by grind
  have qC:i<s.2.2.2.1.length:=by omega
  have gy:=bc (n:=i+1) (by omega) (by omega);obtain⟨_,q1⟩:=Dh ab (ym qC);have wP:List.getD s.2.2.2.1 i ([],(0,0),0,0,0)=h9 s i:=rfl;have yg:=bc (n:=n+(h9 s i).2.2.2.2) (by omega) (by omega);have h5:(dw s).1=s:=rfl;refine⟨?_,λbl V=>?_⟩
  ·by_cases E:bm.getD i 0=-1<;>simp_all
  grind
 simp
theorem aw8(x):aR (Q0 x) (yn.sh x):=bg λh=>by
 obtain⟨o,bm⟩:=x;obtain⟨s,⟨aw,ab⟩,aq⟩:=h;subst aw;exact aw7 s ab bm aq
theorem afe:∀ {a b:z1'},a.Pairwise (·<·)->b.Pairwise (·<·)->(∀ x,x∈a<->x∈b)->a=b
 | [],[],_,_,_=>rfl
 | [],y::b,_,_,h=>by have:=(h y).2 (by simp);grind
 | x::a,[],_,_,h=>by have:=(h x).1 (by simp);grind
 | x::a,y::b,br,V,h=>by
  rw[List.pairwise_cons]at br V;have aw9:x=y:=by
   have E:=(h x).1 (by simp);have M:=(h y).2 (by simp);grind
  subst aw9;rw[afe br.2 V.2 λz=>?_];grind
def hW:List (z1')->z1'->Int
 | [],_=>0
 | j::jR,b9=>j.foldl (λn s=>if decide (b9.getD s.toNat 0 > 0)=true then (if 1+hW jR (b9.set s.toNat (b9.getD s.toNat 0 - 1)) > n then 1+hW jR (b9.set s.toNat (b9.getD s.toNat 0 - 1)) else n) else n) (hW jR b9)
theorem aff{f:Int->Int->Int}{a b:Int}:∀ (l:z1') (n:Int),a<=n/\n<=b->(∀ n s,a<=n/\n<=b->a<=f n s/\f n s<=b)->a<=l.foldl f n/\l.foldl f n<=b
 | [],n,h,_=>h
 | x::l,n,h,aw=>aff l _ (aw n x h) aw
theorem Lp:∀ (jR:List (z1')) (b9:z1'),0<=hW jR b9/\hW jR b9<=(jR.length:Int)
 | [],_=>by simp[hW]
 | j::jR,b9=>by
  unfold hW;refine aff j _ ?_ λn s h=>?_
  ·have:=Lp jR b9;grind
  ·have:=Lp jR (b9.set s.toNat (b9.getD s.toNat 0 - 1));grind
theorem aw_{ag:Type}(l:List ag)(d:ag):(List.range l.length).map (λj=>l.getD j d)=l:=by
 refine aLC (by simp) λi E M=>?_;grind
theorem S1{ag:Type}(p:ag->Bool)(l:List ag)(d:ag):(List.range l.length).countP (λj=>p (l.getD j d))=l.countP p:=by
 have:=congrArg (List.countP p) (aw_ l d);rw[List.countP_map]at this;exact this
theorem Lq(work:z1')(s:Int):(rp work s).length=(List.range work.length).countP λj=>decide (work.getD j 0=s):=by
 unfold rp;grind
theorem S2(work:z1')(s:Int):(rp work s).length=work.countP λx=>decide (x=s):=by
 rw[Lq,S1 (λx=>decide (x=s))]
theorem u4{l:z1'}{j i:Nat}{s:Int}(aI:j<l.length):(l.set j s).getD i 0=if i=j then s else l.getD i 0:=by
 grind
abbrev wQ(fit:List (z1'))(j:Int):z1':=fit.getD j.toNat []
def S3(b9 work:z1')(s:Int):Prop:=b9.getD s.toNat 0<=((rp work s).length:Int)
def afg(fit:List (z1'))(b9 work:z1')(C:Int->Prop):Prop:=∀ j,C j->∀ s∈wQ fit j,S3 b9 work s/\∀ h∈rp work s,C h
def afh(n:Nat)(b9 work:z1'):Prop:=∀ s,0<=s->s<(n:Int)->((rp work s).length:Int)<=b9.getD s.toNat 0
def gz:Nat->(Nat->Int)->Int
 | 0,_=>0
 | n+1,f=>gz n f+f n
theorem AA{f g:Nat->Int}:∀ {n:Nat},(∀ i,i<n->f i=g i)->gz n f=gz n g
 | 0,_=>rfl
 | n+1,h=>by
  show gz n f+f n=gz n g+g n;rw[AA   λi D=>h i (by omega),h n (by omega)]
theorem afi{f g:Nat->Int}:∀ {n:Nat},(∀ i,i<n->f i<=g i)->gz n f<=gz n g
 | 0,_=>aKs _
 | n+1,h=>by
  show gz n f+f n<=gz n g+g n;have a:=afi (n:=n) λi D=>h i (by omega);grind
theorem Dj:∀ {n:Nat},gz n (λ_=>0)=0
 | 0=>rfl
 | n+1=>by show gz n (λ_=>0)+0=0;rw[Dj];rfl
theorem aw'{f:Nat->Int}{n:Nat}(h:∀ i,i<n->0<=f i):0<=gz n f:=by
 have:=afi       h;grind [Dj]
theorem S4{f g:Nat->Int}{k:Nat}:∀ {n:Nat},k<n->(∀ i,i<n->i≠k->f i=g i)->gz n f=gz n g+(f k - g k)
 | 0,h,_=>by omega
 | n+1,ah,h=>by
  show gz n f+f n=gz n g+g n+_;by_cases e:k=n
  ·grind [AA]
  ·rw[S4   (by omega) λi D=>h i (by omega),h n (by omega) (λx=>e x.symm)];omega
theorem S5{ag:Type}{p q r:ag->Bool}:∀ {l:List ag},(∀ x∈l,(if p x=true then 1 else 0)=(if q x=true then 1 else 0)+(if r x=true then 1 else (0:Nat)))->l.countP p=l.countP q+l.countP r
 | [],_=>rfl
 | x::l,h=>by
  rw[aLX,S5   λy bh=>h y (ajp _ bh)];grind
theorem afj(N:Nat->Bool)(work:z1'):∀ n,gz n (λi=>if N i=true then ((work.countP λx=>decide (x=(i:Int)):Nat):Int) else 0)=((work.countP λx=>decide (0<=x)&&decide (x<(n:Int))&&N x.toNat:Nat):Int)
 | 0=>by
  symm;show ((_))=0;have:(work.countP λx=>decide (0<=x)&&decide (x<((0:Nat):Int))&&N x.toNat)=0:=by
   grind
  omega
 | n+1=>by
  show gz n _+(if N n=true then ((work.countP λx=>decide (x=(n:Int))):Int) else 0)=_;rw[afj N work n];by_cases kI:N n=true
  ·rw[S5 (p:=λx=>decide (0<=x)&&decide (x<((n+1:Nat):Int))&&N x.toNat) (q:=λx=>decide (0<=x)&&decide (x<n)&&N x.toNat) (r:=λx=>decide (x=n))   λx _=>?_]<;>grind
  grind
theorem S6{f:Int->Int->Int}(h:∀ n s,n<=f n s):∀ (l:z1') (n:Int),n<=l.foldl f n
 | [],n=>aKs _
 | x::l,n=>aK9 (h n x) (S6 h l _)
theorem afk{f:Int->Int->Int}(h:∀ n s,n<=f n s){v s:Int}(ab:∀ n,v<=f n s):∀ {l:z1'} (n:Int),s∈l->v<=l.foldl f n
 | [],_,az=>by grind
 | x::l,n,az=>by
  rcases List.mem_cons.1 az with e | e
  ·subst e;exact aK9 (ab n) (S6 h l _)
  ·exact afk   h ab (f n x) e
theorem afl{f:Int->Int->Int}{B:Int}:∀ {l:z1'} {n:Int},n<=B->(∀ n s,s∈l->n<=B->f n s<=B)->l.foldl f n<=B
 | [],n,h,_=>h
 | x::l,n,h,aw=>afl (l:=l) (aw n x (by simp) h) λn s az=>aw n s (ajp _ az)
theorem axa(j:z1')(jR:List (z1'))(b9:z1'):hW jR b9<=hW (j::jR) b9:=by
 refine S6 (λn s=>?_) j _;omega
theorem afm{j:z1'}(jR:List (z1')){b9:z1'}{s:Int}(az:s∈j)(h:b9.getD s.toNat 0 > 0):1+hW jR (b9.set s.toNat (b9.getD s.toNat 0 - 1))<=hW (j::jR) b9:=by
 refine afk (λn s=>?_) (λn=>?_) _ az<;>grind
theorem afn{j:z1'}{jR:List (z1')}{b9:z1'}{B:Int}(h:hW jR b9<=B)(az:∀ s∈j,b9.getD s.toNat 0 > 0->1+hW jR (b9.set s.toNat (b9.getD s.toNat 0 - 1))<=B):hW (j::jR) b9<=B:=by
 refine afl h λn s hm aC=>?_;grind
theorem Lr:∀ (fit:List (z1')) (work b9:z1'),work.length=fit.length->(∀ i:Nat,i<fit.length->work.getD i 0=-1\/work.getD i 0∈fit.getD i [])->(∀ l∈fit,∀ s∈l,0<=s/\s<(b9.length:Int))->
  (∀ s:Int,0<=s->s<(b9.length:Int)->((work.countP λx=>decide (x=s):Nat):Int)<=b9.getD s.toNat 0)->((work.countP λx=>!decide (x=-1):Nat):Int)<=hW fit b9
 | [],work,b9,af,_,_,_=>by
  grind [hW]
 | j::fit,[],b9,af,_,_,_=>by grind
 | j::fit,a::work,b9,af,hm,aw,ab=>by
  have zH:work.length=fit.length:=by grind
  have fC:∀ i,i<fit.length->work.getD i 0=-1\/work.getD i 0∈fit.getD i []:=λi D=>by
   have:=hm (i+1) (by grind);grind
  have aZ:=hm 0 (by simp);change a=-1\/a∈j at aZ;by_cases e:a=-1
  ·subst e;have aP:=Lr fit work b9 zH fC (λl h=>aw l (ajp _ h)) λs E M=>by
    grind
   exact aK9 aP (axa _ _ _)
  ·have br:=aZ.resolve_left e;obtain⟨a0,jy⟩:=aw j (by simp) a br;have afo:=ab a a0 jy;rw[aLX]at afo;simp only[aKP,if_true]at afo;have eG:a.toNat<b9.length:=by omega
   have aP:=Lr fit work (b9.set a.toNat (b9.getD a.toNat 0 - 1)) zH fC (λl h=>by grind) λs E M=>by
    rw[u4 eG];grind
   have:=afm fit br (b9:=b9) (by omega);grind
def yo(N:Nat->Bool)(b9:z1'):Int:=gz b9.length λi=>if N i=true then b9.getD i 0 else 0
def Dk(N:Nat->Bool)(fit:List (z1')):Nat:=fit.countP λl=>!(l.all λs=>N s.toNat)
theorem S7(N:Nat->Bool):∀ (fit:List (z1')) (b9:z1'),(∀ l∈fit,∀ s∈l,0<=s/\s<(b9.length:Int))->(∀ i,i<b9.length->0<=b9.getD i 0)->hW fit b9<=yo N b9+(Dk N fit:Int)
 | [],b9,_,aZ=>by
  have:0<=yo N b9:=aw' λi D=>by
   grind
  grind [hW]
 | j::fit,b9,aw,aZ=>by
  have aP:=S7 N fit b9 (λl h=>aw l (ajp _ h)) aZ;have au:Dk N (j::fit)=Dk N fit+if (!(j.all λs=>N s.toNat))=true then 1 else 0:=by unfold Dk;grind
  refine afn (by omega) λs az aq=>?_;obtain⟨s0,aJA⟩:=aw j (by simp) s az;have eG:s.toNat<b9.length:=by omega
  have aJB:=S7 N fit (b9.set s.toNat (b9.getD s.toNat 0 - 1)) (λl h=>by grind) λi D=>by
   rw[u4 eG];grind
  have hc:yo N (b9.set s.toNat (b9.getD s.toNat 0 - 1))=yo N b9+(if N s.toNat=true then -1 else 0):=by
   unfold yo;rw[aLf,S4   (g:=λi=>if N i=true then b9.getD i 0 else 0) eG λi D fc=>by grind];grind [u4]
  grind
def n9(fit:List (z1'))(some:z1')(i:Nat):Bool:=some.any λk=>(wQ fit k).contains (i:Int)
def G0(fit:List (z1'))(b9 some:z1'):Int:=(some.length:Int) - yo (n9 fit some) b9
def Dl(J:Nat)(some:z1'):Prop:=some.Pairwise (·<·)/\∀ k∈some,0<=k/\k<(J:Int)
theorem afp(p:Nat->Bool)(n:Nat):(((List.range n).filter p).map λ(i:Nat)=>(i:Int)).Pairwise (·<·):=
 List.Pairwise.map _ (λa b (h:a<b)=>by omega) (List.pairwise_lt_range.filter p)
theorem afq{p:Nat->Bool}{n:Nat}{x:Int}:x∈(((List.range n).filter p).map λ(i:Nat)=>(i:Int))<->0<=x/\x<(n:Int)/\p x.toNat=true:=by
 grind
theorem afr{J:Nat}{some:z1'}(h:Dl J some):some.length=(List.range J).countP λ(j:Nat)=>some.contains (j:Int):=by
 have:some=((List.range J).filter λ(j:Nat)=>some.contains j).map λ(i:Nat)=>(i:Int):=by
  refine afe h.1 (afp _ _) λx=>?_;rw[afq];constructor
  ·intro al;have:=h.2 x al;grind
  grind
 grind
theorem afs{fit:List (z1')}{some:z1'}{k s:Int}(ah:k∈some)(az:s∈wQ fit k)(aZ:0<=s):n9 fit some s.toNat=true:=by
 unfold n9;grind
theorem axb{fit:List (z1')}{m:Nat}{some:z1'}(aw:∀ l∈fit,∀ s∈l,0<=s/\s<(m:Int))(h:Dl fit.length some):Dk (n9 fit some) fit+some.length<=fit.length:=by
 rw[afr h];unfold Dk;have ai:=List.length_eq_countP_add_countP (l:=fit) λl=>!(l.all λs=>n9 fit some s.toNat);have bf:((List.range fit.length).countP λ(j:Nat)=>some.contains j)<=fit.countP λa=>decide (¬(!(a.all λs=>n9 fit some s.toNat))=true):=by
  rw[<-S1 (λa=>decide (¬(!(a.all λs=>n9 fit some s.toNat))=true)) fit []];refine List.countP_mono_left λi D hc=>?_;have:((fit.getD i []).all λs=>n9 fit some s.toNat)=true:=by
   grind [afs]
  grind
 omega
theorem axc{fit:List (z1')}{b9 some:z1'}(aw:∀ l∈fit,∀ s∈l,0<=s/\s<(b9.length:Int))(aZ:∀ i,i<b9.length->0<=b9.getD i 0)(h:Dl fit.length some):hW fit b9<=(fit.length:Int) - G0 fit b9 some:=by
 have E:=S7 (n9 fit some) fit b9 aw aZ;have M:=axb aw h;grind [G0]
theorem axd{n:Nat}{fit:List (z1')}{b9 work some:z1'}(aw:∀ l∈fit,∀ s∈l,0<=s/\s<(b9.length:Int))(af:work.length=fit.length)(az:b9.length=n)(ab:afh n b9 work)
  (hm:∀ i:Nat,i<fit.length->work.getD i 0=-1\/work.getD i 0∈wQ fit (i:Int)) (h:Dl fit.length some) (hu:∀ i:Nat,i<fit.length->work.getD i 0=-1->(i:Int)∈some)
  (hc:afg fit b9 work λj=>j∈some):G0 fit b9 some=((rp work (-1)).length:Int):=by
 have Ls:∀ k s,s∈wQ fit k->0<=s/\s<n:=λk s aJC=>by
  by_cases ah:k.toNat<fit.length<;>grind
 have E:yo (n9 fit some) b9=gz n λi=>if n9 fit some i=true then ((work.countP λx=>decide (x=(i:Int)))) else 0:=by
  unfold yo;rw[az];refine AA λi D=>?_;by_cases kI:n9 fit some i=true
  ·rw[<-S2];have S8:=kI;unfold n9 at S8;rw[aLE]at S8;obtain⟨k,ah,ll⟩:=S8;rw[aK8]at ll;have a:=(hc k ah _ ll).1;have b:=ab i (by omega) (by omega);grind [S3,Int.toNat_natCast]
  grind
 unfold G0;rw[E,afj,afr h,Lq];rw[<-S1 (λx=>decide (0<=x)&&decide (x<(n:Int))&&n9 fit some x.toNat) work 0,af];rw[S5   (q:=λj=>decide (work.getD j 0=-1)) (r:=λj=>decide (0<=work.getD j 0)&&decide (work.getD j 0<n)&&n9 fit some (work.getD j 0).toNat)   λj aI=>?_]
 ·omega
 ·have aI:=List.mem_range.1 aI;by_cases e:work.getD j 0=-1
  ·grind
  ·have axe:=(hm j aI).resolve_left e;have U:=Ls _ _ axe;have ai:some.contains j=n9 fit some (work.getD j 0).toNat:=by
    rw[aKW,aK8];constructor
    ·grind [afs]
    ·intro kI;unfold n9 at kI;rw[aLE]at kI;obtain⟨k,ah,ll⟩:=kI;rw[aK8,aLI U.1]at ll;exact (hc k ah _ ll).2 _ (ae1.2 ⟨by omega,by omega,by rfl⟩)
   grind
structure aft(n:Nat)(fit:List (z1'))(b9:z1')(k:Nat)(work:z1'):Prop where
 len:work.length=fit.length
 val:afh n b9 work
 mem:∀ i:Nat,i<fit.length->work.getD i 0=-1\/work.getD i 0∈wQ fit (i:Int)
 cK:∀ i:Nat,k<=i->i<fit.length->work.getD i 0=-1
 G1:∃ C,afg fit b9 work C/\(∀ c,C c->0<=c/\c<(k:Int))/\∀ i:Nat,i<k->work.getD i 0=-1->C (i:Int)
theorem axf{J i:Nat}(h:i<J):(List.replicate J (-1:Int)).getD i 0=-1:=by
 grind
open Classical in
theorem axg{n:Nat}{fit:List (z1')}{b9 work:z1'}(eG:b9.length=n)(E_:∀ l∈fit,∀ s∈l,0<=s/\s<(n:Int))(aZ:∀ i,i<b9.length->0<=b9.getD i 0)(h:aft n fit b9 fit.length work) :
  hW fit b9=(fit.length:Int) - ((rp work (-1)).length:Int)/\∃ some,Dl fit.length some/\G0 fit b9 some=((rp work (-1)).length:Int):=by
 have aw:∀ l∈fit,∀ s∈l,0<=s/\s<(b9.length:Int):=λl af s az=>by rw[eG];exact E_ l af s az
 have E:=Lr fit work b9 h.len (λi D=>by have:=h.mem i D;unfold wQ at this;rw[ajr]at this;exact this) aw λs mW Dm=>by
  rw[<-S2];exact h.val s mW (by rw[<-eG];exact Dm)
 have M:=List.length_eq_countP_add_countP (l:=work) λx=>decide (x=-1);have ai:(work.countP λx=>decide ¬decide (x=(-1:Int))=true)=work.countP λx=>!decide (x=-1):=aLy λx _=>by simp
 rw[ai,<-S2,h.len]at M;obtain⟨C,jj,G2,Lt⟩:=h.G1;have lq:∀ x,x∈(((List.range fit.length).filter λ(j:Nat)=>decide (C (j:Int))).map λ(i:Nat)=>(i:Int))<->C x:=λx=>by
  rw[afq];constructor
  ·rintro⟨a,b,c⟩;rw[aLI a]at c;simpa using c
  ·intro al;have:=G2 x al;exact⟨this.1,this.2,by rw[aLI this.1];simpa using al⟩
 have cJ:Dl fit.length (((List.range fit.length).filter λ(j:Nat)=>decide (C (j:Int))).map λ(i:Nat)=>(i:Int)):=⟨afp _ _,λk ah=>G2 k ((lq k).1 ah)⟩
 have bf:=axd aw h.len eG h.val h.mem cJ (λi D hu=>(lq _).2 (Lt i D hu)) λj aI s az=>⟨(jj j ((lq j).1 aI) s az).1,λo au=>(lq o).2 ((jj j ((lq j).1 aI) s az).2 o au)⟩
 have b2:=axc aw aZ cJ;exact⟨by omega,_,cJ,bf⟩
def hX(g:z1')(j:Int):Nat:=g.countP λx=>decide (x=j)
theorem S9:∀ {g:z1'} {i:Nat} {x:Int} (j:Int),i<g.length->hX (g.set i x) j+(if g.getD i 0=j then 1 else 0)=hX g j+(if x=j then 1 else 0)
 | [],i,x,j,h=>by grind
 | y::g,0,x,j,h=>by
  unfold hX;grind
 | y::g,i+1,x,j,h=>by
  unfold hX at *
  grind
theorem Lu{g:z1'}{i:Nat}{j:Int}(D:i<g.length)(h:g.getD i 0=j):0<hX g j:=by
 unfold hX;grind
theorem afu{g:z1'}{i k:Nat}{j:Int}(aI:j≠-1)(h:hX g j<=1)(D:i<g.length)(ah:k<g.length)(E:g.getD i 0=j)(M:g.getD k 0=j):i=k:=by
 by_cases e:i=k
 ·omega
 ·have a:=S9 (x:=-1) j D;rw[if_pos E,if_neg λe=>aI e.symm]at a;have b:0<hX (g.set i (-1)) j:=Lu (i:=k) (by grind) (by grind);omega
def pI(gd:Nat->Int->Bool)(rec:Int->nG->Bool×nG)(own:Int)(i:Nat)(ae:nG):bq nG (Bool×nG):=
 if (decide (dR ae.2 (i:Int) > 0)||!gd i own)=true then .next ae
 else if decide (ae.1.getD i 0=-1)=true then .done (true,(ae.1.set i own,gq ae.2 (i:Int) (dR ae.2 (i:Int)+1)))
 else if (rec (ae.1.getD i 0) (ae.1,gq ae.2 (i:Int) (dR ae.2 (i:Int)+1))).1=true then .done (true,((rec (ae.1.getD i 0) (ae.1,gq ae.2 (i:Int) (dR ae.2 (i:Int)+1))).2.1.set i own,(rec (ae.1.getD i 0) (ae.1,gq ae.2 (i:Int) (dR ae.2 (i:Int)+1))).2.2))
 else .next (rec (ae.1.getD i 0) (ae.1,gq ae.2 (i:Int) (dR ae.2 (i:Int)+1))).2
def lB(gd:Nat->Int->Bool)(m:Nat):Nat->Int->nG->Bool×nG
 | 0=>λ_ ae=>(false,ae)
 | f+1=>λown ae=>e' (pI gd (lB gd m f) own) (λae=>(false,ae)) (List.range m) ae
def afv(m J:Nat)(g:z1'):Prop:=∀ i,i<m->g.getD i 0=-1\/(0<=g.getD i 0/\g.getD i 0<(J:Int))
structure AB(m J f:Nat)(ae:nG):Prop where
 len:ae.1.length=m
 mx:afv m J ae.1
 gF:∀ k,0<=dR ae.2 k/\dR ae.2 k<=1
 de:wK m ae.2<f
structure S_(m J:Nat)(ae r:nG):Prop where
 len:r.1.length=m
 mx:afv m J r.1
 gF:∀ k,dR ae.2 k<=dR r.2 k/\dR r.2 k<=1
def afw(gd:Nat->Int->Bool)(m:Nat)(g:z1')(C:Int->Prop):Prop:=∀ j,C j->∀ i,i<m->gd i j=true->g.getD i 0≠-1/\C (g.getD i 0)
def afx(gd:Nat->Int->Bool)(m:Nat)(g:z1')(s s':z3'):Prop:=∀ i,i<m->dR s (i:Int)=0->1<=dR s' (i:Int)->g.getD i 0≠-1/\∀ k,k<m->gd k (g.getD i 0)=true->1<=dR s' (k:Int)
structure S'(gd:Nat->Int->Bool)(m:Nat)(own:Int)(ae:nG)(r:Bool×nG):Prop where
 Ta:r.1=false->r.2.1=ae.1/\(∀ i,i<m->gd i own=true->1<=dR r.2.2 (i:Int))/\afx gd m ae.1 ae.2 r.2.2
 afy:r.1=true->(∀ i,i<m->r.2.1.getD i 0=ae.1.getD i 0\/(dR ae.2 (i:Int)=0/\gd i (r.2.1.getD i 0)=true))/\∀ j,j≠-1->hX r.2.1 j=hX ae.1 j+(if j=own then 1 else 0)
 cl:∀ C,afw gd m ae.1 C->(C own->r.1=false)/\(r.1=true->∀ i,i<m->r.2.1.getD i 0≠ae.1.getD i 0->∀ c,C c->gd i c=false)
def afz(gd:Nat->Int->Bool)(m J f:Nat)(rec:Int->nG->Bool×nG):Prop:=∀ own ae,0<=own->own<(J:Int)->AB m J f ae->S_ m J ae (rec own ae).2/\S' gd m own ae (rec own ae)
theorem axh{gd:Nat->Int->Bool}{m J f:Nat}{rec:Int->nG->Bool×nG}(Ab:afz gd m J f rec){own:Int}(afA:0<=own)(afB:own<(J:Int)){ae:nG}(aZ:AB m J (f+1) ae) :
  S_ m J ae (e' (pI gd rec own) (λae=>(false,ae)) (List.range m) ae).2/\S' gd m own ae (e' (pI gd rec own) (λae=>(false,ae)) (List.range m) ae):=by
 refine av' (λk b=>b.1=ae.1/\(∀ q,dR ae.2 q<=dR b.2 q/\dR b.2 q<=1)/\(∀ i,i<k->i<m->gd i own=true->1<=dR b.2 i)/\afx gd m ae.1 ae.2 b.2)
  (λr=>S_ m J ae r.2/\S' gd m own ae r) (List.range m) ae ⟨rfl,λq=>⟨aKs _,(aZ.gF q).2⟩,λi D=>by omega,λi _ E M=>by omega⟩ (λi D b V=>?_) λb V=>?_
 ·obtain⟨hw,oL,Lv,mN⟩:=V;have D:i<m:=by grind
  rw[aJ6];have tc:=λq=>aK9 (aZ.gF q).1 (oL q).1;unfold pI;by_cases hc:(decide (dR b.2 i > 0)||!gd i own)=true
  ·grind
  ·rw[if_neg hc];simp  at hc;obtain⟨bD,aA⟩:=hc;have bD:dR b.2 i=0:=by grind
   have afC:=by have:=(oL i).1;have:=(aZ.gF i).1;omega
   have ug:i<ae.1.length:=by rw[aZ.len];omega
   have lW:∀ q,dR b.2 q<=dR (gq b.2 i (dR b.2 i+1)) q/\dR (gq b.2 i (dR b.2 i+1)) q<=1:=λq=>by
    have:=oL q;rw[Dc];omega
   have aJD:dR (gq b.2 i (dR b.2 i+1)) i=1:=by rw[Dc,if_pos rfl,bD];rfl
   by_cases aw:ae.1.getD i 0=-1
   ·rw[hw,if_pos (by grind)];refine⟨⟨by rw[aLf];exact aZ.len,λk ah=>?_,λq=>⟨aK9 (oL q).1 (lW q).1,(lW q).2⟩⟩,λh=>(by grind),λ_=>⟨λk ah=>?_,λj aI=>?_⟩,λC jj=>⟨λTb=>?_,λ_ k ah fc c hc=>?_⟩⟩
    ·rw[u4 ug];split
     ·omega
     ·exact aZ.mx k ah
    ·grind
    ·have:=S9 (x:=own) j ug;grind
    ·exact absurd aw (jj own Tb i D aA).1
    ·rw[u4 ug]at fc;split at fc
     ·rename_i e;subst e;cases Tc:gd k c with
      | false=>rfl
      | true=>exact absurd aw (jj c hc k D Tc).1
     omega
   ·rw[hw,if_neg (by grind)];have dN:=(aZ.mx i D).resolve_left aw;have yp:AB m J f (ae.1,gq b.2 i (dR b.2 i+1)):=by
     refine⟨aZ.len,aZ.mx,λq=>⟨aK9 (tc q) (lW q).1,(lW q).2⟩,?_⟩;have E:=ae3 (n:=m)     (v:=dR b.2 i+1) (by omega) (by omega) bD (by omega);have M:=ae4 (n:=m)     λk=>⟨(aZ.gF k).1,(oL k).1⟩
     have ai:=aZ.de;grind
    obtain⟨aq,U⟩:=Ab (ae.1.getD i 0) _ dN.1 dN.2 yp;revert aq U;generalize rec (ae.1.getD i 0) (ae.1,gq b.2 i (dR b.2 i+1))=r;intro aq U;have Gq:=λq=>(aq.gF q).1;by_cases b2:r.1=true
    ·rw[if_pos b2];obtain⟨lN,axi⟩:=U.afy b2;have cM:i<r.2.1.length:=by rw[aq.len];omega
     have Ir:r.2.1.getD i 0=ae.1.getD i 0:=by
      grind
     refine⟨⟨by rw[aLf];exact aq.len,λk ah=>?_,λq=>⟨aK9 (oL q).1 (aK9 (lW q).1 (Gq q)),(aq.gF q).2⟩⟩,λh=>(by grind),λ_=>⟨λk ah=>?_,λj aI=>?_⟩,λC jj=>⟨λTb=>?_,λ_ k ah fc c hc=>?_⟩⟩
     ·rw[u4 cM];split
      ·omega
      ·exact aq.mx k ah
     ·rw[u4 cM];split
      ·grind
      ·rcases lN k ah with e | ⟨ax,aU⟩
       ·grind
       ·have c:=(aZ.gF k).1;grind
     ·have a:=S9 (x:=own) j cM;grind
     ·have:=(U.cl C jj).1 (jj own Tb i D aA).2;grind
     ·rw[u4 cM]at fc;split at fc
      ·rename_i e;subst e;cases Tc:gd k c with
       | false=>rfl
       | true=>
        have:=(U.cl C jj).1 (jj c hc k D Tc).2;grind
      ·exact (U.cl C jj).2 b2 k ah fc c hc
    ·rw[if_neg b2];have Fa:r.1=false:=by grind
     obtain⟨Fc,Ls,axj⟩:=U.Ta Fa;refine⟨Fc,λq=>⟨aK9 (oL q).1 (aK9 (lW q).1 (Gq q)),(aq.gF q).2⟩,λk ah AD Js=>?_,λk AD bO ax=>?_⟩
     ·grind
     ·by_cases e:k=i
      ·grind
      ·by_cases aU:1<=dR b.2 k
       ·obtain⟨a,c⟩:=mN k AD bO aU;grind
       ·refine axj k AD ?_ ax;rw[Dc];grind
 ·obtain⟨hw,oL,Lv,mN⟩:=V;rw[aLP]at Lv;refine⟨⟨by rw[hw];exact aZ.len,by rw[hw];exact aZ.mx,oL⟩,λ_=>⟨hw,λi D aA=>Lv i D D aA,mN⟩,λh=>(by grind),λC jj=>⟨λ_=>rfl,λh=>(by grind)⟩⟩
theorem Td{gd:Nat->Int->Bool}{m J:Nat}:∀ f,afz gd m J f (lB gd m f)
 | 0=>λown ae _ _ h=>absurd h.de (by omega)
 | f+1=>λown ae aZ E h=>axh (Td f) aZ E h
def u5(gd:Nat->Int->Bool)(m F:Nat)(ae:z1'×Int)(j:Nat):z1'×Int:=((lB gd m F (j:Int) (ae.1,[])).2.1,if (lB gd m F (j:Int) (ae.1,[])).1=true then ae.2 else ae.2+1)
def yq(gd:Nat->Int->Bool)(m J F:Nat):z1'×Int:=(List.range J).foldl (u5 gd m F) (List.replicate m (-1),0)
structure u6(gd:Nat->Int->Bool)(m J k:Nat)(ae:z1'×Int):Prop where
 len:ae.1.length=m
 mx:∀ i,i<m->ae.1.getD i 0=-1\/(0<=ae.1.getD i 0/\ae.1.getD i 0<(k:Int)/\gd i (ae.1.getD i 0)=true)
 one:∀ j,0<=j->hX ae.1 j<=1
 num:ae.2=(((List.range k).countP λ(j:Nat)=>decide (hX ae.1 (j:Int)=0):Nat):Int)
 G1:∃ C,afw gd m ae.1 C/\(∀ c,C c->0<=c/\c<(k:Int))/\∀ j:Nat,j<k->hX ae.1 (j:Int)=0->C (j:Int)
theorem afD{gd:Nat->Int->Bool}{m J F k:Nat}(bF:m<F)(ah:k<J){ae:z1'×Int}(h:u6 gd m J k ae):u6 gd m J (k+1) (u5 gd m F ae k):=by
 obtain⟨g,n⟩:=ae;have hu:wK m []<=m:=by
  exact aKa List.countP_le_length (by simp)
 have yp:AB m J F (g,[]):=⟨h.len,λi D=>by have:=h.mx i D;grind,λq=>⟨aKs _,by show (0)<=1;decide⟩,by grind⟩
 obtain⟨aq,U⟩:=Td F k (g,[]) (by omega) (by omega) yp;unfold u5;revert aq U;generalize lB gd m F k (g,[])=r;intro aq U;have s3:hX g k=0:=by
  unfold hX;rw[List.countP_eq_zero];intro x al;obtain⟨i,D,rfl⟩:=List.mem_iff_getElem.1 al;have:=h.mx i (by rw[<-h.len];omega);grind
 obtain⟨C,jj,G2,Lt⟩:=h.G1;by_cases V:r.1=true
 ·obtain⟨lN,axi⟩:=U.afy V;have aJE:=(U.cl C jj).2 V;refine⟨aq.len,λi D=>?_,λj aI=>?_,?_,C,λc vV i D G3=>?_,λc vV=>?_,λj aI hu=>?_⟩
  ·show r.2.1.getD i 0=-1\/_;rcases lN i D with e | ⟨ax,aU⟩
   ·rcases h.mx i D with a | a<;>grind
   ·by_cases lW:r.2.1.getD i 0=-1
    ·omega
    ·refine .inr ⟨?_,?_,aU⟩
     ·have:=(aq.mx i D).resolve_left lW;grind
     ·have M:=Lu (by rw[aq.len];omega) rfl;by_cases e:r.2.1.getD i 0=k
      ·grind
      ·have ai:0<hX g (r.2.1.getD i 0):=by grind
       unfold hX at ai;rw[aLJ]at ai;obtain⟨x,al,fq⟩:=ai;obtain⟨q,bM,rfl⟩:=List.mem_iff_getElem.1 al;have:=h.mx q (by rw[<-h.len];omega);grind
  ·have M:=h.one j aI;grind
  ·have E:=h.num;rw[aLd,aLO];have ai:hX r.2.1 k=1:=by
    grind
   have bf:(List.range k).countP (λ(j:Nat)=>decide (hX r.2.1 j=0))=(List.range k).countP (λ(j:Nat)=>decide (hX g j=0)):=aLy λj aI=>by grind
   grind
  ·by_cases e:r.2.1.getD i 0=g.getD i 0
   ·rw[e];exact jj c vV i D G3
   grind
  ·grind
  grind
 ·have Fa:r.1=false:=by grind
  obtain⟨hw,Lv,mN⟩:=U.Ta Fa;simp  [hw];refine⟨h.len,λi D=>?_,h.one,?_,λc=>C c\/c=k\/∃ i,i<m/\1<=dR r.2.2 i/\c=g.getD i 0,λc vV i D G3=>?_,λc vV=>?_,λj aI hu=>?_⟩
  ·rcases h.mx i D with a | a<;>grind
  ·have E:=h.num;rw[aLd];grind
  ·have aC:1<=dR r.2.2 i->g.getD i 0≠-1/\(C (g.getD i 0)\/g.getD i 0=k\/∃ q,q<m/\1<=dR r.2.2 q/\g.getD i 0=g.getD q 0):=λaz=>⟨(mN i D rfl az).1,.inr (.inr ⟨i,D,az,rfl⟩)⟩
   rcases vV with e | e | ⟨q,bM,az,e⟩
   ·exact⟨(jj c e i D G3).1,.inl (jj c e i D G3).2⟩
   ·grind
   ·subst e;exact aC ((mN q bM rfl az).2 i D G3)
  ·rcases vV with e | e | ⟨q,bM,az,e⟩
   ·grind
   ·omega
   ·have:=(h.mx q bM).resolve_left (mN q bM rfl az).1;grind
  grind
theorem afE(gd:Nat->Int->Bool)(m J F:Nat)(bF:m<F):u6 gd m J J (yq gd m J F):=by
 unfold yq;have key:∀ k,k<=J->u6 gd m J k ((List.range k).foldl (u5 gd m F) (List.replicate m (-1),0)):=by
  intro k;induction k with
  | zero=>
   intro _;refine⟨by simp,λi D=>.inl (axf D),λj aI=>?_,by simp,λ_=>False,λ_ h=>h.elim,λ_ h=>h.elim,λj aI=>by omega⟩;show hX (List.replicate m (-1)) j<=1;have:hX (List.replicate m (-1)) j=0:=by
    unfold hX;grind
   omega
  | succ k aP=>
   intro ah;rw[aLd,List.foldl_append];exact afD bF (by omega) (aP (by omega))
 grind
theorem Te{p:Nat->Bool}:∀ {n:Nat},gz n (λi=>if p i=true then 1 else 0)=((List.range n).countP p:Int)
 | 0=>rfl
 | n+1=>by
  show gz n _+(if p n=true then (1:Int) else 0)=_;rw[Te,aLd,aLO];grind
theorem afF{f g:Nat->Int}:∀ {n:Nat},gz n (λi=>f i+g i)=gz n f+gz n g
 | 0=>rfl
 | n+1=>by
  show gz n (λi=>f i+g i)+(f n+g n)=gz n f+f n+(gz n g+g n)
  rw[afF];omega
theorem afG{F:Nat->Nat->Int}{m:Nat}:∀ {n:Nat},gz n (λj=>gz m λi=>F i j)=gz m λi=>gz n λj=>F i j
 | 0=>by
  show (0:Int)=gz m λ_=>0;rw[Dj]
 | n+1=>by
  show gz n (λj=>gz m λi=>F i j)+gz m (λi=>F i n)=gz m λi=>gz n (λj=>F i j)+F i n;rw[afG,afF]
theorem afH{f:Nat->Int}{k n:Nat}(ah:k<n)(h:∀ i,i<n->i≠k->f i=0):gz n f=f k:=by
 rw[S4 (k:=k) (g:=λ_=>0) ah h,Dj];omega
def qD(kd:Nat->Nat)(g:z1')(m J:Nat):z1':=(List.range J).map λ(j:Nat)=>match (List.range m).find? λi=>decide (g.getD i 0=(j:Int)) with | some i=>(kd i:Int) | none=>-1
section
variable {gd:Nat->Int->Bool} {kd:Nat->Nat} {m J:Nat} {g:z1'} {yr:Int}
theorem Tf{j:Nat}(aI:j<J):(qD kd g m J).getD j 0=match (List.range m).find? λi=>decide (g.getD i 0=(j:Int)) with | some i=>(kd i:Int) | none=>-1:=by
 unfold qD;grind
theorem Tg(h:u6 gd m J J (g,yr)){j i:Nat}(aI:j<J)(D:i<m)(aA:g.getD i 0=(j:Int)):(qD kd g m J).getD j 0=(kd i:Int):=by
 rw[Tf aI];cases aw:(List.range m).find? λi=>decide (g.getD i 0=(j:Int)) with
 | none=>
  grind
 | some q=>
  have E:=List.find?_some aw;have M:=List.mem_range.1 (aKn aw);simp only[ajl]at E;have af:=h.len;change g.length=m at af;have:q=i:=afu (j:=(j:Int)) (by omega) (h.one (j:Int) (by omega)) (by grind) (by grind) E aA;grind
theorem Th(h:u6 gd m J J (g,yr)){j:Nat}(aI:j<J)(hc:hX g (j:Int)=0):(qD kd g m J).getD j 0=-1:=by
 rw[Tf aI];cases aw:(List.range m).find? λi=>decide (g.getD i 0=(j:Int)) with
 | none=>rfl
 | some q=>
  have E:=List.find?_some aw;have M:=List.mem_range.1 (aKn aw);simp only[ajl]at E;have af:=h.len;change g.length=m at af;have:=Lu (by omega) E;omega
theorem axk(h:u6 gd m J J (g,yr)){j:Nat}{s:Int}(aI:j<J)(az:0<=s)(hw:(qD kd g m J).getD j 0=s):∃ i,i<m/\g.getD i 0=(j:Int)/\(kd i:Int)=s:=by
 rw[Tf aI]at hw;grind
theorem Ti(h:u6 gd m J J (g,yr)){j:Nat}(aI:j<J):(qD kd g m J).getD j 0=-1<->hX g (j:Int)=0:=by
 refine⟨λhw=>?_,Th h aI⟩;by_cases hc:hX g (j:Int)=0
 ·exact hc
 ·have aq:0<hX g (j:Int):=by omega
  unfold hX at aq;rw[aLJ]at aq;obtain⟨x,al,fq⟩:=aq;obtain⟨q,bM,rfl⟩:=List.mem_iff_getElem.1 al;have af:=h.len;change g.length=m at af;have e:g.getD q 0=(j:Int):=by
   grind
  have:=Tg (kd:=kd) h aI (by omega) e;omega
theorem Lw:(qD kd g m J).length=J:=by simp[qD]
theorem afI(h:u6 gd m J J (g,yr))(s:Nat):((rp (qD kd g m J) (s:Int)).length:Int)=((List.range m).countP λi=>decide (kd i=s)&&!decide (g.getD i 0=-1):Nat):=by
 rw[Lq,Lw,<-Te,<-Te];have E:∀ j,j<J->(if decide ((qD kd g m J).getD j 0=(s:Int))=true then (1:Int) else 0)=gz m λi=>if (decide (g.getD i 0=(j:Int))&&decide (kd i=s))=true then 1 else 0:=λj aI=>by
  by_cases hc:hX g (j:Int)=0
  ·rw[Th h aI hc,if_neg (by simp)];symm;rw[AA (g:=λ_=>0) λi D=>if_neg ?_,Dj];intro e;rw[ajm,ajl]at e;have af:=h.len;change g.length=m at af;have:=Lu (by omega) e.1;omega
  ·have hw:(qD kd g m J).getD j 0≠-1:=λe=>hc ((Ti h aI).1 e);obtain⟨q,bM,G4⟩:∃ q,q<m/\g.getD q 0=(j:Int):=by
    have aq:0<hX g (j:Int):=by omega
    unfold hX at aq;rw[aLJ]at aq;obtain⟨x,al,fq⟩:=aq;obtain⟨q,bM,rfl⟩:=List.mem_iff_getElem.1 al;have af:=h.len;change g.length=m at af;refine⟨q,by omega,?_⟩;grind
   rw[Tg h aI bM G4];symm;rw[afH (k:=q) bM λi D fc=>if_neg ?_]
   ·grind
   ·intro e;rw[ajm,ajl]at e;have af:=h.len;change g.length=m at af;exact fc (afu (j:=(j:Int)) (by omega) (h.one (j:Int) (by omega)) (by grind) (by grind) e.1 G4)
 rw[AA E,afG];refine AA λi D=>?_;rcases h.mx i D with e | ⟨ax,aU,_⟩
 ·change g.getD i 0=-1 at e;rw[AA (g:=λ_=>0) λj aI=>if_neg ?_,Dj,e]
  ·simp
  ·rw[e];simp
 ·change 0<=g.getD i 0 at ax;change g.getD i 0<(J:Int) at aU;have cD:¬g.getD i 0=-1:=by omega
  rw[afH (k:=(g.getD i 0).toNat) (by omega) λj aI fc=>if_neg ?_]
  ·have eZ:g.getD i 0=(((g.getD i 0).toNat:Nat):Int):=by omega
   rw[<-eZ];simp only[cD,aKP,aKe,aKO,aKF,Bool.and_true]
  ·simp only[ajm,ajl,not_and];intro e;omega
theorem axl{fit:List (z1')}{du:z1'}{F:Nat}(bF:m<F)(Lg:fit.length=J)(E_:∀ l∈fit,∀ s∈l,0<=s/\s<(du.length:Int))(afJ:∀ s,s<du.length->du.getD s 0=(((List.range m).countP λi=>decide (kd i=s):Nat):Int))
  (b3:∀ i,i<m->∀ j:Nat,j<J->(gd i (j:Int)=true<->(kd i:Int)∈wQ fit (j:Int))):(yq gd m J F).2=(J:Int) - hW fit du:=by
 have h:=afE gd m J F bF;revert h;generalize yq gd m J F=ae;obtain⟨g,yr⟩:=ae;intro h;have Ls:∀ j s,s∈wQ fit j->0<=s/\s<(du.length:Int):=λj s az=>by
  grind
 obtain⟨C,jj,G2,Lt⟩:=h.G1;have hinv:aft du.length fit du fit.length (qD kd g m J):=by
  refine⟨by rw[Lw,Lg],λs aZ aC=>?_,λj aI=>?_,λi E M=>by omega,C,λj aI s az=>?_,λc hc=>by grind,λj aI hu=>?_⟩
  ·obtain⟨k,rfl⟩:=Int.eq_ofNat_of_zero_le aZ;rw[afI h k,ajr,afJ k (by omega)];have:((List.range m).countP λi=>decide (kd i=k)&&!decide (g.getD i 0=-1))<=(List.range m).countP λi=>decide (kd i=k):=List.countP_mono_left λi _ D=>by
    grind
   omega
  ·rw[Lg]at aI;by_cases e:(qD kd g m J).getD j 0=-1
   ·omega
   ·right;have hc:¬hX g (j:Int)=0:=λhc=>e (Th h aI hc);have aq:0<hX g (j:Int):=by omega
    unfold hX at aq;rw[aLJ]at aq;obtain⟨x,al,fq⟩:=aq;obtain⟨q,bM,rfl⟩:=List.mem_iff_getElem.1 al;have af:=h.len;change g.length=m at af;have G4:g.getD q 0=(j:Int):=by
     grind
    rw[Tg h aI (by omega) G4];rcases h.mx q (by omega) with e | ⟨_,_,e⟩
    ·change g.getD q 0=-1 at e;omega
    ·change gd q (g.getD q 0)=true at e;rw[G4]at e;exact (b3 q (by rw[<-af];exact bM) j aI).1 e
  ·have aJF:=G2 j aI;have Jx:j=((j.toNat:Nat):Int):=by omega
   have afK:=Ls j s az;obtain⟨k,rfl⟩:=Int.eq_ofNat_of_zero_le afK.1;have gl:∀ i,i<m->kd i=k->g.getD i 0≠-1/\C (g.getD i 0):=λi D ah=>by
    refine jj j aI i D ?_;grind
   refine⟨?_,λo au=>?_⟩
   ·unfold S3;rw[afI h k,ajr,afJ k (by omega)];have:((List.range m).countP λi=>decide (kd i=k))=(List.range m).countP λi=>decide (kd i=k)&&!decide (g.getD i 0=-1):=aLy λi D=>by
     constructor
     ·intro h;rw[ajm];refine⟨h,?_⟩;have:=(gl i (List.mem_range.1 D) (by simpa using h)).1;simp only[aKj,aKB];exact this
     ·intro h;rw[ajm]at h;exact h.1
    omega
   ·have hm:=ae1.1 au;rw[Lw]at hm;obtain⟨i,D,E,M⟩:=axk h (by omega) (by omega) hm.2.2;have:=(gl i D (by omega)).2;rw[E]at this;rw[show o=((o.toNat:Nat):Int) from by omega];omega
  ·rw[Lg]at aI;exact Lt j aI ((Ti h aI).1 hu)
 have ND:=axg rfl E_ (λi D=>by grind) hinv;have d_:yr=((rp (qD kd g m J) (-1)).length:Int):=by
  have:=h.num;change yr=_ at this;rw[this,Lq,Lw];congr 1;refine aLy λj aI=>?_;simp only[ajl];exact (Ti h (List.mem_range.1 aI)).symm
 omega
end
end Go.Fer
namespace Go.Fer
def sy(t:fu)(sp:Int×Int)(j:rr):Bool:=decide (sp.2<=j.2.2)&&decide ((l4 t.2.2 (sp.1,j.1,j.2.1)).getD 0 > 0)
abbrev Dn:aF:=⟨.ar yk (.ar Li Ln),dm,λx=>∃ t,x.1=some t,λx=>sy (x.1.getD Ax) x.2.1 x.2.2⟩
theorem axm(x):aR (aaF x) (Dn.sh x):=bg λh=>by
 obtain⟨o,sp,j⟩:=x;obtain⟨t,aw⟩:=h;subst aw;unfold aaF bU cN hN gC;simp;rfl
def AE(t:fu)(l:List rr):Bool:=l.all λj=>(List.range t.1.2.1.length).any λ(i:Nat)=>sy t ((i:Int),0) j
abbrev Tj:aF:=⟨.ar yk (.slice Ln),dm,λx=>∃ t,x.1=some t/\t.1.2.1.length<2 ^ 63/\x.2.length<2 ^ 63,λx=>AE (x.1.getD Ax) x.2⟩
theorem axn(t:fu)(l:List rr)(E:t.1.2.1.length<2 ^ 63)(M:l.length<2 ^ 63):QW Dn.sh (some t,l)=mpure (AE t l):=by
 unfold QW b3 aL b1 aG aQ aB bj b_ e9 a7 ay hO a6;rw[db l (λi (_)=>(some t,l,(l.length:Int),(i:Int),())) (λj b=>if (!(List.range t.1.2.1.length).any λi=>sy t (i,0) j)=true then .done (.done false) else .next b) (λ_=>.next ()) () ?_ ?_ ?_]
 ·rw[j9   _ _ (λ_=>rfl)];unfold AE;cases l.all λj=>(List.range t.1.2.1.length).any λi=>sy t (i,0) j<;>simp
 ·rfl
 ·intro i D b;have hw:=bc (n:=i+1) (by omega) (by omega);simp only[ch,cT D,c_ D,cE D,aju];rw[db (List.range t.1.2.1.length) (λk b=>(some t,b,l,(l.length:Int),(i:Int),(t.1.2.1.length:Int),(k:Int),l[i],())) (λk b=>.next (b||sy t (k,0) l[i])) (λb=>.next (some t,b,l,l.length,i,())) false ?_ ?_ ?_]
  ·rw[cU];have e:∀ (r:List Nat) (b:Bool),r.foldl (λb (k:Nat)=>b||sy t (k,0) l[i]) b=(b||r.any λk=>sy t (k,0) l[i]):=by
    intro r;induction r<;>grind
   rw[e];cases (List.range t.1.2.1.length).any λk=>sy t (k,0) l[i]<;>simp[hw]
  ·rfl
  ·intro k ah b;have ah:k<t.1.2.1.length:=by grind
   have kM:=bc (n:=k+1) (by omega) (by omega);simp only[aF.sh,lr,ed];rw[bb (by simp)];simp only[cy,bq.ls];grind
  simp
 simp
theorem axo(x):aR (QW Dn.sh x) (Tj.sh x):=bg λh=>by
 obtain⟨o,l⟩:=x;obtain⟨t,aw,E,M⟩:=h;subst aw;exact axn t l E M
def hY(t:fu)(l:List rr)(i:Nat)(j:Int):Bool:=sy t (t.2.1.getD i (0,0)) (l.getD j.toNat (0,0,0))
abbrev Tk:=Option fu×List rr×Int×z3'×z1'×Unit
abbrev afL:=Bool×z3'×z1'×Unit
def wR(r:Bool×nG):afL:=(r.1,r.2.2,r.2.1,())
def Tl(f:Nat)(x:Tk):Prop:=∃ t,x.1=some t/\t.2.1.length<=200/\x.2.1.length<=1000/\0<=x.2.2.1/\x.2.2.1<(x.2.1.length:Int)/\AB t.2.1.length x.2.1.length f (x.2.2.2.2.1,x.2.2.2.1)
def wS(f:Nat)(x:Tk):G afL:=eL (Tl f x) (wR (lB (hY (x.1.getD Ax) x.2.1) (x.1.getD Ax).2.1.length f x.2.2.1 (x.2.2.2.2.1,x.2.2.2.1)))
theorem axp{t:fu}{l:List rr}(hm:t.2.1.length<=200)(af:l.length<=1000){f:Nat}{own:Int}(afA:0<=own)(afB:own<(l.length:Int)){ae:nG}(aZ:AB t.2.1.length l.length (f+1) ae) :
  Q4 Dn.sh (wS f) (some t,l,own,ae.2,ae.1,())=mpure (wR (lB (hY t l) t.2.1.length (f+1) own ae)):=by
 have Ab:=Td (gd:=hY t l) (m:=t.2.1.length) (J:=l.length) f;unfold Q4;simp only[ch,awa,aju];rw[d' (List.range t.2.1.length) (λi b=>(some t,l,own,t.2.1,(t.2.1.length:Int),(i:Int),b.2,b.1,())) (λi b=>bq.GR (λr=>.done (wR r)) (pI (hY t l) (lB (hY t l) t.2.1.length f) own i b)) (λb=>.next (b.2,b.1,())) (λi b=>b.1=ae.1/\∀ q,dR ae.2 q<=dR b.2 q/\dR b.2 q<=1) ae ?_ ?_ ?_ ?_]
 ·show _=mpure (wR (e' (pI (hY t l) (lB (hY t l) t.2.1.length f) own) (λae=>(false,ae)) (List.range t.2.1.length) ae));rw[SJ,SJ,ae5];cases Ap (pI (hY t l) (lB (hY t l) t.2.1.length f) own) (List.range t.2.1.length) ae<;>(simp;try rfl)
 ·rfl
 ·exact⟨rfl,λq=>⟨aKs _,(aZ.gF q).2⟩⟩
 ·intro i D b V;have D:i<t.2.1.length:=by grind
  have iG:=bc (n:=i+1) (by omega) (by omega);rw[aJ6];have axq:b.1.length=t.2.1.length:=by rw[V.1];exact aZ.len
  have bN:i<b.1.length:=by omega
  have axr:0<=own/\own<l.length:=⟨afA,afB⟩
  have lN:=V.2 i;have mW:=aZ.gF i;simp only[cT D,cE D,cE bN,axr,aF.sh,lY,fZ,ajr,aju];have b3:sy t (t.2.1.getD i (0,0)) (l.getD own.toNat (0,0,0))=hY t l i own:=rfl;rw[b3];have axs:(∃ dL,(some t)=some dL)=True:=by simp
  simp only[axs,aLg,aK0,aKH,aLY,bS];by_cases Dm:dR b.2 i > 0
  ·have hu:pI (hY t l) (lB (hY t l) t.2.1.length f) own i b=.next b:=by unfold pI;grind
   rw[hu];refine⟨?_,λbl da=>by cases da;omega⟩;simp only[Dm,aKP,Bool.true_or,if_true,aH,cp,cy,iG,false_imp_iff,aLq,bS,aKl];rfl
  ·by_cases aA:hY t l i own=true
   ·have bD:dR b.2 i=0:=by omega
    have Lm:=bc (n:=dR b.2 i+1) (by omega) (by omega);have lW:∀ q,dR b.2 q<=dR (gq b.2 i (dR b.2 i+1)) q/\dR (gq b.2 i (dR b.2 i+1)) q<=1:=λq=>by
     have:=V.2 q;rw[Dc];omega
    by_cases aw:b.1.getD i 0=-1
    ·have hu:pI (hY t l) (lB (hY t l) t.2.1.length f) own i b=.done (true,(b.1.set i own,gq b.2 i (dR b.2 i+1))):=by
      unfold pI;grind
     rw[hu];refine⟨?_,λbl da=>by cases da⟩;simp only[Dm,aA,aw,aKP,aKe,aKo,aKF,Bool.or_self,ajh,ajq,if_true,false_imp_iff,aLq,Bool.true_or,bS,aH,cy,Lm,true_imp_iff];rfl
    ·have aJG:=aZ.mx i D;have aI:0<=b.1.getD i 0/\b.1.getD i 0<l.length:=by grind
     have yp:AB t.2.1.length l.length f (b.1,gq b.2 i (dR b.2 i+1)):=by
      refine⟨axq,?_,λk=>⟨?_,(lW k).2⟩,?_⟩
      ·rw[V.1];exact aZ.mx
      ·have:=(lW k).1;have:=V.2 k;have:=(aZ.gF k).1;grind
      ·have E:=ae3 (n:=t.2.1.length)     (v:=dR b.2 i+1) (by omega) (by omega) bD (by omega);have M:=ae4 (n:=t.2.1.length)     λk=>⟨(aZ.gF k).1,(V.2 k).1⟩
       have ai:=aZ.de;grind
     obtain⟨Cb,axt⟩:=Ab (b.1.getD i 0) (b.1,gq b.2 i (dR b.2 i+1)) aI.1 aI.2 yp;have iR:Tl f (some t,l,b.1.getD i 0,gq b.2 i (dR b.2 i+1),b.1,()):=⟨t,rfl,hm,af,aI.1,aI.2,yp⟩
     have zI:wS f (some t,l,b.1.getD i 0,gq b.2 i (dR b.2 i+1),b.1,())=mpure (wR (lB (hY t l) t.2.1.length f (b.1.getD i 0) (b.1,gq b.2 i (dR b.2 i+1)))):=bJ iR _;simp only[Dm,aA,aw,aKe,aKo,aKF,ajh,ajq,if_true,aKZ,bS,cy,Lm,true_imp_iff,zI];have cM:=Cb.len;have aJH:=Cb.gF;have aJI:=axt.Ta;have axu:pI (hY t l) (lB (hY t l) t.2.1.length f) own i b=if (lB (hY t l) t.2.1.length f (b.1.getD i 0) (b.1,gq b.2 i (dR b.2 i+1))).1=true then .done (true,((lB (hY t l) t.2.1.length f (b.1.getD i 0) (b.1,gq b.2 i (dR b.2 i+1))).2.1.set i own,(lB (hY t l) t.2.1.length f (b.1.getD i 0) (b.1,gq b.2 i (dR b.2 i+1))).2.2)) else .next (lB (hY t l) t.2.1.length f (b.1.getD i 0) (b.1,gq b.2 i (dR b.2 i+1))).2:=by
      unfold pI;grind
     rw[axu];generalize lB (hY t l) t.2.1.length f (b.1.getD i 0) (b.1,gq b.2 i (dR b.2 i+1))=r at *
     obtain⟨ok,g',s'⟩:=r;have ug:i<g'.length:=by grind
     cases ok with
     | true=>
      refine⟨?_,λbl da=>by cases da⟩;simp only[wR,if_true,cE ug,bS,aH,tl,bq.ls,bq.GR]
     | false=>
      refine⟨?_,λbl da=>?_⟩
      ·simp only[wR,ajh,ajq,aH,cp,iG,bq.GR];rfl
      ·cases da;grind
   ·have hu:pI (hY t l) (lB (hY t l) t.2.1.length f) own i b=.next b:=by unfold pI;grind
    rw[hu];refine⟨?_,λbl da=>by cases da;omega⟩;simp only[Dm,aA,aKe,aKF,Bool.or_true,if_true,aH,cp,cy,iG,bS,aKl];rfl
 simp
theorem axv(f:Nat)(x):aR (Q4 Dn.sh (wS f) x) (wS (f+1) x):=bg λh=>by
 obtain⟨o,l,own,gF,g,u⟩:=x;obtain⟨t,aw,hm,af,aZ,E,yp⟩:=h;subst aw;exact axp   hm af aZ E yp
theorem axw(x:Tk):¬(wS 0 x).et:=λ⟨_,_,_,_,_,_,h⟩=>absurd h.de (by omega)
def u7(t:fu)(l:List rr):Int:=(yq (hY t l) t.2.1.length l.length 201).2
abbrev Lx:aF:=⟨.ar yk (.slice Ln),bp,λx=>∃ t,x.1=some t/\t.2.1.length<=200/\x.2.length<=1000,λx=>u7 (x.1.getD Ax) x.2⟩
theorem axx(t:fu)(l:List rr)(hm:t.2.1.length<=200)(af:l.length<=1000):QX yi (wS 201) (some t,l)=mpure (u7 t l):=by
 unfold QX b1 aG aQ aB bj a7 ay;unfold yi;simp;rw[bb (by grind)];rw[d' (List.range l.length) (λi b=>(some t,l,b.2,(l.length:Int),(i:Int),b.1,())) (λi b=>.next (u5 (hY t l) t.2.1.length 201 b i)) (λb=>.next (b.2,())) (λi b=>u6 (hY t l) t.2.1.length l.length i b/\0<=b.2/\b.2<=i) (List.replicate t.2.1.length (-1),0) ?_ ?_ ?_ ?_]
 ·rw[cU,aH];rfl
 ·rfl
 ·refine⟨?_,by simp⟩;have:=afE (hY t l) t.2.1.length 0 201 (by omega);exact⟨this.len,this.mx,this.one,this.num,this.G1⟩
 ·intro i D b V;have D:i<l.length:=by grind
  have iG:=bc (n:=i+1) (by omega) (by omega);rw[aJ6];obtain⟨g,n⟩:=b;obtain⟨V,xi,vW⟩:=V;have yg:=bc (n:=n+1) (by omega) (by omega);have iR:Tl 201 (some t,l,i,[],g,()):=by
   refine⟨t,rfl,hm,af,Int.natCast_nonneg i,Int.ofNat_lt.2 D,V.len,λk ah=>?_,λk=>by simp[dR,wI],?_⟩
   ·rcases V.mx k ah with h | h<;>grind
   ·have:wK t.2.1.length []<=t.2.1.length:=by
     exact aKa List.countP_le_length (by simp)
    grind
  have zI:wS 201 (some t,l,i,[],g,())=mpure (wR (lB (hY t l) t.2.1.length 201 i (g,[]))):=bJ iR _;have FD:=afD (F:=201) (by omega) D V;refine⟨?_,λbl da=>?_⟩
  ·simp  [zI,wR];unfold u5;cases cJ:(lB (hY t l) t.2.1.length 201 (i:Int) (g,[])).1<;>simp_all
  ·cases da;refine⟨FD,?_⟩;unfold u5;omega
 simp
theorem axy(x):aR (QX yi (wS 201) x) (Lx.sh x):=bg λh=>by
 obtain⟨o,l⟩:=x;obtain⟨t,aw,E,M⟩:=h;subst aw;exact axx t l E M
theorem Tm{s:aS}(ab:fg s):(yj s).length<=200:=by
 have E:∀ (l:List Nat),(∀ i∈l,i<s.2.1.length)->(l.flatMap λ(i:Nat)=>l6 (i,0) (s.2.1.getD i 0)).length<=10*l.length:=by
  intro l;induction l with
  | nil=>simp
  | cons i l aP=>
   intro af;have E:=aP λj aI=>af j (by grind);have M:=af i (by simp);have ai:=ab.b9 _ (ajj M);have jF:s.2.1.getD i 0=s.2.1[i]:=by grind
   rw[aKG,aKx,aKN];simp only[l6,aKL];simp only[l6]at E;omega
 have M:∀ (l:List fM),(∀ d∈l,qx s.1 d=true)->(l.flatMap λd=>l6 (d.2.1,d.1) d.2.2).length<=10*l.length:=by
  intro l;induction l with
  | nil=>simp
  | cons d l aP=>
   intro af;have E:=aP λj aI=>af j (by grind);have ai:=af d (by simp);simp  [qx,cg,ajl]at ai;rw[aKG,aKx,aKN];simp only[l6,aKL];simp only[l6]at E;omega
 have b:=M s.2.2.2.2.1 ab.Lk;have c:=ab.Au;have d:=ab.GY;have e:=ab.tC;unfold yj Df SR;grind
theorem Tn{s:aS}(ab:fg s){bm:z1'}(aq:jc s bm):(iH s bm).1.length<=24:=by
 unfold iH;split
 ·have:∀ (l:List Nat),(∀ i∈l,i<bm.length)->(l.flatMap λi=>(l7 s bm i).getD []).length<=4*l.length:=by
   intro l;induction l with
   | nil=>simp
   | cons i l aP=>
    intro af;have E:=aP λj aI=>af j (by grind);have M:=af i (by simp);rw[aKG,aKx,aKN];have:((l7 s bm i).getD []).length<=4:=by
     cases h:l7 s bm i with
     | none=>simp
     | some y=>exact afd ab aq M h
    omega
  have:=aq.1;have:=ab.nc;grind
 simp
def pJ(s:aS)(bm:z1'):Bool:=(iH s bm).2&&decide (u7 (dw s) (iH s bm).1=0)
abbrev AF:aF:=⟨.ar yk dV,dm,λx=>∃ s,yl x.1 s/\jc s x.2,λx=>pJ (pG x.1) x.2⟩
theorem axz(x):aR (aap Lo.sh Lx.sh x) (AF.sh x):=bg λh=>by
 obtain⟨o,bm⟩:=x;obtain⟨s,⟨aw,ab⟩,aq⟩:=h;subst aw;unfold aap bU b3;simp only[aF.sh,ed,lr];rw[bb (by exact⟨s,⟨rfl,ab⟩,aq⟩),bb (by exact λ_=>⟨dw s,rfl,Tm ab,aKa (Tn ab aq) (by omega)⟩)];show mpure ((iH s bm).2&&decide ((if (iH s bm).2=true then u7 (dw s) (iH s bm).1 else 0)=0))=mpure (pJ s bm);unfold pJ;grind
def pK(s:aS)(first:z1')(p:Nat):Bool:=!(first.contains (p:Int)||decide (n8 (h9 s (first.length:Int)) (h_ s (p:Int))=0))
def jr(s:aS)(e:Int):Nat->z1'->List (z1')
 | 0,first=>[first]
 | n+1,first=>((List.range s.2.2.1.length).flatMap λp=>if pK s first p=true then jr s e n (first++[(p:Int)]) else [])++(if e=0 then [] else jr s e n (first++[-1]))
abbrev afM:Type:=Nat×(List (z1')->Prop)×List (z1')×Bool
abbrev To:Type:=Option fu×z1'×Int×Nat×afM×Unit
abbrev afN:Type:=Bool×afM×Unit
structure Tp(f:Nat)(x:To)(s:aS)(n:Nat)(a b:List (z1')):Prop where
 aJJ:yl x.1 s
 len:x.2.1.length+n=s.2.2.2.1.length
 de:n<f
 aJK:x.2.2.2.2.1.1=x.2.2.2.1
 hx:x.2.2.2.2.1.2.2.2=false
 seq:x.2.2.2.2.1.2.1=λT=>T=a++jr s x.2.2.1 n x.2.1++b
 pos:x.2.2.2.2.1.2.2.1=a
def axA(x:To)(y:afN):Prop:=y.2.1.1=x.2.2.2.1/\y.2.1.2.1=x.2.2.2.2.1.2.1/\(y.1=true->y.2.1.2.2.2=false/\y.2.1.2.2.1=x.2.2.2.2.1.2.2.1++jr (pG x.1) x.2.2.1 ((pG x.1).2.2.2.1.length - x.2.1.length) x.2.1)/\(y.1=false->y.2.1.2.2.2=true)
def tE(f:Nat)(x:To):G afN:=⟨∃ s n a b,Tp f x s n a b,axA x⟩
def nI(s:aS)(e:Int)(n:Nat)(first:z1')(k:Nat):List (z1'):=(List.range k).flatMap λp=>if pK s first p=true then jr s e n (first++[(p:Int)]) else []
theorem Ly(s:aS)(e:Int)(n:Nat)(first:z1')(k:Nat):nI s e n first (k+1)=nI s e n first k++(if pK s first k=true then jr s e n (first++[(k:Int)]) else []):=by
 unfold nI;rw[aLd,aLH];simp
theorem axB(s:aS)(e:Int)(n:Nat)(first:z1'){k m:Nat}(h:k<=m):∃ t,nI s e n first m=nI s e n first k++t:=by
 induction m with
 | zero=>simp_all
 | succ m aP=>
  by_cases ah:k=m+1
  ·simp_all
  ·obtain⟨t,aT⟩:=aP (by omega);rw[Ly,aT,aK1];simp
theorem axC{f:Nat}{s:aS}(ab:fg s){first:z1'}{e:Int}{l:Nat}{L:List (z1')->Prop}{n:Nat}(hlen:first.length+n=s.2.2.2.1.length)(aw:n<f+1){a b:List (z1')}(kF:L=λT=>T=a++jr s e n first++b) :
  dj (Q5 qz.sh (tE f) i'.sh (some (dw s),first,e,l,(l,L,a,false),())) λy=>y.2.1.1=l/\y.2.1.2.1=L/\(y.1=true->y.2.1.2.2.2=false/\y.2.1.2.2.1=a++jr s e n first)/\(y.1=false->y.2.1.2.2.2=true):=by
 have h5:(dw s).1=s:=rfl;have sx:=ab.nc;have G5:=ab.wM;unfold Q5 bU aL b1 bN aG aQ aB b_ e9 a7 ay a6 bT eS kJ;simp only[aKf,aju,bS,ch,h5];cases n with
 | zero=>
  have an:decide ((first.length:Int)=(s.2.2.2.1.length:Int))=true:=by grind
  have aA:∃ T,L (a++first::T):=⟨b,by rw[kF];show _=_;simp[jr]⟩
  simp only[an,if_true,aK0,aKH];rw[bb aA,hp];refine⟨⟨true,trivial⟩,λy _=>eY.2 ?_⟩;refine⟨rfl,rfl,λh=>?_,λh=>?_⟩
  ·change y=true at h;subst h;exact⟨rfl,rfl⟩
  grind
 | succ n=>
  have an:decide ((first.length:Int)=(s.2.2.2.1.length:Int))=false:=by grind
  simp only[an,ajh,ajq,hp];obtain⟨z,bD⟩:∃ z,jr s e (n+1) first=nI s e n first s.2.2.1.length++z:=⟨_,rfl⟩
  refine av_ s.2.2.1.length (λk q=>q=(some (dw s),first,e,l,(first.length:Int),s.2.2.1,(s.2.2.1.length:Int),(k:Int),(l,L,a++nI s e n first k,false),())) ?_ ?_ ?_
  ·show _=_;simp[nI]
  ·rintro k ah q rfl;have kM:=bc (n:=(k:Int)+1) (by omega) (by omega);have gH:first.length<2 ^ 63:=by omega
   have qC:first.length<s.2.2.2.1.length:=by omega
   have wO:=ym qC;have wP:List.getD s.2.2.2.1 first.length ([],(0,0),0,0,0)=h9 s (first.length:Int):=rfl
   have Di:s.2.2.1[k]=h_ s (k:Int):=by simp[h_,aJ7,ah]
   have oD:qz.pre (h9 s (first.length:Int),h_ s (k:Int)):=ab.fB.2.2.2.2.2.2 _ wO;have axD:(first.length<2 ^ 63)=True:=by grind
   simp only[cT ah,if_true,cE ah,c_ ah,bS,aF.sh,lY,fZ,axD,h5,ajr,cE qC,wP,Di,aLg,aK0,aKH,aLY,aKl];have axE:((h9 s (first.length:Int)).1.length<2 ^ 63)=True:=by grind
   have axF:List.getD s.2.2.1 k (0,0,0,0,[])=h_ s (k:Int):=rfl;have fc:first.contains (k:Int)=false->(!first.contains (k:Int))=true:=λh=>by grind
   have dN:((0:Int)<=0/\0<=(first.length:Int)/\(first.length:Int)<=(first.length:Int))=True:=by simp
   have mL:List.take first.length first=first:=aKE
   have ix:(0<Add.add 0 1/\bW (Add.add first.length (Add.add 0 1))):=⟨by decide,by show bW (first.length+1);unfold bW;omega⟩
   have iz:(first.contains (k:Int)||decide (n8 (h9 s (first.length:Int)) (h_ s (k:Int))=0))=!pK s first k:=by unfold pK;simp
   have lq:first.contains (k:Int)=first.contains (k:Int):=rfl
   simp only[aKf,aju,h5,cE qC,wP,axF,axE,aLg,aK0,aKH,aLY,aKl,bS,bb fc,iz,dN,mL];rw[bb (by omega)];obtain⟨t,aT⟩:=axB s e n first (show k+1<=s.2.2.1.length by omega)
   cases aC:pK s first k with
   | false=>
    simp only[aKF,if_true,aH,cp,eY,cy,kM];show _=_;rw[Ly,aC];simp
   | true=>
    rw[Ly,aC,if_pos rfl]at aT;simp only[aKo,ajh,ajq,hp];have Gy:Tp f (some (dw s),first++[(k:Int)],e,l,(l,L,a++nI s e n first k,false),()) s n (a++nI s e n first k) (t++z++b):=by
     refine⟨⟨rfl,ab⟩,by grind,by omega,rfl,rfl,?_,rfl⟩;grind
    refine⟨⟨s,n,_,_,Gy⟩,λy bh=>?_⟩;obtain⟨lg,⟨afO,afP,Tq,bA⟩,axG⟩:=y;obtain⟨dh,ee,rN,Aq⟩:=bh;change afO=l at dh;change afP=L at ee;subst dh;subst ee;cases lg with
    | false=>
     have bf:bA=true:=Aq rfl;subst bf;simp only[aKF,if_true,aH,eY,tl];simp
    | true=>
     obtain⟨b2,d_⟩:=rN rfl;change bA=false at b2;change Tq=(a++nI s e n first k)++jr s e (s.2.2.2.1.length - (first++[(k:Int)]).length) (first++[(k:Int)]) at d_;have tc:s.2.2.2.1.length - (first++[(k:Int)]).length=n:=by grind
     rw[tc]at d_;subst b2;subst d_;simp only[aKo,ajh,ajq,aH,eY,cp,cy,kM];show _=_;rw[Ly,aC,if_pos rfl];simp
  ·rintro q rfl;have mL:List.take first.length first=first:=aKE
   have dN:((0:Int)<=0/\0<=(first.length:Int)/\(first.length:Int)=(first.length:Int)/\(first.length:Int)<=(first.length:Int))=True:=by simp
   have ix:(0<Add.add 0 1/\bW (Add.add first.length (Add.add 0 1))):=⟨by decide,by show bW (first.length+1);unfold bW;omega⟩
   simp only[Int.lt_irrefl,aKe,ajh,ajq,aH,eY,cp,dN,mL,ajr,aLg];by_cases he:e=0
   ·have BA:jr s e (n+1) first=nI s e n first s.2.2.1.length:=by
     show nI s e n first s.2.2.1.length++(if e=0 then [] else jr s e n (first++[-1]))=_
     grind
    simp only[he,aKP,aKo,ajh,ajq,false_imp_iff,bS,Bool.true_or,eY,aLq,aKH,aKl];grind
   ·have BA:jr s e (n+1) first=nI s e n first s.2.2.1.length++jr s e n (first++[-1]):=by
     show nI s e n first s.2.2.1.length++(if e=0 then [] else jr s e n (first++[-1]))=_
     grind
    simp only[he,aKe,aKF,if_true,true_imp_iff,bS,aKZ,aKH,aKl];rw[bb (by simp),bb (by omega)];have Gy:Tp f (some (dw s),first++[-1],e,l,(l,L,a++nI s e n first s.2.2.1.length,false),()) s n (a++nI s e n first s.2.2.1.length) b:=by
     refine⟨⟨rfl,ab⟩,by grind,by omega,rfl,rfl,?_,rfl⟩;grind
    rw[hp];refine⟨⟨s,n,_,_,Gy⟩,λy bh=>eY.2 ?_⟩;obtain⟨lg,⟨afO,afP,Tq,bA⟩,axG⟩:=y;obtain⟨dh,ee,rN,Aq⟩:=bh;refine⟨dh,ee,λh=>?_,Aq⟩;obtain⟨b2,d_⟩:=rN h;change Tq=(a++nI s e n first s.2.2.1.length)++jr s e (s.2.2.2.1.length - (first++[(-1:Int)]).length) (first++[-1]) at d_;grind
theorem axH(f:Nat)(x):aR (Q5 qz.sh (tE f) i'.sh x) (tE (f+1) x):=λh=>by
 obtain⟨o,first,e,l,⟨eo,L,p,ae⟩,u⟩:=x;obtain⟨s,n,a,b,aq⟩:=h;obtain⟨⟨aw,ab⟩,E,M,ai,bf,b2,d_⟩:=aq;change o=_ at aw;change eo=l at ai;change ae=false at bf;change p=a at d_;change L=_ at b2;change first.length+n=_ at E
 change _ at b2;subst aw;subst ai;subst bf;subst d_;have tc:(pG (some (dw s))).2.2.2.1.length - first.length=n:=by show s.2.2.2.1.length - first.length=n;omega
 refine dj.mono (axC ab E M b2) λy bh=>⟨bh.1,bh.2.1,λh=>?_,bh.2.2.2⟩
 obtain⟨aY,a_⟩:=bh.2.2.1 h;refine⟨aY,?_⟩;rw[a_];show _=p++jr (pG (some (dw s))) e ((pG (some (dw s))).2.2.2.1.length - first.length) first
 rw[tc];rfl
theorem axI(x):¬(tE 0 x).et:=λ⟨s,n,a,b,h⟩=>by have:=h.de;omega
def kf(e:Int)(s:aS):List (z1'):=jr s e s.2.2.2.1.length []
def AG(o:Option fu):Prop:=∃ s,yl o s
def Lz(o:Option fu):List (z1'):=kf 1 (pG o)
def Tr(o:Option fu):List (z1'):=kf 0 (pG o)
theorem axJ(s:aS)(ab:fg s)(l:Nat):dj (Km (tE 10) (some (dw s),l,(l,(λT=>T=kf 1 s),[],false),())) λy=>y.1.1=l/\y.1.2.1=(λT=>T=kf 1 s)/\(y.1.2.2.2=false->y.1.2.2.1=kf 1 s):=by
 unfold Km;rw[hp];have sx:=ab.nc;refine⟨⟨s,s.2.2.2.1.length,[],[],⟨rfl,ab⟩,by simp,by omega,rfl,rfl,by show (λT=>T=kf 1 s)=_;simp[kf],rfl⟩,λy bh=>eY.2 ?_⟩;obtain⟨dh,ee,rN,Aq⟩:=bh;refine⟨dh,ee,λh=>?_⟩;cases E:y.1 with
 | false=>grind
 | true=>
  obtain⟨_,ai⟩:=rN E;show y.2.1.2.2.1=_;rw[ai];rfl
theorem axK(s:aS)(ab:fg s)(l:Nat):dj (Kn (tE 10) (some (dw s),l,(l,(λT=>T=kf 0 s),[],false),())) λy=>y.1.1=l/\y.1.2.1=(λT=>T=kf 0 s)/\(y.1.2.2.2=false->y.1.2.2.1=kf 0 s):=by
 unfold Kn;rw[hp];have sx:=ab.nc;refine⟨⟨s,s.2.2.2.1.length,[],[],⟨rfl,ab⟩,by simp,by omega,rfl,rfl,by show (λT=>T=kf 0 s)=_;simp[kf],rfl⟩,λy bh=>eY.2 ?_⟩;obtain⟨dh,ee,rN,Aq⟩:=bh;refine⟨dh,ee,λh=>?_⟩;cases E:y.1 with
 | false=>grind
 | true=>
  obtain⟨_,ai⟩:=rN E;show y.2.1.2.2.1=_;rw[ai];rfl
theorem Ts{A ag:Type}{body:A->ag->G (dQ×A)}(g:A->ag->A)(I:A->Prop):∀ (l:List ag) (s:A),I s->(∀ x∈l,∀ s,I s->body s x=mpure (dQ.normal,g s x)/\I (g s x))->kY body l s=mpure (dQ.normal,l.foldl g s)
 | [],s,_,_=>rfl
 | x::l,s,fa,h=>by
  obtain⟨E,M⟩:=h x (by simp) s fa;unfold kY;rw[E,aH];exact Ts g I l (g s x) M λy bh=>h y (ajp _ bh)
theorem Tt{s:aS}{e:Int}:∀ {n:Nat} {first y:z1'},y∈jr s e n first->y.length=first.length+n/\∀ p∈y,p∈first\/p=-1\/(0<=p/\p<(s.2.2.1.length:Int))
 | 0,first,y,h=>by
  simp  [jr]at h;grind
 | n+1,first,y,h=>by
  simp only[jr,List.mem_append,aLl]at h;rcases h with⟨p,aq,h⟩ | h
  ·split at h
   ·obtain⟨E,M⟩:=Tt h;grind
   grind
  ·split at h
   ·grind
   ·obtain⟨E,M⟩:=Tt h;grind
theorem LA{s:aS}{e:Int}{y:z1'}(h:y∈kf e s):y.length=s.2.2.2.1.length/\jc s y:=by
 obtain⟨E,M⟩:=Tt h;have E:y.length=s.2.2.2.1.length:=by grind
 refine⟨E,by omega,λp aq=>?_⟩;grind
theorem axL(s:aS):jc s (List.replicate s.2.2.2.1.length (-1)):=⟨by simp,λp aq=>by grind⟩
def n_(s:aS)(b y:z1'):z1':=if (decide (iI s y > iI s b)&&pJ s y)=true then y else b
def tF(s:aS):z1':=(kf 1 s).foldl (n_ s) (List.replicate s.2.2.2.1.length (-1))
theorem afQ{s:aS}:∀ (l:List (z1')) (b:z1'),(∀ y∈l,y.length=s.2.2.2.1.length/\jc s y)->(b.length=s.2.2.2.1.length/\jc s b)->((l.foldl (n_ s) b).length=s.2.2.2.1.length/\jc s (l.foldl (n_ s) b))
 | [],b,_,V=>V
 | y::l,b,af,V=>by
  refine afQ l _ (λz bD=>af z (ajp _ bD)) ?_;unfold n_;grind
theorem afR(s:aS):(tF s).length=s.2.2.2.1.length/\jc s (tF s):=afQ _ _ (λ_ h=>LA h) ⟨by simp,axL s⟩
abbrev Tu:aF:=⟨yk,dV,λo=>∃ s,yl o s,λo=>tF (pG o)⟩
theorem axM(s:aS)(ab:fg s):QZ Lh.sh AF.sh yn.sh AG Lz (some (dw s))=mpure (tF s):=by
 unfold QZ aB bT eS fY;have sx:=ab.nc;have h5:(dw s).1=s:=rfl;have iR:AG (some (dw s)):=⟨s,rfl,ab⟩
 have AH:Lz (some (dw s))=kf 1 s:=rfl;simp only[aKf,aju,bS,ch,h5,aF.sh,ed,AH];rw[bb (by grind),bb iR];simp only[ajr];rw[Ts (λb y=>(some (dw s),n_ s b.2.1 y,())) (λb=>b.1=some (dw s)/\b.2.1.length=s.2.2.2.1.length) (kf 1 s) (some (dw s),List.replicate s.2.2.2.1.length (-1),()) ⟨rfl,by simp⟩ ?_]
 ·have aw:∀ (l:List (z1')) (b:z1'),l.foldl (λb y=>(some (dw s),n_ s b.2.1 y,())) (some (dw s),b,())=(some (dw s),l.foldl (n_ s) b,()):=by
   intro l;induction l<;>grind
  rw[aw,aH];rfl
 ·intro y bh b V;obtain⟨cm,eX,axN⟩:=b;obtain⟨pv,vD⟩:=V;subst pv;obtain⟨r0,q2⟩:=LA bh;have fW:yn.pre (some (dw s),y):=⟨s,⟨rfl,ab⟩,by grind⟩
  have lh:yn.pre (some (dw s),eX):=⟨s,⟨rfl,ab⟩,by grind⟩
  have p4:AF.pre (some (dw s),y):=⟨s,⟨rfl,ab⟩,q2⟩
  refine⟨?_,rfl,?_⟩
  ·simp only[lY,fZ,bb fW,bb lh,aLg,aKH,n_];have dh:∀ c,(c->c/\(∃ oV,yl (some (dw s)) oV/\jc oV y)):=λc h=>⟨h,p4⟩
   rw[bb (dh _)];have ax:pG (some (dw s))=s:=rfl;simp only[ax];cases hc:(decide (iI s y > iI s eX)&&pJ s y)<;>simp
  ·unfold n_;grind
theorem axO(x):aR (QZ Lh.sh AF.sh yn.sh AG Lz x) (Tu.sh x):=bg λh=>by
 obtain⟨s,aw,ab⟩:=h;subst aw;exact axM s ab
theorem LB{s:aS}{cv:Bool}(h:fJ s cv=0):Av s cv=(some (dw s),0):=by simp[Av,h]
theorem LC{s:aS}{cv:Bool}(h:fJ s cv≠0):Av s cv=(none,fJ s cv):=by simp[Av,h]
def rs(s:aS)(cv:Bool):Int×Int:=if fJ s cv≠0 then (0,fJ s cv) else (iI s (tF s),0)
abbrev Tv:aF:=⟨.ar hE dm,.ar bp bp,λx=>eN x.1,λx=>rs x.1 x.2⟩
theorem axP(x):aR (aan Dg.sh Tu.sh yn.sh x) (Tv.sh x):=bg λh=>by
 unfold aan aG;show _=mpure (rs x.1 x.2);unfold rs;simp only[aF.sh,ed];rw[bb (by omega)];by_cases ah:fJ x.1 x.2=0
 ·have ab:=qB h (oU ah).1;simp only[LB ah,ah,ajq];rw[bb (by exact⟨x.1,rfl,ab⟩),bb (by exact⟨x.1,⟨rfl,ab⟩,aLR (afR x.1).1⟩)];rfl
 ·simp[LC ah,ah]
abbrev LD:aF:=⟨hE,.ar bp bp,eN,λs=>rs s true⟩
theorem axQ(x):aR (aaa Tv.sh x) (LD.sh x):=bg λh=>by
 unfold aaa;simp  [aF.sh];simp_all
def u9(s:aS)(n:Int)(y:z1'):Int:=if (!(iH s y).2||!AE (dw s) (iH s y).1)=true then n else if (decide (n=-1)||decide (u7 (dw s) (iH s y).1<n))=true then u7 (dw s) (iH s y).1 else n
def AI(s:aS):Int:=(kf 0 s).foldl (u9 s) (-1)
def sz(s:aS):Int×Int:=if fJ s true≠0 then (0,fJ s true) else if AI s=-1 then (0,3) else (AI s,0)
abbrev LF:aF:=⟨hE,.ar bp bp,eN,sz⟩
theorem axR(x):aR (aab Dg.sh AG Tr Lo.sh Tj.sh Lx.sh x) (LF.sh x):=bg λh=>by
 unfold aab py b3 bN aG;show _=mpure (sz x);unfold sz;simp only[aF.sh,ed];rw[bb (by omega)];by_cases ah:fJ x true=0
 ·have ab:=qB h (oU ah).1;have iR:AG (some (dw x)):=⟨x,rfl,ab⟩
  have AH:Tr (some (dw x))=kf 0 x:=rfl;simp only[LB ah,AH];rw[bb iR];rw[Ts (λb y=>(some (dw x),u9 x b.2.1 y,())) (λb=>b.1=some (dw x)) (kf 0 x) (some (dw x),-1,()) rfl ?_]
  ·have aw:∀ (l:List (z1')) (b:Int),l.foldl (λb y=>(some (dw x),u9 x b.2.1 y,())) (some (dw x),b,())=(some (dw x),l.foldl (u9 x) b,()):=by
    intro l;induction l<;>grind
   rw[aw,aH];show (if decide (AI x=-1)=true then mpure ((0),(3)) else mpure (AI x,0))=_;grind
  ·intro y bh b V;obtain⟨cm,eX,axN⟩:=b;subst V;obtain⟨r0,q2⟩:=LA bh;have FE:=Tn ab q2;have fW:∃ oV,yl (some (dw x)) oV/\jc oV y:=⟨x,⟨rfl,ab⟩,q2⟩
   have eG:=h.2.1;have lh:∃ t,some (dw x)=some t/\t.1.2.1.length<2 ^ 63/\(iH x y).1.length<2 ^ 63:=⟨_,rfl,eG,by omega⟩
   have p4:∃ t,some (dw x)=some t/\t.2.1.length<=200/\(iH x y).1.length<=1000:=⟨_,rfl,Tm ab,by omega⟩
   have ax:pG (some (dw x))=x:=rfl;have aU:Option.getD (some (dw x)) Ax=dw x:=rfl;simp only[ax,aU];rw[bb fW];simp only[lh,aKl,bS];rw[bb (by omega)];unfold u9;cases E:(iH x y).2
   ·simp
   ·cases M:AE (dw x) (iH x y).1
    ·simp
    ·cases ai:(decide (eX=-1)||decide (u7 (dw x) (iH x y).1<eX))<;>simp
 ·simp[LC ah,ah]
def oW(s:aS)(w p:Int):z1':=(List.replicate s.2.2.2.1.length (-1)).set w.toNat p
def LG(s:aS)(w:Int):z1':=((List.range s.2.2.1.length).filter λ(p:Nat)=>pJ s (oW s w (p:Int))).map λ(p:Nat)=>(p:Int)
def qE(s:aS)(w:Int):z1'×Int:=if fJ s (tB s w)≠0 then ([],fJ s (tB s w)) else (LG s w,0)
abbrev LH:aF:=⟨.ar hE bp,.ar dV bp,λx=>eN x.1,λx=>qE x.1 x.2⟩
theorem G6{ag bet:Type}{p:ag->Bool}{g:ag->bet}:∀ (l:List ag) (b:List bet),l.foldl (λb x=>if p x=true then b++[g x] else b) b=b++(l.filter p).map g
 | [],b=>by simp
 | x::l,b=>by
  simp;rw[G6 l];grind
theorem Tw{s:aS}{w:Int}{p:Nat}(aq:p<s.2.2.1.length):jc s (oW s w (p:Int)):=by
 refine⟨by simp[oW],λq bM=>?_⟩;unfold oW at bM;grind
theorem axS(x):aR (aac Dg.sh Dd.sh yi AF.sh x) (LH.sh x):=bg λh=>by
 obtain⟨s,w⟩:=x;change eN s at h;unfold aac b1 bN aG aQ aB bj a7 ay cM a6 bT eS;show _=mpure (qE s w);unfold qE;simp only[aF.sh,lY,fZ];rw[bb (by omega),bb (by omega)];by_cases ah:fJ s (tB s w)=0
 ·have ab:=qB h (oU ah).1;have hw:=ae9.1 (oU ah).2.1;have sx:=ab.nc;have G5:=ab.wM;simp only[LB ah,ah,ajq];unfold yi;simp only[ed,ch];rw[bb (by grind)];rw[d' (List.range s.2.2.1.length) (λi b=>(w,some (dw s),(s.2.2.1.length:Int),(i:Int),b.1,b.2,())) (λp b=>.next (if pJ s (oW s w p)=true then b.1++[(p:Int)] else b.1,oW s w p)) (λb=>.next (b.1,())) (λi b=>b.1.length<=i/\∀ p,b.2.set w.toNat p=oW s w p) ([],List.replicate s.2.2.2.1.length (-1)) ?_ ?_ ?_ ?_]
  ·rw[cU];have aw:∀ (l:List Nat) (b:z1'×z1'),(l.foldl (λb (p:Nat)=>(if pJ s (oW s w p)=true then b.1++[(p:Int)] else b.1,oW s w p)) b).1=l.foldl (λb (p:Nat)=>if pJ s (oW s w p)=true then b++[(p:Int)] else b) b.1:=by
    intro l;induction l<;>grind
   rw[aw,G6,aH];rfl
  ·rfl
  ·exact⟨ajn _,λp=>rfl⟩
  ·intro i D b V;have D:i<s.2.2.1.length:=by grind
   have iG:=bc (n:=i+1) (by omega) (by omega);obtain⟨cm,eX⟩:=b;obtain⟨pv,vD⟩:=V;change cm.length<=i at pv;have ix:bW (cm.length+(0+1)):=by unfold bW;omega
   have hlen:=by
    have:=congrArg List.length (vD 0);simpa [oW]using this
   have xt:0<=w/\w<eX.length:=by omega
   refine⟨?_,λbl da=>?_⟩
   ·simp only[cT D,xt,aKH,bS,vD];rw[bb (by exact⟨s,⟨rfl,ab⟩,Tw D⟩)];have ax:pG (some (dw s))=s:=rfl;simp  [ax,bb ix];cases pJ s (oW s w i)<;>simp[iG]
   ·cases da;refine⟨?_,λp=>?_⟩
    ·grind
    ·unfold oW;simp
  simp
 ·simp[LC ah,ah]
def sA(s:aS)(bm:z1'):Int×Int:=if fJ s (oT s bm)≠0 then (0,fJ s (oT s bm)) else if (!pJ s bm)=true then (0,3) else (iI s bm,0)
abbrev LI:aF:=⟨.ar hE dV,.ar bp bp,λx=>eN x.1/\x.2.length<2 ^ 63,λx=>sA x.1 x.2⟩
theorem Tx{s:aS}{bm:z1'}(h:oT s bm=true):bm.length=s.2.2.2.1.length/\jc s bm:=by
 unfold oT at h;simp  at h;obtain⟨E,M⟩:=h;refine⟨by omega,by omega,λp aq=>?_⟩;obtain⟨i,D,rfl⟩:=List.mem_iff_getElem.1 aq;have:=E i D;have jF:bm.getD i 0=bm[i]:=by grind
 unfold qA at this;simp only[aKm,ajl,ajm,ae_]at this;omega
theorem axT(x):aR (aak Dg.sh AF.sh As.sh yn.sh x) (LI.sh x):=bg λh=>by
 obtain⟨s,bm⟩:=x;obtain⟨az,af⟩:=h;unfold aak aG bT eS;show _=mpure (sA s bm);unfold sA;simp only[aF.sh,lY,fZ];have aq:As.pre (s,bm):=⟨az,af⟩
 rw[bb (by omega),bb (by omega)];by_cases ah:fJ s (oT s bm)=0
 ·have ab:=qB az (oU ah).1;obtain⟨Ty,Gq⟩:=Tx (oU ah).2.1;simp only[LB ah,ah,ne_eq,not_true,aKe,ed];rw[bb (by exact⟨s,⟨rfl,ab⟩,Gq⟩)];have ax:pG (some (dw s))=s:=rfl;simp only[ax];cases aw:pJ s bm with
  | false=>simp
  | true=>
   simp only[aKo,ajh,ajq];rw[bb (by exact⟨s,⟨rfl,ab⟩,aLR Ty⟩)]
 ·simp[LC ah,ah]
def k9(w:bL)(m k:Int):z1':=((List.range w.1.length).filter λ(i:Nat)=>decide ((kc w (i:Int) m k).1=1)).map λ(i:Nat)=>(i:Int)
theorem axU(w:bL)(m k:Int):(k9 w m k).length<=w.1.length:=by
 unfold k9;grind
abbrev Tz:aF:=⟨.ar jo (.ar bp bp),dV,λx=>gi x.1/\x.1.1.length<=1000,λx=>k9 x.1 x.2.1 x.2.2⟩
theorem axV(x):aR (aaH tx.sh x) (Tz.sh x):=bg λh=>by
 obtain⟨w,m,k⟩:=x;obtain⟨hw,M⟩:=h;change gi w at hw;change w.1.length<=1000 at M;unfold aaH cR b1 aG aQ bj a7 ay cM;rw[d' (List.range w.1.length) (λi (acc:z1')=>(m,k,(i:Int),w,acc,())) (λ(i:Nat) acc=>.next (if decide ((kc w (i:Int) m k).1=1)=true then acc++[(i:Int)] else acc)) (λacc=>.next (acc,())) (λi acc=>acc.length<=i) [] ?_ ?_ ?_ ?_]
 ·rw[cU,G6,aH,cp];rfl
 ·rfl
 ·simp
 ·intro i D acc wJ;have D:i<w.1.length:=by grind
  have gy:=bc (n:=(i:Int)+1) (by omega) (by omega);have ix:bW (acc.length+(0+1)):=by unfold bW;omega
  rw[aJ6];refine⟨?_,λbl V=>?_⟩
  ·simp only[ch,cT D,if_true,aF.sh,ed];rw[bb (by exact hw)];simp only[cy,mY,bb ix];by_cases E:(kc w (i:Int) m k).1=1<;>simp[E,bq.ls,gy]
  grind
 simp
abbrev LJ:aa:=.slice (.slice dV)
def nJ(s:aS):List (List (z1')):=s.2.2.1.map λp=>p.2.2.2.2.map λk=>k9 s.1 p.2.2.2.1 k
abbrev Dp:aF:=⟨hE,LJ,fg,nJ⟩
theorem axW(x):aR (aas Tz.sh x) (Dp.sh x):=bg λab=>by
 change fg x at ab;unfold aas cR dn aL b1 aQ bj a7 ay cM a6 bT;have G5:=ab.wM;have aJL:=ab.Au;rw[d' x.2.2.1 (λi (acc:List (List (z1')))=>((i:Int),x,acc,())) (λp acc=>.next (acc++[p.2.2.2.2.map λk=>k9 x.1 p.2.2.2.1 k])) (λacc=>.next (acc,())) (λi acc=>acc.length<=i) [] ?_ ?_ ?_ ?_]
 ·rw[cU,oG,aH,cp];rfl
 ·rfl
 ·simp
 ·intro i D acc wJ;have gy:=bc (n:=(i:Int)+1) (by omega) (by omega);have ix:bW (acc.length+(0+1)):=by unfold bW;omega
  obtain⟨_,jz,_⟩:=Aw ab (ajj D);refine⟨?_,λbl V=>?_⟩
  ·simp only[ch,cT D,if_true,c_ D,cE D,bS];generalize x.2.2.1[i]=p at *
   rw[d' p.2.2.2.2 (λk (a:List (z1'))=>((i:Int),(k:Int),x,acc,p,a,())) (λk a=>.next (a++[k9 x.1 p.2.2.2.1 k])) (λa=>.next ((i:Int),x,acc,a,())) (λk a=>a.length<=k) [] ?_ ?_ ?_ ?_]
   ·rw[cU,oG];simp_all
   ·rfl
   ·simp
   ·intro k ah a br;have kM:=bc (n:=(k:Int)+1) (by omega) (by omega);have If:bW (a.length+(0+1)):=by unfold bW;omega
    refine⟨?_,λbl V=>?_⟩
    ·simp only[cT ah,if_true,c_ ah,cE ah,bS,aF.sh,lY,fZ];rw[bb (by exact⟨ab.fB.1,by omega⟩)];simp_all
    grind
   simp
  grind
 simp
abbrev js:Type:=Int×z1'
def l8(s:aS)(bm:z1')(i:Nat):Option (List js):=if bm.getD i 0<0 then some [] else (nd s (h9 s (i:Int)) (h_ s (bm.getD i 0))).map λd=>(h_ s (bm.getD i 0)).2.2.2.2.map λk=>(d,k9 s.1 (h_ s (bm.getD i 0)).2.2.2.1 k)
def ir(s:aS)(bm:z1'):List js×Bool:=if ((List.range bm.length).all λi=>(l8 s bm i).isSome)=true then ((List.range bm.length).flatMap λi=>(l8 s bm i).getD [],true) else ([],false)
abbrev LK:aa:=.ae (.ar bp dV)
abbrev LL:aF:=⟨.ar hE (.ar LJ dV),.ar (.slice LK) dm,λx=>fg x.1/\x.2.1=nJ x.1/\jc x.1 x.2.2,λx=>ir x.1 x.2.2⟩
theorem afS{s:aS}(ab:fg s){bm:z1'}(aq:jc s bm){i:Nat}(D:i<bm.length){l:List js}(h:l8 s bm i=some l):l.length<=4:=by
 unfold l8 at h;split at h
 ·grind
 ·rename_i Ar;rw[aKt]at h;obtain⟨d,_,rfl⟩:=h;rw[aKD];have hm:bm.getD i 0∈bm:=by grind
  exact (Aw ab (GZ (by omega) (aq.2 _ hm))).2.1
theorem axX(s:aS)(ab:fg s)(bm:z1')(aq:jc s bm):Q1 qz.sh (s,nJ s,bm)=mpure (ir s bm):=by
 unfold Q1 cR aL b1 aG aQ bj b_ e9 a7 ay cM a6 cu;have sx:=ab.nc;have aw4:=aq.1;rw[d' (List.range bm.length) (λi acc=>(nJ s,bm,(i:Int),s,acc,())) (Ay (l8 s bm) (.done ([],false))) (λacc=>.next (acc,())) (λi acc=>acc.length<=4*i) [] ?_ ?_ ?_ ?_]
 ·rw[SV];unfold ir;by_cases h:((List.range bm.length).all λi=>(l8 s bm i).isSome)=true
  ·simp[h]
  ·simp[h]
 ·rfl
 ·simp
 ·intro i D acc wJ;have D:i<bm.length:=by grind
  have qC:i<s.2.2.2.1.length:=by omega
  have gy:=bc (n:=(i:Int)+1) (by omega) (by omega);have wO:=ym qC;rw[aJ6];obtain⟨aN,SW⟩:∃ aN,bm.getD i 0=aN:=⟨_,rfl⟩
  have SX:aN∈bm:=by grind
  refine⟨?_,λbl V=>?_⟩
  ·simp only[ch,cT D,if_true,ajr,SW,cE D,bS];by_cases Ar:aN<0
   ·have iy:l8 s bm i=some []:=by unfold l8;grind
    rw[wN iy];simp_all
   ·have iz:aN<(s.2.2.1.length:Int):=aq.2 aN SX;have SY:=GZ (s:=s) (by omega) iz;have gY:0<=aN/\aN<(s.2.2.1.length:Int):=⟨by omega,iz⟩
    have dd:0<=aN/\aN<((nJ s).length:Int):=by unfold nJ;grind
    have wP:List.getD s.2.2.2.1 i ([],(0,0),0,0,0)=h9 s (i:Int):=rfl;have Di:List.getD s.2.2.1 aN.toNat (0,0,0,0,[])=h_ s aN:=rfl;have axY:List.getD (nJ s) aN.toNat []=(h_ s aN).2.2.2.2.map λk=>k9 s.1 (h_ s aN).2.2.2.1 k:=by
     have aJM:aN.toNat<s.2.2.1.length:=by omega
     unfold nJ h_;grind
    simp only[Ar,aKe,ajh,ajq,cE qC,bb gY,bb dd,bS,aF.sh,ed,wP,Di,axY];have iy:l8 s bm i=(nd s (h9 s (i:Int)) (h_ s aN)).map λd=>(h_ s aN).2.2.2.2.map λk=>(d,k9 s.1 (h_ s aN).2.2.2.1 k):=by unfold l8;grind
    rw[bb (show qz.pre (h9 s (i:Int),h_ s aN) from ab.fB.2.2.2.2.2.2 _ wO)];obtain⟨aw5,_⟩:=Dh ab wO;have nY:=ab.afb;obtain⟨SU,jz,B6⟩:=Aw ab SY;have SZ:=bc (n:=(h9 s (i:Int)).2.2.2.1 - s.2.2.2.2.2) (by omega) (by omega);generalize h9 s (i:Int)=x at *
    generalize h_ s aN=p at *
    by_cases aZ:n8 x p=0
    ·have an:nd s x p=none:=by unfold nd;grind
     rw[an]at iy;rw[Az iy];simp only[aZ,aKP,if_true,aH,tl,bq.ls]
    ·by_cases M:n8 x p=2;all_goals simp only[aZ,M,aKP,aKe,ajh,ajq,if_true,aH,cp,SZ,Int.reduceEq]
     ·have an:nd s x p=(if x.2.2.2.1 - s.2.2.2.2.2<0 then none else some (x.2.2.2.1 - s.2.2.2.2.2)):=by unfold nd;grind
      generalize x.2.2.2.1 - s.2.2.2.2.2=d at *
      by_cases oy:d<0
      ·rw[if_pos oy]at an;rw[an]at iy;rw[Az iy];simp_all
      ·rw[if_neg oy]at an;rw[an]at iy;rw[wN iy];simp only[oy,aKe,ajh,ajq];rw[d' p.2.2.2.2 (λk acc=>(nJ s,bm,(i:Int),d,(k:Int),s,acc,p,())) (λk acc=>.next (acc++[(d,k9 s.1 p.2.2.2.1 k)])) (λacc=>.next (nJ s,bm,(i:Int),s,acc,())) (λk pH=>pH.length<=4*i+k) acc ?_ ?_ ?_ ?_]
       ·rw[cU,oG];simp_all
       ·rfl
       ·omega
       ·intro k ah pH S0;have kM:=bc (n:=(k:Int)+1) (by omega) (by omega);have ix:bW (pH.length+(0+1)):=by unfold bW;omega
        have AD:k<(p.2.2.2.2.map λk=>k9 s.1 p.2.2.2.1 k).length:=by grind
        have axZ:(p.2.2.2.2.map λk=>k9 s.1 p.2.2.2.1 k).getD k []=k9 s.1 p.2.2.2.1 p.2.2.2.2[k]:=by grind
        refine⟨?_,λbl V=>?_⟩
        ·simp_all
        grind
       simp
     ·have an:nd s x p=(if x.2.2.2.1<0 then none else some x.2.2.2.1):=by unfold nd;grind
      generalize x.2.2.2.1=d at *
      by_cases oy:d<0
      ·omega
      ·rw[if_neg oy]at an;rw[an]at iy;rw[wN iy];simp only[oy,aKe,ajh,ajq];rw[d' p.2.2.2.2 (λk acc=>(nJ s,bm,(i:Int),d,(k:Int),s,acc,p,())) (λk acc=>.next (acc++[(d,k9 s.1 p.2.2.2.1 k)])) (λacc=>.next (nJ s,bm,(i:Int),s,acc,())) (λk pH=>pH.length<=4*i+k) acc ?_ ?_ ?_ ?_]
       ·rw[cU,oG];simp_all
       ·rfl
       ·omega
       ·intro k ah pH S0;have kM:=bc (n:=(k:Int)+1) (by omega) (by omega);have ix:bW (pH.length+(0+1)):=by unfold bW;omega
        have AD:k<(p.2.2.2.2.map λk=>k9 s.1 p.2.2.2.1 k).length:=by grind
        have axZ:(p.2.2.2.2.map λk=>k9 s.1 p.2.2.2.1 k).getD k []=k9 s.1 p.2.2.2.1 p.2.2.2.2[k]:=by grind
        refine⟨?_,λbl V=>?_⟩
        ·simp_all
        grind
       simp
  ·cases iy:l8 s bm i with
   | none=>rw[Az iy]at V;cases V
   | some y=>
    rw[wN iy]at V;cases V;have:=afS ab aq D iy;grind
 simp
theorem ax0(x):aR (Q1 qz.sh x) (LL.sh x):=bg λh=>by
 obtain⟨s,f,bm⟩:=x;obtain⟨ab,aw,aq⟩:=h;change f=nJ s at aw;change fg s at ab;change jc s bm at aq;subst aw;exact axX s ab bm aq
abbrev hl:fM:=(0,0,0)
def tG(t:js)(e:fM):Bool:=decide (e.2.2 > 0)&&decide (e.1<=t.1)&&t.2.contains e.2.1
def my(d:List fM)(k:Nat):List fM:=d.set k ((d.getD k hl).1,(d.getD k hl).2.1,(d.getD k hl).2.2 - 1)
def kg(t:js)(d:List fM):List (List fM):=((List.range d.length).filter λk=>tG t (d.getD k hl)).map (my d)
def dx(d:List fM):Prop:=d.length<=1000/\∀ e∈d,0<=e.2.2/\e.2.2<=10
theorem ax1{d:List fM}(h:dx d){k:Nat}(ah:k<d.length)(aq:(d.getD k hl).2.2 > 0):dx (my d k):=by
 refine⟨by unfold my;rw[aLf];exact h.1,λe he=>?_⟩;rcases List.mem_or_eq_of_mem_set he with he | rfl
 ·exact h.2 e he
 ·have hm:d.getD k hl∈d:=by grind
  have:=h.2 _ hm;grind
theorem afT{t:js}{d:List fM}(h:dx d):∀ o∈kg t d,dx o:=by
 grind [kg,tG,ax1]
theorem afU(t:js)(d:List fM):(kg t d).length<=d.length:=by
 grind [kg]
abbrev Dq:aF:=⟨.ar LK (.slice nH),.slice (.slice nH),λx=>dx x.2/\x.1.2.length<2 ^ 63,λx=>kg x.1 x.2⟩
theorem ax2(x):aR (aaR i'.sh x) (Dq.sh x):=bg λh=>by
 obtain⟨t,d⟩:=x;obtain⟨an,aT⟩:=h;change dx d at an;unfold aaR cN cR aL b1 aQ aB bj a7 ay dN cM a6 cu eS;have cR:=an.1;rw[d' (List.range d.length) (λi acc=>(d,(i:Int),t,acc,())) (λk acc=>.next (if tG t (d.getD k hl)=true then acc++[my d k] else acc)) (λacc=>.next (acc,())) (λi acc=>acc.length<=i) [] ?_ ?_ ?_ ?_]
 ·rw[cU,G6,aH];rfl
 ·rfl
 ·simp
 ·intro i D acc wJ;have D:i<d.length:=by grind
  have gy:=bc (n:=i+1) (by omega) (by omega);have ix:bW (acc.length+(0+1)):=by grind [bW]
  have gW:bW (0+d.length):=by grind [bW]
  have ax3:(t.2.length<2 ^ 63)=True:=by grind
  rw[aJ6];have hm:d.getD i hl∈d:=by grind
  have lN:=an.2 _ hm;have ax4:=bc (n:=(d.getD i hl).2.2 - 1) (by omega) (by omega);refine⟨?_,λbl V=>?_⟩
  ·simp only[ch,cT D,ajr,cE D,bS,aF.sh,lY,fZ,ax3,aLg,aKH,aLY,aKw];have aA:(decide ((d.getD i hl).2.2 > 0)&&decide ((d.getD i hl).1<=t.1)&&t.2.contains (d.getD i hl).2.1)=tG t (d.getD i hl):=rfl;rw[aA];cases tG t (d.getD i hl) with
   | true=>
    simp only[if_true,cy,mY,bb ix,bb gW,ax4,aH,cp,gy];rfl
   | false=>
    simp_all
  grind
 simp
def sB:List js->List fM->Bool
 | [],_=>true
 | t::l,d=>(kg t d).any (sB l)
def hZ(b n:Int):Int:=if (decide (n>=0)&&(decide (b<0)||decide (n<b)))=true then n else b
def fx:List js->List fM->Int
 | [],_=>0
 | t::l,d=>if (t.2.length:Int)=0 then -1 else (kg t d).foldl (λb o=>hZ b (fx l o)) (if fx l d>=0 then fx l d+1 else fx l d)
theorem TA:∀ (l:List js) (d:List fM),-1<=fx l d/\fx l d<=(l.length:Int)
 | [],_=>by simp[fx]
 | t::l,d=>by
  unfold fx;have aZ:=TA l d;have key:∀ (r:List (List fM)) (b:Int),(-1<=b/\b<=((t::l).length))->(-1<=r.foldl (λb o=>hZ b (fx l o)) b/\r.foldl (λb o=>hZ b (fx l o)) b<=((t::l).length)):=by
   intro r;induction r with
   | nil=>simp
   | cons o r aP=>
    have E:=TA l o;grind [hZ]
  grind
def ys(f:Nat)(x:List js×List fM):Prop:=x.1.length<f/\x.1.length<=1000/\(∀ t∈x.1,t.2.length<2 ^ 63)/\dx x.2
abbrev AJ(f:Nat):aF:=⟨.ar (.slice LK) (.slice nH),dm,ys f,λx=>sB x.1 x.2⟩
abbrev AK(f:Nat):aF:=⟨.ar (.slice LK) (.slice nH),bp,ys f,λx=>fx x.1 x.2⟩
theorem ax5(x):¬((AJ 0).sh x).et:=λh=>absurd h.1 (by omega)
theorem ax6(x):¬((AK 0).sh x).et:=λh=>absurd h.1 (by omega)
theorem ax7(f:Nat)(l:List js)(d:List fM)(h:ys (f+1) (l,d)):Q3 (AJ f).sh Dq.sh (l,d)=mpure (sB l d):=by
 obtain⟨E,M,ai,bf⟩:=h;change dx d at bf;unfold Q3 cR aL eC bN aG aQ aB bj b_ a7 ay hy hO a6 dJ bT eS;cases l with
 | nil=>rfl
 | cons t l=>
  have bD:decide (Int.ofNat (t::l).length=0)=false:=by rfl
  have dN:(0:Int)<=0/\0<Int.ofNat (t::l).length:=by simp
  have gY:(0:Int)<=1/\1<=((t::l).length:Int)/\((t::l).length)<=((t::l).length:Int):=by grind
  have LM:List.drop (Int.toNat 1) (List.take (Int.toNat ((t::l).length)) (t::l))=l:=by
   simp
  simp only[bD,bb dN,aF.sh,ed];rw[bb (by grind)];have ax8:=afU t d;have cR:=bf.1;have b1:=afT (t:=t) bf;rw[db (kg t d) (λi (_)=>(t::l,kg t d,(i:Int),())) (λo b=>if sB l o=true then .done (.done true) else .next b) (λ_=>.next ()) () ?_ ?_ ?_]
  ·rw[n2];show _=mpure ((kg t d).any (sB l));cases (kg t d).any (sB l)<;>simp
  ·rfl
  ·intro i D b;have gy:=bc (n:=i+1) (by omega) (by omega);have aq:ys f (l,(kg t d)[i]):=⟨by grind,by grind,λq bM=>ai q (ajp _ bM),b1 _ (ajj D)⟩
   simp only[ch,bb gY,cE D,c_ D,bS,LM,lY];rw[bb (by omega)];simp  [gy];grind
  simp
theorem ax9(f:Nat)(x):aR (Q3 (AJ f).sh Dq.sh x) ((AJ (f+1)).sh x):=bg λh=>ax7 f x.1 x.2 h
theorem ax_(f:Nat)(l:List js)(d:List fM)(h:ys (f+1) (l,d)):Q2 (AK f).sh Dq.sh (l,d)=mpure (fx l d):=by
 obtain⟨E,M,ai,bf⟩:=h;change dx d at bf;unfold Q2 cR py aL b1 eC aG aQ aB bj a7 ay a6 dJ bT fY;cases l with
 | nil=>rfl
 | cons t l=>
  simp  at E M;have bD:decide (((t::l).length:Int)=0)=false:=by rfl
  have dN:(0)<=0/\0<((t::l).length):=by simp
  have Gv:List.getD (t::l) (Int.toNat 0) (0,[])=t:=rfl;have gY:(0:Int)<=1/\1<=((t::l).length:Int)/\((t::l).length)<=((t::l).length:Int):=by omega
  have LM:List.drop (Int.toNat 1) (List.take (Int.toNat ((t::l).length)) (t::l))=l:=by
   simp
  simp only[ch,bD,Gv];by_cases aT:(t.2.length)=0
  ·simp[aT,fx]
  ·have ax8:=afU t d;have cR:=bf.1;have b1:=afT (t:=t) bf;have aJN:ys f (l,d):=⟨by grind,by grind,λq bM=>ai q (ajp _ bM),bf⟩
   have BJ:=TA l d;have xt:=bc (n:=fx l d+1) (by omega) (by omega);simp only[LM,aF.sh,ed];have ax':(if decide (fx l d>=0)=true then mpure (bq.next (rho:=Int) (t::l,d,IntKind.wrap .i64 (Add.add (fx l d) 1),())) else mpure (bq.next (t::l,d,fx l d,())))=mpure (bq.next (t::l,d,(if fx l d>=0 then fx l d+1 else fx l d),())):=by
    by_cases hc:fx l d>=0<;>simp[hc,xt]
   rw[ax',aH,cp];show _=mpure (if (t.2.length:Int)=0 then -1 else (kg t d).foldl (λb o=>hZ b (fx l o)) (if fx l d>=0 then fx l d+1 else fx l d));generalize (if fx l d>=0 then fx l d+1 else fx l d)=b0 at *
   rw[db (kg t d) (λi b=>(t::l,b,kg t d,(i:Int),())) (λo b=>.next (hZ b (fx l o))) (λb=>.next (b,())) b0 ?_ ?_ ?_]
   ·simp_all[cU]
   ·rfl
   ·intro i D b;have gy:=bc (n:=i+1) (by omega) (by omega);have aq:ys f (l,(kg t d)[i]):=⟨by grind,by grind,λq bM=>ai q (ajp _ bM),b1 _ (ajj D)⟩
    simp only[cT D,bb gY,cE D,c_ D,bS,LM,lY,fZ];rw[bb (by omega)];have TB:hZ b (fx l (kg t d)[i])=if (decide (fx l (kg t d)[i]>=0)&&(decide (b<0)||decide (fx l (kg t d)[i]<b)))=true then fx l (kg t d)[i] else b:=rfl
    rw[TB];cases hc:(decide (fx l (kg t d)[i]>=0)&&(decide (b<0)||decide (fx l (kg t d)[i]<b)))<;>simp[gy]
   simp
theorem aya(f:Nat)(x):aR (Q2 (AK f).sh Dq.sh x) ((AK (f+1)).sh x):=bg λh=>ax_ f x.1 x.2 h
def jJ(s:aS):List fM:=s.2.2.2.2.1++(List.range s.2.1.length).map λ(i:Nat)=>((0:Int),(i:Int),s.2.1.getD i 0)
abbrev LN:aF:=⟨hE,.slice nH,fg,jJ⟩
theorem ayb(x):aR (aaG x) (LN.sh x):=bg λab=>by
 unfold aaG dn aL aQ bj a7 ay dN cM;have jL:=ab.GY;have M1:=ab.Au;have eG:=ab.tC;have NB:bW (0+x.2.2.2.2.1.length):=by grind [bW]
 simp only[mY,bb NB];rw[d' (List.range x.2.1.length) (λi acc=>((i:Int),x,acc,())) (λi acc=>.next (acc++[((0),(i:Int),x.2.1.getD i 0)])) (λacc=>.next (acc,())) (λi acc=>acc.length<=8+i) x.2.2.2.2.1 ?_ ?_ ?_ ?_]
 ·rw[cU,oG,aH];rfl
 ·rfl
 ·omega
 ·intro i D acc wJ;have D:i<x.2.1.length:=by grind
  have gy:=bc (n:=i+1) (by omega) (by omega);have ix:bW (acc.length+(0+1)):=by grind [bW]
  refine⟨?_,λbl V=>?_⟩
  ·simp_all
  grind
 simp
theorem afV{s:aS}(ab:fg s):dx (jJ s):=by
 have jL:=ab.GY;have M1:=ab.Au;have eG:=ab.tC;refine⟨by unfold jJ;grind,λe he=>?_⟩;rcases List.mem_append.1 he with he | he
 ·have:=ab.Lk e he;grind [qx,cg]
 ·obtain⟨i,D,rfl⟩:=List.mem_map.1 he;have D:i<s.2.1.length:=by grind
  have jF:s.2.1.getD i 0=s.2.1[i]:=by grind
  rw[jF];exact ab.b9 _ (ajj D)
theorem afW{s:aS}(ab:fg s){bm:z1'}(aq:jc s bm)(f:Nat)(aw:24<f):ys f ((ir s bm).1,jJ s):=by
 have hlen:(ir s bm).1.length<=24:=by
  unfold ir;split
  ·have:∀ (l:List Nat),(∀ i∈l,i<bm.length)->(l.flatMap λi=>(l8 s bm i).getD []).length<=4*l.length:=by
    intro l;induction l with
    | nil=>simp
    | cons i l aP=>
     intro af;have E:=aP λj aI=>af j (by grind);rw[aKG,aKx,aKN];have:((l8 s bm i).getD []).length<=4:=by
      cases h:l8 s bm i with
      | none=>simp
      | some y=>grind [afS]
     omega
   have:=aq.1;have:=ab.nc;grind
  simp
 refine⟨by grind,by grind,λt aT=>?_,afV ab⟩;unfold ir at aT;split at aT
 ·obtain⟨i,D,aT⟩:=List.mem_flatMap.1 aT;cases h:l8 s bm i with
  | none=>grind
  | some y=>
   rw[h]at aT;unfold l8 at h;split at h
   ·grind
   ·obtain⟨d,_,rfl⟩:=Option.map_eq_some_iff.1 h;obtain⟨k,_,rfl⟩:=List.mem_map.1 aT;have:=axU s.1 (h_ s (bm.getD i 0)).2.2.2.1 k;have:=ab.Au;grind
 grind
def ku(s:aS)(bm:z1'):Bool:=(ir s bm).2&&sB (ir s bm).1 (jJ s)
def mz(s:aS)(bm:z1'):Int:=if (!(ir s bm).2)=true then -1 else fx (ir s bm).1 (jJ s)
abbrev G7:aF:=⟨.ar hE (.ar LJ dV),dm,λx=>fg x.1/\x.2.1=nJ x.1/\jc x.1 x.2.2,λx=>ku x.1 x.2.2⟩
theorem ayc(x):aR (aaB LL.sh LN.sh (AJ 1001).sh x) (G7.sh x):=bg λh=>by
 unfold aaB b3;simp  [aF.sh];grind [bb,ku,afW]
abbrev TC:aF:=⟨.ar hE dV,dm,λx=>fg x.1/\jc x.1 x.2,λx=>ku x.1 x.2⟩
theorem ayd(x):aR (aal Dp.sh G7.sh x) (TC.sh x):=bg λh=>by
 simp_all[aal,bT,aF.sh]
abbrev TD:aF:=⟨.ar hE (.ar LJ dV),bp,λx=>fg x.1/\x.2.1=nJ x.1/\jc x.1 x.2.2,λx=>mz x.1 x.2.2⟩
theorem aye(x):aR (aar LL.sh (AK 1001).sh LN.sh x) (TD.sh x):=bg λh=>by
 grind [aar,aF.sh,ed,bb,mz,afW]
abbrev G8:aF:=⟨.ar hE dm,bp,λx=>eN x.1,λx=>fJ x.1 x.2⟩
theorem ayf(x):aR (aaA oS.sh qt.sh x) (G8.sh x):=bg λh=>by
 obtain⟨s,cv⟩:=x;unfold aaA aG;show _=mpure (fJ s cv);unfold fJ;simp only[aF.sh,ed,bb h];by_cases he:ke s=0
 ·simp  [he];cases cv with
  | false=>simp
  | true=>
   simp;rw[bb (by exact h.1)]
 grind
abbrev LO:aF:=⟨hE,bp,eN,λs=>fJ s true⟩
theorem ayg(x):aR (aam G8.sh x) (LO.sh x):=bg λh=>by
 simp_all[aam,aF.sh]
abbrev TE:aF:=⟨.ar hE (.ar bp bp),dV,λx=>x.1.2.2.2.1.length<=1000/\0<=x.2.1/\x.2.1<(x.1.2.2.2.1.length:Int),λx=>oW x.1 x.2.1 x.2.2⟩
theorem ayh(x):aR (aaC x) (TE.sh x):=bg λh=>by
 obtain⟨s,w,p⟩:=x;obtain⟨E,M,ai⟩:=h;change s.2.2.2.1.length<=1000 at E;unfold aaC cR aQ bj a7 ay cM a6;rw[d' (List.range s.2.2.2.1.length) (λi acc=>(w,p,(i:Int),s,acc,())) (λi acc=>.next (acc++[(λ_=>(-1)) i])) (λacc=>.next (w,p,acc,())) (λi acc=>acc.length=i) [] ?_ ?_ ?_ ?_]
 ·rw[cU,oG,aH,cp];have e:[]++List.map (λ_=>(-1)) (List.range s.2.2.2.1.length)=List.replicate s.2.2.2.1.length (-1):=by
   grind [List.map_const',List.length_range]
  rw[e];have U:0<=w/\w<((List.replicate s.2.2.2.1.length (-1)).length):=by grind
  simp only[ch,bb U];rfl
 ·rfl
 ·rfl
 ·intro i D acc wJ;have D:i<s.2.2.2.1.length:=by grind
  have gy:=bc (n:=i+1) (by omega) (by omega);have ix:bW (acc.length+(0+1)):=by grind [bW]
  simp_all
 simp
def afX(s:aS)(w:Int):z1':=((List.range s.2.2.1.length).filter λ(p:Nat)=>ku s (oW s w (p:Int))).map λ(p:Nat)=>(p:Int)
def Dr(s:aS)(w:Int):z1'×Int:=if fJ s (tB s w)≠0 then ([],fJ s (tB s w)) else (afX s w,0)
abbrev LP:aF:=⟨.ar hE bp,.ar dV bp,λx=>eN x.1,λx=>Dr x.1 x.2⟩
theorem ayi(x):aR (aag Dp.sh Dd.sh G8.sh G7.sh TE.sh x) (LP.sh x):=bg λh=>by
 obtain⟨s,w⟩:=x;change eN s at h;unfold aag cR b1 bN aG aQ bj a7 ay cM bT eS fY;show _=mpure (Dr s w);unfold Dr;simp  [aF.sh,fZ];rw[bb (by omega),bb (by omega)];by_cases ah:fJ s (tB s w)=0
 ·have ab:=qB h (oU ah).1;have hw:=ae9.1 (oU ah).2.1;have sx:=ab.nc;have G5:=ab.wM;simp  [ah];rw[bb (by omega)];rw[d' (List.range s.2.2.1.length) (λi b=>(w,nJ s,(i:Int),s,b,())) (λp b=>.next (if ku s (oW s w p)=true then b++[(p:Int)] else b)) (λb=>.next (b,())) (λi b=>b.length<=i) [] ?_ ?_ ?_ ?_]
  ·rw[cU,G6,aH];rfl
  ·rfl
  ·simp
  ·intro i D b V;have D:i<s.2.2.1.length:=by grind
   have iG:=bc (n:=i+1) (by omega) (by omega);have ix:bW (b.length+(0+1)):=by grind [bW]
   refine⟨?_,λbl da=>?_⟩
   ·rw[bb (by grind),bb (by grind [Tw])];simp  [bb ix];grind
   grind
  simp
 grind
def LQ(bm:z1'):Prop:=∀ p∈bm,-1<=p
abbrev LR:aF:=⟨.ar hE dV,bp,λx=>fg x.1/\x.2.length<=x.1.2.2.2.1.length/\LQ x.2,λx=>iI x.1 x.2⟩
theorem ayj(x):aR (aaD x) (LR.sh x):=bg λh=>by
 obtain⟨s,bm⟩:=x;obtain⟨ab,aq,vW⟩:=h;change fg s at ab;change bm.length<=s.2.2.2.1.length at aq;unfold aaD e_ cR aL b1 aG bj a7 ay a6;have sx:=ab.nc;rw[d' (List.range bm.length) (λi n=>(bm,n,(i:Int),s,())) (λi n=>.next (n+if bm.getD i 0=-1 then 0 else (h9 s i).2.2.2.2)) (λn=>.next (n,())) (λi n=>0<=n/\n<=100000*i) 0 ?_ ?_ ?_ ?_]
 ·grind [cU,iI,List.foldl_map,aH,cp]
 ·rfl
 ·simp
 ·intro i D n aC;have D:i<bm.length:=by grind
  have qC:i<s.2.2.2.1.length:=by omega
  have gy:=bc (n:=i+1) (by omega) (by omega);obtain⟨_,q1⟩:=Dh ab (ym qC);have wP:List.getD s.2.2.2.1 i ([],(0,0),0,0,0)=h9 s i:=rfl;have yg:=bc (n:=n+(h9 s i).2.2.2.2) (by omega) (by omega);have hm:bm.getD i 0∈bm:=by grind
  have aL:=vW _ hm;refine⟨?_,λbl V=>?_⟩
  ·by_cases E:bm.getD i 0=-1
   ·simp_all
   ·have M:bm.getD i 0>=0:=by omega
    simp_all
  grind
 simp
def Ds(s:aS)(bm:z1'):Int×Int:=if fJ s (oT s bm)≠0 then (0,fJ s (oT s bm)) else if (!ku s bm)=true then (0,3) else (iI s bm,0)
abbrev LS:aF:=⟨.ar hE dV,.ar bp bp,λx=>eN x.1/\x.2.length<2 ^ 63,λx=>Ds x.1 x.2⟩
theorem ayk{s:aS}{bm:z1'}(h:oT s bm=true):LQ bm:=by
 unfold oT at h;simp  at h;intro p aq;grind [List.mem_iff_getElem,qA,ae_]
theorem ayl(x):aR (aaj As.sh TC.sh G8.sh LR.sh x) (LS.sh x):=bg λh=>by
 obtain⟨s,bm⟩:=x;unfold aaj aG bT eS fY;show _=mpure (Ds s bm);unfold Ds;simp  [aF.sh];grind [bb,qB,oU,Tx,ayk]
def mA(s:aS):Nat->z1'->List (z1')
 | 0,first=>[first]
 | n+1,first=>(List.range (s.2.2.1.length+1)).flatMap λk=>if k=0 then mA s n (first++[-1]) else if pK s first (k - 1)=true then mA s n (first++[((k - 1:Nat):Int)]) else []
theorem TF{s:aS}(jL:s.2.2.1.length<=8):∀ (n:Nat) (first:z1'),(mA s n first).length<=9 ^ n
 | 0,first=>by simp[mA]
 | n+1,first=>by
  have:∀ (l:List Nat),(l.flatMap λk=>if k=0 then mA s n (first++[-1]) else if pK s first (k - 1)=true then mA s n (first++[((k - 1:Nat):Int)]) else []).length<=l.length*9 ^ n:=by
   intro l;induction l with
   | nil=>simp
   | cons k l aP=>
    rw[aKN];have M:=TF jL n (first++[((k - 1):Int)]);grind
  have h:=this (List.range (s.2.2.1.length+1));rw[aLP]at h;refine aKa h ?_;rw[Nat.mul_comm];exact Nat.mul_le_mul_left _ (by omega)
theorem TG{s:aS}:∀ {n:Nat} {first y:z1'},y∈mA s n first->y.length=first.length+n/\∀ p∈y,p∈first\/p=-1\/(0<=p/\p<(s.2.2.1.length:Int))
 | 0,first,y,h=>by
  grind [mA]
 | n+1,first,y,h=>by
  simp  [mA]at h;obtain⟨k,ah,h⟩:=h;split at h
  ·obtain⟨E,M⟩:=TG h;grind
  ·split at h
   ·obtain⟨E,M⟩:=TG h;grind
   grind
def fm(s:aS):List (z1'):=mA s s.2.2.2.1.length []
theorem LU{s:aS}{y:z1'}(h:y∈fm s):y.length=s.2.2.2.1.length/\jc s y/\LQ y:=by
 obtain⟨E,M⟩:=TG h;have E:y.length=s.2.2.2.1.length:=by grind
 refine⟨E,⟨by omega,λp aq=>?_⟩,λp aq=>?_⟩<;>grind
def LV(f:Nat)(x:aS×z1'):Prop:=fg x.1/\x.2.length<=x.1.2.2.2.1.length/\x.1.2.2.2.1.length - x.2.length<f
abbrev yt(f:Nat):aF:=⟨.ar hE dV,.slice dV,LV f,λx=>mA x.1 (x.1.2.2.2.1.length - x.2.length) x.2⟩
theorem aym(x):¬((yt 0).sh x).et:=λh=>absurd h.2.2 (by omega)
theorem ayn(f:Nat)(s:aS)(first:z1')(h:LV (f+1) (s,first)):QY qz.sh (yt f).sh i'.sh (s,first)=mpure (mA s (s.2.2.2.1.length - first.length) first):=by
 obtain⟨ab,E,M⟩:=h;change fg s at ab;have sx:=ab.nc;have G5:=ab.wM;unfold QY cR eM aL b1 aG aQ aB bj a7 ay dN cM kJ;obtain⟨n,aC⟩:∃ n,s.2.2.2.1.length - first.length=n:=⟨_,rfl⟩
 rw[aC];cases n with
 | zero=>
  have an:decide (Int.ofNat first.length=Int.ofNat s.2.2.2.1.length)=true:=by grind
  simp only[an];rfl
 | succ n=>
  have an:decide (Int.ofNat first.length=Int.ofNat s.2.2.2.1.length)=false:=by grind
  simp only[an];have iT:9 ^ n<=59049:=aKa (aKT (by omega) (show n<=5 by omega)) (by decide);have ua:=TF   G5 n;generalize 9 ^ n=P at *
  rw[d' (List.range (s.2.2.1.length+1)) (λk bo=>(first,(first.length:Int),(k:Int) - 1,s,bo,())) (λk bo=>.next (bo++if k=0 then mA s n (first++[-1]) else if pK s first (k - 1)=true then mA s n (first++[((k - 1:Nat):Int)]) else [])) (λbo=>.next (bo,())) (λk bo=>bo.length<=k*P) [] ?_ ?_ ?_ ?_]
  ·rw[cU,Ll,aH];rfl
  ·rfl
  ·simp
  ·intro k ah bo qf;have ah:k<s.2.2.1.length+1:=by grind
   have kM:=bc (n:=k - 1+1) (by omega) (by omega);have qC:first.length<s.2.2.2.1.length:=by omega
   have gH:(first.length<2 ^ 63)=True:=by grind
   have wO:=ym qC;have oD:((h9 s first.length).1.length<2 ^ 63)=True:=by simp;have:=ab.fB.2.2.2.2.2.2 _ wO;omega
   have wP:List.getD s.2.2.2.1 first.length ([],(0,0),0,0,0)=h9 s first.length:=rfl
   have Wq:bW (0+first.length):=by grind [bW]
   have gW:bW (first.length+(0+1)):=by grind [bW]
   have aJO:k*P<=8*P:=ajo _ (by omega);have cF:decide (k - 1<(s.2.2.1.length:Int))=true:=by grind
   refine⟨?_,λbl V=>?_⟩
   ·by_cases s3:k=0
    ·have Ty:LV f (s,first++[-1]):=⟨ab,by grind,by grind⟩
     have tc:s.2.2.2.1.length - (first++[(-1)]).length=n:=by grind
     have JQ:bW (bo.length+(mA s n (first++[-1])).length):=by grind [bW]
     simp_all[aF.sh]
    ·obtain⟨p,rfl⟩:∃ p,k=p+1:=⟨k - 1,by omega⟩
     have Di:List.getD s.2.2.1 p (0,0,0,0,[])=h_ s p:=rfl;have Ty:LV f (s,first++[(p:Int)]):=⟨ab,by grind,by grind⟩
     have tc:s.2.2.2.1.length - (first++[(p:Int)]).length=n:=by grind
     have JQ:bW (bo.length+(mA s n (first++[(p:Int)])).length):=by grind [bW]
     have iz:(decide (n8 (h9 s first.length) (h_ s p)≠0)&&!first.contains p)=pK s first p:=by
      grind [pK]
     simp  [aF.sh];cases oB:pK s first p<;>simp_all
   grind
  simp
theorem ayo(f:Nat)(x):aR (QY qz.sh (yt f).sh i'.sh x) ((yt (f+1)).sh x):=bg λh=>ayn f x.1 x.2 h
def wT(s:aS)(b:Int)(y:z1'):Int:=if (decide (iI s y > b)&&ku s y)=true then iI s y else b
def afY(s:aS):Int:=(fm s).foldl (wT s) 0
def Dt(s:aS):Int×Int:=if fJ s true≠0 then (0,fJ s true) else (afY s,0)
abbrev LW:aF:=⟨hE,.ar bp bp,eN,Dt⟩
theorem afZ{s:aS}(ab:fg s):(fm s).length<2 ^ 40:=by
 have:=TF (s:=s) ab.wM s.2.2.2.1.length [];have d_:=ab.nc;have iT:9 ^ s.2.2.2.1.length<=9 ^ 6:=aKT (by omega) d_;have:(fm s).length<=9 ^ 6:=aKa this iT;omega
theorem ayp(x):aR (aah LO.sh Dp.sh G7.sh (yt 1001).sh LR.sh x) (LW.sh x):=bg λh=>by
 change eN x at h;unfold aah cN cR aL b1 aG aQ aB bj a7 ay a6 bT eS fY;show _=mpure (Dt x);unfold Dt;simp only[aF.sh,ed];rw[bb (by exact h)];by_cases ah:fJ x true=0
 ·have ab:=qB h (oU ah).1;have sx:=ab.nc;have hlen:=afZ ab;simp only[ah,ne_eq,not_true,aKe,ajh,ajq];rw[bb (by exact ab),bb (by exact⟨ab,aKr _,by grind⟩)];have AH:mA x (x.2.2.2.1.length - ([]:z1').length) []=fm x:=rfl;simp only[AH];rw[db (fm x) (λi (b:Int)=>(b,nJ x,fm x,(i:Int),x,())) (λy b=>.next (wT x b y)) (λb=>.next (b,())) 0 ?_ ?_ ?_]
  ·rw[cU,aH,cp];rfl
  ·rfl
  ·intro i D b;have iG:=bc (n:=(i:Int)+1) (by omega) (by omega);obtain⟨r0,q2,af0⟩:=LU (ajj D);have fW:fg x/\(fm x)[i].length<=x.2.2.2.1.length/\LQ (fm x)[i]:=⟨ab,aLR r0,af0⟩
   have lh:(fg x/\True/\jc x (fm x)[i]):=⟨ab,trivial,q2⟩
   simp only[ch,cT D,if_true,cE D,c_ D,bS,lY,fZ,bb fW,lh,ab,q2,aLg,aK0,aKH,aLY,aKl,cy];rw[bb (by grind)];unfold wT;cases hc:(decide (iI x (fm x)[i] > b)&&ku x (fm x)[i])<;>simp[bq.ls,iG]
  simp
 grind
def G9(s:aS)(b:Int)(y:z1'):Int:=if y.contains (-1)=true then b else hZ b (mz s y)
def AL(s:aS):Int:=(fm s).foldl (G9 s) (-1)
def Du(s:aS):Int×Int:=if fJ s true≠0 then (0,fJ s true) else if AL s<0 then (0,3) else (AL s,0)
abbrev LX:aF:=⟨hE,.ar bp bp,eN,Du⟩
theorem ayq(x):aR (aai LO.sh TD.sh Dp.sh (yt 1001).sh i'.sh x) (LX.sh x):=bg λh=>by
 change eN x at h;unfold aai cR py aL b1 bN aG aQ bj a7 ay a6 bT fY;show _=mpure (Du x);unfold Du;simp only[aF.sh,ed];rw[bb (by exact h)];by_cases ah:fJ x true=0
 ·have ab:=qB h (oU ah).1;have sx:=ab.nc;have hlen:=afZ ab;simp only[ah,ne_eq,not_true,aKe,ajh,ajq];rw[bb (by exact ab),bb (by exact⟨ab,aKr _,by grind⟩)];have AH:mA x (x.2.2.2.1.length - ([]:z1').length) []=fm x:=rfl;simp only[AH];rw[db (fm x) (λi (b:Int)=>(b,nJ x,fm x,(i:Int),x,())) (λy b=>.next (G9 x b y)) (λb=>.next (b,())) (-1) ?_ ?_ ?_]
  ·rw[cU,aH,cp];show (if decide (AL x<0)=true then mpure ((0:Int),(3:Int)) else mpure (AL x,0))=_;grind
  ·rfl
  ·intro i D b;have iG:=bc (n:=(i:Int)+1) (by omega) (by omega);obtain⟨r0,q2,af0⟩:=LU (ajj D);have af:(fm x)[i].length<2 ^ 63:=by omega
   simp only[ch,cT D,if_true,cE D,c_ D,bS,lY,fZ,bb af,cy];unfold G9;cases hc:(fm x)[i].contains (-1) with
   | true=>simp_all
   | false=>
    simp only[ajh,ajq];rw[bb (by grind)];have TB:hZ b (mz x (fm x)[i])=if (decide (mz x (fm x)[i]>=0)&&(decide (b<0)||decide (mz x (fm x)[i]<b)))=true then mz x (fm x)[i] else b:=rfl
    rw[TB];cases hc:(decide (mz x (fm x)[i]>=0)&&(decide (b<0)||decide (mz x (fm x)[i]<b)))<;>simp[bq.ls,iG]
  simp
 grind
def u_(s:aS):Prop:=GS s.1/\s.2.1.length<=2000000/\s.2.2.1.length<=2000000/\s.2.2.2.1.length<=2000000/\s.2.2.2.2.1.length<=2000000/\(∀ p∈s.2.2.1,p.2.2.2.2.length<=2000000)/\∀ x∈s.2.2.2.1,x.1.length<=2000000
theorem ayr{s:aS}(ab:fg s):u_ s:=by
 have aeN:=yc ab.uU.2;refine⟨⟨by omega,by omega,by omega,λm hm=>?_⟩,by have:=ab.tC;omega,by have:=ab.wM;omega,by have:=ab.nc;omega,by have:=ab.GY;omega,λp aq=>by have:=(Aw ab aq).2.1;omega,λx al=>?_⟩
 ·have lN:=(An ab.uU.2).2.2.1 m hm;simp only[rk,ajm,aKj,aKB,aKu]at lN;refine⟨by omega,λs' w_=>?_⟩;have:=lN.2 s' w_;simp only[rj,ajm,ajl]at this;omega
 ·have:=ab.afa x al;simp only[tz,cg,ajm,ajl]at this;omega
abbrev LY:aF:=⟨hE,hE,u_,λs=>s⟩
theorem af1{eK:Type}(x:aS)(h:u_ x)(fin:aS->G eK):Kh si.sh x fin=fin x:=by
 obtain⟨E,M,ai,bf,b2,d_,hn⟩:=h;unfold Kh cR aL aQ bj a7 ay dN a6;simp only[aF.sh,ed];have dO:bW (0+x.2.1.length):=by unfold bW;omega
 have jd:bW (0+x.2.2.1.length):=by unfold bW;omega
 have G_:bW (0+x.2.2.2.1.length):=by unfold bW;omega
 have TH:bW (0+x.2.2.2.2.1.length):=by unfold bW;omega
 rw[bb (by exact E)];simp only[mY,bb dO,bb jd,bb G_,bb TH,aKw];rw[db x.2.2.1 (λi (_:Unit)=>((i:Int),x,0,0,x.1.1,x.1.2.1,x.1.2.2.1,x.1.2.2.2,x.2.2.2.2.2,x.2.1,x.2.2.1,x.2.2.2.1,x.2.2.2.2.1,())) (λp b=>.next b) (λ_=>.next (x,0,0,x.1.1,x.1.2.1,x.1.2.2.1,x.1.2.2.2,x.2.2.2.2.2,x.2.1,x.2.2.1,x.2.2.2.1,x.2.2.2.2.1,())) () ?_ ?_ ?_]
 ·rw[cU,aH,cp];rw[db x.2.2.2.1 (λi (_:Unit)=>((i:Int),x,0,0,x.1.1,x.1.2.1,x.1.2.2.1,x.1.2.2.2,x.2.2.2.2.2,x.2.1,x.2.2.1,x.2.2.2.1,x.2.2.2.2.1,())) (λp b=>.next b) (λ_=>.next (0,0,x.1.1,x.1.2.1,x.1.2.2.1,x.1.2.2.2,x.2.2.2.2.2,x.2.1,x.2.2.1,x.2.2.2.1,x.2.2.2.2.1,())) () ?_ ?_ ?_]
  ·rw[cU,aH,cp]<;>rfl
  ·rfl
  ·intro i D b;have iG:=bc (n:=(i:Int)+1) (by omega) (by omega);have hc:=hn _ (ajj D);have kV:bW (0+x.2.2.2.1[i].1.length):=by unfold bW;omega
   have p5:x.2.2.2.1.set i (x.2.2.2.1[i].1,x.2.2.2.1[i].2)=x.2.2.2.1:=aKK D;simp_all
  simp
 ·rfl
 ·intro i D b;have iG:=bc (n:=(i:Int)+1) (by omega) (by omega);have hc:=d_ _ (ajj D);have kV:bW (0+x.2.2.1[i].2.2.2.2.length):=by unfold bW;omega
  have p5:x.2.2.1.set i (x.2.2.1[i].1,x.2.2.1[i].2.1,x.2.2.1[i].2.2.1,x.2.2.1[i].2.2.2.1,x.2.2.1[i].2.2.2.2)=x.2.2.1:=aKK D;simp_all
 simp
theorem ays(x):aR (Kh si.sh x mpure) (LY.sh x):=bg λh=>af1 x h _
def sC(s:aS):Kg:=(s.1.1,s.1.2.1,s.1.2.2.1,s.1.2.2.2,s.2.2.2.2.2,s.2.1,s.2.2.1,s.2.2.2.1,s.2.2.2.2.1,())
def LZ(x:aS×Unit):G Kg:=eL (u_ x.1) (sC x.1)
theorem ayt(x):aR (Kh si.sh x.1 λs=>mpure (sC s)) (LZ x):=bg λh=>af1 x.1 h _
def af2(s:aS):Int:=(s.2.2.1.map λp=>(p.2.2.2.2.length:Int)).foldl (·+·) 0
def tH(s:aS):Bool:=
 if (mq s.1||decide ((s.2.1.length:Int) > 40)||decide ((s.2.2.1.length:Int) > 40)||decide ((s.2.2.2.1.length:Int) > 40)||decide ((s.2.2.2.2.1.length:Int) > 40))=true then true
 else if (s.2.2.1.any λp=>decide ((p.2.2.2.2.length:Int) > 40))=true then true
 else if (s.2.2.2.1.any λx=>decide ((x.1.length:Int) > 40))=true then true
 else if ke s≠0 then false
 else decide ((s.2.2.2.1.length:Int) > 3)||decide ((s.2.2.1.length:Int) > 4)||decide ((s.2.2.2.2.1.length:Int) > 3)||decide (af2 s > 4)
theorem ayu{s:aS}(h:tH s=false):u_ s:=by
 unfold tH at h;split at h
 ·cases h
 ·rename_i E;split at h
  ·cases h
  ·rename_i M;split at h
   ·cases h
   ·rename_i ai;simp only[aKm,ajl,not_or]at E;rw[Bool.not_eq_true,List.any_eq_false]at M ai;have aZ:mq s.1=false:=by grind
    refine⟨awc aZ,by omega,by omega,by omega,by omega,λp aq=>?_,λx al=>?_⟩
    ·have:=M p aq;simp only[ajl]at this;omega
    ·have:=ai x al;simp only[ajl]at this;omega
abbrev L0:aF:=⟨hE,dm,eN,tH⟩
theorem ayv(x):aR (aeC oS.sh x8.sh x) (L0.sh x):=bg λh=>by
 change eN x at h;unfold aeC e_ cN dn aL aG aQ aB bj b_ a7 ay hy hO;show _=mpure (tH x);unfold tH;simp only[aF.sh,ed,ch];rw[bb (by exact h.1)];obtain⟨g1,eB,g3,g4,g5,g6,g7⟩:=id h;by_cases E:(mq x.1||decide ((x.2.1.length:Int) > 40)||decide ((x.2.2.1.length:Int) > 40)||decide ((x.2.2.2.1.length:Int) > 40)||decide ((x.2.2.2.2.1.length:Int) > 40))=true
 ·grind
 ·rw[if_neg E,if_neg E];simp only[aKm,ajl,not_or]at E;rw[db x.2.2.1 (λi (_:Unit)=>((i:Int),x,())) (λp u=>if decide ((p.2.2.2.2.length:Int) > 40)=true then .done (.done true) else .next u) (λ_=>.next (x,())) () ?_ ?_ ?_]
  ·rw[n2 (p:=λp:lZ=>decide ((p.2.2.2.2.length:Int) > 40))];by_cases M:(x.2.2.1.any λp=>decide ((p.2.2.2.2.length:Int) > 40))=true
   ·simp only[M,if_true,aH,tl]
   ·simp only[M,ajh,ajq,aH,cp];rw[db x.2.2.2.1 (λi (_:Unit)=>((i:Int),x,())) (λp u=>if decide ((p.1.length:Int) > 40)=true then .done (.done true) else .next u) (λ_=>.next (x,())) () ?_ ?_ ?_]
    ·rw[n2 (p:=λp:jQ=>decide ((p.1.length:Int) > 40))];by_cases ai:(x.2.2.2.1.any λx=>decide ((x.1.length:Int) > 40))=true
     ·simp only[ai,if_true,aH,tl]
     ·simp only[ai,ajh,ajq,aH,cp];rw[bb (by exact h)];by_cases he:ke x=0
      ·simp only[he,ne_eq,not_true,aKe,ajh,ajq];have V:∀ p∈x.2.2.1,p.2.2.2.2.length<=40:=λp aq=>by
        grind
       rw[d' x.2.2.1 (λi (n:Int)=>(n,(i:Int),x,())) (λp n=>.next (n+(p.2.2.2.2.length:Int))) (λn=>.next (n,x,())) (λi n=>0<=n/\n<=40*i) 0 ?_ ?_ ?_ ?_]
       ·rw[cU,aH,cp];unfold af2;rw[aLA]
       ·rfl
       ·simp
       ·intro i D n aC;have iG:=bc (n:=(i:Int)+1) (by omega) (by omega);have aJP:=V _ (ajj D);have yg:=bc (n:=n+(x.2.2.1[i].2.2.2.2.length:Int)) (by omega) (by omega);refine⟨?_,λbl da=>?_⟩
        ·simp only[cT D,if_true,cE D,bS,c_ D,cy,iG,yg];rfl
        grind
       simp
      grind
    ·rfl
    ·intro i D u;have iG:=bc (n:=(i:Int)+1) (by omega) (by omega);simp only[cT D,if_true,cE D,bS,c_ D,aH,cy,iG];exact lu (mk:=λ_:Unit=>((i:Int)+1,x,()))
    simp
  ·rfl
  ·intro i D u;have iG:=bc (n:=(i:Int)+1) (by omega) (by omega);simp only[cT D,if_true,cE D,bS,c_ D,aH,cy,iG];exact lu (mk:=λ_:Unit=>((i:Int)+1,x,()))
  simp
def Dv:aS:=(La,[1,0,0,0],[(1,60,0,0,[0]),(1,60,7,0,[]),(2,65,0,1,[0]),(2,60,0,0,[0,1])],[([1],(55,65),7,3,500),([1,2],(60,60),0,5,400),([2],(60,70),9,8,700),([2],(65,65),0,5,300)],[(4,2,1),(6,3,1)],2)
abbrev L1:aF:=⟨.dp,hE,λ_=>True,λ_=>Dv⟩
theorem ayw(x):aR (aeD SK.sh x) (L1.sh x):=bg λ_=>by
 unfold aeD;simp only[aF.sh,ed,bS];rfl
theorem ayx:eN Dv:=by
 refine⟨awg,by decide,by decide,by decide,by decide,?_,?_⟩
 ·intro p aq;simp only[Dv,aKU,aLF,or_false]at aq;grind
 ·intro x al;simp only[Dv,aKU,aLF,or_false]at al;grind
end Go.Fer
namespace Go.Fer.H
variable (auH:aW->G Bool) (auI:Unit->G Bool) (GF:aW->G aW) (Sf:aW->G Bool) (auK:aW×aW->G Bool) (Sm TI:aW×List bC×z1'->G (aW×Int)) (aJQ:aW×aW×Int×Int×Int×Int×Int->G Bool) (zW:aW->G Int) (Q_:List bC->G (List bC×Bool)) (ayy:List (List bC)->G (List bC)) (ayz:List (z1')×Unit->G (z1'×Unit)) (Rc:z1'×Unit->G (z1'×Unit)) (ayA:z1'×Unit->G ((Nat×Nat)×z1'×Unit)) (af3:z3'->G (z3')) (xM:aW->G Int) (Q9:List bC->G (List bC)) (F_:z1'×Int->G Bool) (Q':bC×Int×Int×Int×Int×Int×Int->G Bool) (Sc:aW×Int×Int->G (z1'×Int)) (auJ:z1'×z1'->G Bool) (Sd Se:aW×Int->G ((Int×Int)×Int)) (ayB:Int×Unit->G (List bC×Unit)) (ayC:Int×Unit->G (z1'×Unit))
def af4(x:aW×List bC×z1'):G (aW×Int):=
 letI c:=af3 x.1.1;letI b:=af3 x.1.2.2.2.1;ao (zW x.1) λy=>aG (y≠0) (mpure (([],[],[],[],0,0,0,0,0,0,0),y)) (ao (zW (x.1.1,x.2.1,x.2.2,x.1.2.2.2)) (λy=>aG (y≠0) (mpure (([],[],[],[],0,0,0,0,0,0,0),y)) (ao (ayy [x.1.2.1,x.2.1]) (λy=>ao (Q_ y) λy=>bN (!y.2) (mpure (([],[],[],[],0,0,0,0,0,0,0),91)) (ao (ayz ([x.1.2.2.1,x.2.2],())) (λb8=>ao (Rc (b8.1,())) λdZ=>ao (ayA (dZ.1,())) λhP=>bN (cN (aB y.1) 12||cN (Int.ofNat (hP.1.2-hP.1.1)) 12) (mpure (([],[],[],[],0,0,0,0,0,0,0),90)) (bT c (bT b (mpure ((G.val c [],y.1,List.drop hP.1.1 (hP.2.1.take hP.1.2),G.val b [],x.1.2.2.2.2),0))))))))))
def af5(x:aW×List bC×z1'):G (aW×Int):=
 ao (xM x.1) λy=>aG (y≠0) (mpure (([],[],[],[],0,0,0,0,0,0,0),y)) (ao (GF x.1) (λy=>letI n:=(y.1,x.2.1,x.2.2,y.2.2.2);ao (xM n) λb8=>aG (b8≠0) (mpure (([],[],[],[],0,0,0,0,0,0,0),b8)) (bj (λ(A:List bC×z1'×Int×aW×Int×Int×Int×Int×Int×Int×Int×aW×Unit)=>letI o:=A.2.2;cR o.1 A.1 (bj (λA=>letI k:=A.2.2;letI p:=k.2.2.1;letI j:=Q' (aL A.1 k.1 (0,0,0,0,0,0),aL p.2.1 k.2.1 (0,0,0,0,0,0));cR k.2.1 p.2.1 (a6 k.1 A.1 (a6 k.2.1 p.2.1 (bT j (bN (eS j) (e9 (e9 (b_ (([],[],[],[],0,0,0,0,0,0,0),91)))) (ay (A.1,A.2.1,k.1,aQ k.2.1,p,A.cz,A.er,A.fD,A.hj,A.il,A.iX,A.gw,A.k2,())))))) (a7 (A.1,A.2.1,k.1,p,A.cz,A.er,A.fD,A.hj,A.il,A.iX,A.gw,A.k2,()))) (A.1,A.2.1,o.1,0,o.2.1,o.2.2.1,A.cz,A.er,A.fD,A.hj,A.il,A.iX,A.gw,()) (λA=>ay (A.1,A.2.1,aQ A.2.2.1,A.2.2.2.1,A.2.2.2.2.1,A.cz,A.er,A.fD,A.hj,A.il,A.iX,A.gw,()))) (a7 (A.1,A.2.1,o.2.1,o.2.2.1,A.cz,A.er,A.fD,A.hj,A.il,A.iX,A.gw,()))) (x.2.1,x.2.2,0,x.1,0,0,0,0,0,0,0,n,()) (λA=>letI q:=A.2.2.1.2.1;letI m:=A.iX;dN q (ad (bW (Add.add ([]++q).length A.1.length)) (ao (Q9 ([]++q++A.1)) (λy=>bj (λA=>letI s:=A.2.1;letI l:=A.2.2;aG (s<=99) (b1 (ao (F_ (l.1.2.2.1,s)) (λy=>b3 (!y) (F_ (A.1,s)) false λdZ=>bN (y||dZ) (cM A.xK (ay (A.1,s,l.1,l.2.1,l.2.2.1,A.cz,A.er,A.fD,A.hj,A.il,A.iX,A.gw,A.k2,A.nC,A.pD,A.sd,A.se,A.wq,A.zV,A.wu,A.xK++[s],()))) (ay (A.1,s,l.1,l.2.1,l.2.2.1,A.cz,A.er,A.fD,A.hj,A.il,A.iX,A.gw,A.k2,A.nC,A.pD,A.sd,A.se,A.wq,A.zV,A.wu,A.xK,())))) (λA=>ay (A.1,aQ A.2.1,A.2.2.1,A.2.2.2.1,A.2.2.2.2.1,A.cz,A.er,A.fD,A.hj,A.il,A.iX,A.gw,A.k2,A.nC,A.pD,A.sd,A.se,A.wq,A.zV,A.wu,A.xK,()))) (a7 (l.2.1,l.2.2.1,A.cz,A.er,A.fD,A.hj,A.il,A.iX,A.gw,A.k2,A.nC,A.pD,A.sd,A.se,A.wq,A.zV,A.wu,A.xK,()))) (A.2.1,0,A.2.2.1,A.2.2.2.1,A.2.2.2.2.1,A.cz,A.er,A.fD,A.hj,A.il,m.1,y,m.2.2.2.1,m.2.2.2.2.1,m.cz,m.er,m.fD,m.hj,m.il,m.2.2.2.2.2.2.2.2.2.2,[],()) λA=>bN (cN (aB A.hj) 12||cN (aB A.wq) 12) (mpure (([],[],[],[],0,0,0,0,0,0,0),90)) (mpure ((A.fD,A.hj,A.wq,A.il,A.iX,A.gw,A.k2,A.nC,A.pD,A.sd,A.se),0)))))))))
def af6(x:List (List bC)):G (List bC):=
 bj (λA=>letI g:=A.2.2;letI i:=g.2.2.1;letI f:=e_ A.2.1 (aB (aL g.1 i []));aG (i<g.2.1) (b1 (a6 i g.1 (aG (f<0) (ad False (ad False (ay (A.1,f,g.1,g.2.1,i,())))) (ay (A.1,f,g.1,g.2.1,i,())))) (λA=>ay (A.1,A.2.1,A.2.2.1,A.2.2.2.1,aQ A.2.2.2.2.1,()))) (a7 (A.1,A.2.1,()))) (x,0,x,aB x,0,()) λA=>ao (ayB (A.2.1,())) λy=>bj (λA=>letI h:=A.2.2;aG (h.1<A.2.1) (a6 h.1 A.1 (ad (bW (Add.add h.2.1.length (aL A.1 h.1 []).length)) (ay (A.1,A.2.1,aQ h.1,h.2.1++aL A.1 h.1 [],())))) (a7 (h.2.1,()))) (A.1,aB A.1,0,y.1,()) λA=>mpure A.1
def af7(x:List (z1')×Unit):G (z1'×Unit):=
 bj (λA=>letI g:=A.2.2;letI i:=g.2.2.1;letI f:=e_ A.2.1 (aB (aL g.1 i []));aG (i<g.2.1) (b1 (a6 i g.1 (aG (f<0) (ad False (ad False (ay (A.1,f,g.1,g.2.1,i,())))) (ay (A.1,f,g.1,g.2.1,i,())))) (λA=>ay (A.1,A.2.1,A.2.2.1,A.2.2.2.1,aQ A.2.2.2.2.1,()))) (a7 (A.1,A.2.1,()))) (x.1,0,x.1,aB x.1,0,()) λA=>ao (ayC (A.2.1,())) λy=>bj (λA=>letI h:=A.2.2;aG (h.1<A.2.1) (a6 h.1 A.1 (ad (bW (Add.add h.2.1.length (aL A.1 h.1 []).length)) (ay (A.1,A.2.1,aQ h.1,h.2.1++aL A.1 h.1 [],())))) (a7 (h.2.1,()))) (A.1,aB A.1,0,y.1,()) λA=>mpure (A.1,())
def ayD(x:z1'×Unit):G ((Nat×Nat)×z1'×Unit):=
 aG (aB x.1<2) (mpure ((0,x.1.length),x.1,())) (bj (λA=>letI w:=A.1;letI p:=A.2.1;letI u:=aB p;aG (w<u) (b1 (a6 w p (a6 (cu w 1) p (aG (aL p w 0=aL p (cu w 1) 0) (ad (0<=w/\w<=u/\u<=u) (bj (λA=>letI v:=A.2.1;letI o:=A.2.2;letI y:=cu o.1 1;letI q:=o.2.1.getD (Add.add v.1 o.1.toNat) 0;letI n:=Int.ofNat (v.2-v.1);aG (o.1<n) (b1 (ad (0<=o.1/\o.1<n) (ad (0<=y/\y<n) (aG (q≠o.2.1.getD (Add.add v.1 y.toNat) 0) (ad (0<=o.1/\o.1<n) (a6 A.1 o.2.1 (ay (aQ A.1,v,o.1,List.set o.2.1 A.1.toNat q,())))) (ay (A.1,v,o.1,o.2.1,()))))) (λA=>ay (A.1,A.2.1,aQ A.2.2.1,A.2.2.2.1,()))) (a7 (A.1,o.2.1,()))) (w,(w.toNat,u.toNat),1,p,()) (λA=>letI t:=A.1.toNat;letI s:=aB A.2.1;letI m:=A.2.1.take t++List.replicate (s.toNat-t) 0++A.2.1.drop (Add.add t (List.replicate (s.toNat-t) (0:Int)).length);ad (0<=A.1/\A.1<=s/\s<=s) (ad True (ad ((0:Int)<=0/\0<=A.1/\A.1<=aB m) (e9 (b_ ((Int.toNat 0,t),m,())))))))) (ay (w,p,()))))) (λA=>ay (aQ A.1,A.2.1,()))) (a7 (p,()))) (1,x.1,()) (λA=>mpure ((0,A.1.length),A.1,())))
end Go.Fer.H
namespace Go.Fer.H
def L2(x:Int×Unit):G (z1'×Unit):=eL (0<=x.1/\x.1<60000) ([],())
def L3(x:Int×Unit):G (List bC×Unit):=eL (0<=x.1/\x.1<60000) ([],())
section
variable {ag eK:Type}
def L4(g:Int×Unit->G (List ag×Unit))(x:List (List ag))(k:List ag->G eK):G eK:=
 ao (dG (λ(A:List (List ag)×Int×List (List ag)×Int×Int×Unit)=>if decide (A.2.2.2.2.1<A.2.2.2.1)=true then ao (ad (0<=A.2.2.2.2.1/\
 A.2.2.2.2.1<Int.ofNat (List.length A.2.2.1)) (if decide (IntKind.wrap .i64 (Add.add A.2.1 (Int.ofNat (List.length (List.getD A.2.2.1 (Int.toNat A.2.2.2.2.1) [])))) <
 0)=true then ad False (ad False (mpure (bq.next (A.1,IntKind.wrap .i64 (Add.add A.2.1 (Int.ofNat (List.length (List.getD A.2.2.1 (Int.toNat A.2.2.2.2.1)
 [])))),A.2.2.1,A.2.2.2.1,A.2.2.2.2.1,())))) else mpure (bq.next (A.1,IntKind.wrap .i64 (Add.add A.2.1 (Int.ofNat (List.length (List.getD A.2.2.1 (Int.toNat
 A.2.2.2.2.1) [])))),A.2.2.1,A.2.2.2.1,A.2.2.2.2.1,())))) (bq.hx λ(A:List (List ag)×Int×List (List ag)×Int×Int×Unit)=>mpure (bq.next (A.1,A.2.1,A.2.2.1,A.2.2.2.1,IntKind.wrap .i64 (Add.add A.2.2.2.2.1 1),()))) else ao (mpure (bq.next (A.1,A.2.1,()))) λr=>mpure (bq.done r)) (x,0,x,Int.ofNat
 (List.length x),0,())) (bq.hx λ(A:List (List ag)×Int×Unit)=>ao (g (A.2.1,())) λy=>ao (dG (λ(A:List (List ag)×Int×Int×List ag×
 Unit)=>if decide (A.2.2.1<A.2.1)=true then ad (0<=A.2.2.1/\A.2.2.1<Int.ofNat (List.length A.1)) (ad (bW (Add.add (List.length A.2.2.2.1) (List.length
 (List.getD A.1 (Int.toNat A.2.2.1) [])))) (mpure (bq.next (A.1,A.2.1,IntKind.wrap .i64 (Add.add A.2.2.1 1),A.2.2.2.1++List.getD A.1 (Int.toNat A.2.2.1) [],())))) else ao (mpure (bq.next (A.2.2.2.1,()))) λr=>mpure (bq.done r)) (A.1,Int.ofNat (List.length A.1),0,y.1,())) (bq.hx λ(A:List ag×Unit)
 =>k A.1))
theorem af8:∀ (l:List (List ag)) (b:List ag),l.foldl (λb x=>b++x) b=b++l.flatten
 | [],b=>by simp
 | x::l,b=>by simp[af8 l]
theorem af9(g:Int×Unit->G (List ag×Unit))(aA:∀ n,0<=n->n<60000->g (n,())=mpure ([],()))(x:List (List ag))(k:List ag->G eK)(E:x.length<=2)(M:∀ l∈x,l.length<=40):L4 g x k=k x.flatten:=by
 unfold L4;rw[d' x (λi n=>(x,n,x,(x.length:Int),(i:Int),())) (λl n=>.next (n+(l.length:Int))) (λn=>.next (x,n,())) (λi n=>0<=n/\n<=40*i) 0 ?_ ?_ ?_ ?_]
 ·rw[cU,aH,cp];have az:∀ (l:List (List ag)) (n:Int),0<=n->(∀ y∈l,y.length<=40)->0<=l.foldl (λn y=>n+(y.length:Int)) n/\l.foldl (λn y=>n+(y.length:Int)) n<=n+40*l.length:=by
   intro l;induction l<;>grind
  obtain⟨cm,eX⟩:=az x 0 (aKs _) M;rw[aA _ cm (by omega),aH];rw[d' x (λi b=>(x,(x.length:Int),(i:Int),b,())) (λl b=>.next (b++l)) (λb=>.next (b,())) (λi b=>b.length<=40*i) [] ?_ ?_ ?_ ?_]
  ·simp_all[cU,af8]
  ·rfl
  ·simp
  ·intro i D b V;have hw:=bc (n:=i+1) (by omega) (by omega);refine⟨?_,λbl da=>?_⟩
   ·simp only[ch,cT D,c_ D,cE D,bS,cy,hw];rw[bb (ez (by grind))];rfl
   grind
  simp
 ·rfl
 ·omega
 ·intro i D n aC;have hw:=bc (n:=i+1) (by omega) (by omega);have af:=M _ (ajj D);have ft:=bc (n:=n+(x[i].length)) (by omega) (by omega);have an:decide (n+(x[i].length)<0)=false:=by grind
  refine⟨?_,λbl da=>?_⟩
  ·simp only[ch,cT D,c_ D,cE D,bS,cy,hw,ft,an,ajh,ajq,aH,cp];rfl
  grind
 simp
end
abbrev L5:aF:=⟨.slice (.slice hA),.slice hA,λx=>x.length<=2/\∀ l∈x,l.length<=40,λx=>x.flatten⟩
theorem ayE(x):aR (af6 L3 x) (L5.sh x):=bg λh=>
 (show af6 L3 x=L4 L3 x mpure from rfl).trans (af9 _ (λn a b=>bJ ⟨a,b⟩ _) x _ h.1 h.2)
def L6(x:List (z1')×Unit):G (z1'×Unit):=eL (x.1.length<=2/\∀ l∈x.1,l.length<=40) (x.1.flatten,())
theorem ayF(x):aR (af7 L2 x) (L6 x):=bg λh=>
 (show af7 L2 x=L4 L2 x.1 (λl=>mpure (l,())) from rfl).trans (af9 _ (λn a b=>bJ ⟨a,b⟩ _) x.1 _ h.1 h.2)
def qF(l:z1')(j:Nat):Bool:=decide (j=0)||decide (l.getD j 0≠l.getD (j - 1) 0)
def gA(l:z1')(p:Nat):z1':=((List.range p).filter (qF l)).map λj=>l.getD j 0
theorem TJ(l:z1')(p:Nat):gA l (p+1)=gA l p++if qF l p=true then [l.getD p 0] else []:=by
 grind [gA,List.range_succ]
theorem ayG(l:z1')(p:Nat):(gA l p).length<=p:=by
 unfold gA;grind
def G'{R:Type}:Int×(Nat×Nat)×Int×z1'×Unit->G (bq (Int×(Nat×Nat)×Int×z1'×Unit) (bq (Int×z1'×Unit) R)):=
 (λ(A:Int×(Nat×Nat)×Int×z1'×Unit)=>if decide (A.2.2.1<Int.ofNat (A.2.1.2 - A.2.1.1))=true then ao (ad (0<=A.2.2.1/\A.2.2.1<Int.ofNat
 (A.2.1.2 - A.2.1.1)) (ad (0<=IntKind.wrap .i64 (A.2.2.1 - 1)/\IntKind.wrap .i64 (A.2.2.1 - 1)<Int.ofNat (A.2.1.2 - A.2.1.1)) (if decide (List.getD A.2.2.2.1
 (Add.add A.2.1.1 (Int.toNat A.2.2.1)) 0≠List.getD A.2.2.2.1 (Add.add A.2.1.1 (Int.toNat (IntKind.wrap .i64 (A.2.2.1 - 1)))) 0)=true then ad (0<=A.2.2.1/\A.2.2.1
 < Int.ofNat (A.2.1.2 - A.2.1.1)) (ad (0<=A.1/\A.1<Int.ofNat (List.length A.2.2.2.1)) (mpure (bq.next (IntKind.wrap .i64 (Add.add A.1 1),A.2.1,A.2.2.1,List.set A.2.2.2.1 (Int.toNat A.1) (List.getD A.2.2.2.1 (Add.add A.2.1.1 (Int.toNat A.2.2.1)) 0),())))) else mpure (bq.next (A.1,A.2.1,A.2.2.1,A.2.2.2.1,())))))
 (bq.hx λ(A:Int×(Nat×Nat)×Int×z1'×Unit)=>mpure (bq.next (A.1,A.2.1,IntKind.wrap .i64 (Add.add A.2.2.1 1),A.2.2.2.1,()))) else ao
 (mpure (bq.next (A.1,A.2.2.2.1,()))) λr=>mpure (bq.done r))
def yu:Int×z1'×Unit->G (bq (Int×z1'×Unit) (bq (z1'×Unit) ((Nat×Nat)×z1'×Unit))):=
 (λ(A:Int×z1'×Unit)=>if decide (A.1<Int.ofNat (List.length A.2.1))=true then ao (ad (0<=A.1/\A.1<Int.ofNat (List.length A.2.1)) (ad (0<=
 IntKind.wrap .i64 (A.1 - 1)/\IntKind.wrap .i64 (A.1 - 1)<Int.ofNat (List.length A.2.1)) (if decide (List.getD A.2.1 (Int.toNat A.1) 0=List.getD A.2.1 (Int.toNat
 (IntKind.wrap .i64 (A.1 - 1))) 0)=true then ad (0<=A.1/\A.1<=Int.ofNat (List.length A.2.1)/\Int.ofNat (List.length A.2.1)<=Int.ofNat (List.length A.2.1))
 (ao (dG G' (A.1,(Int.toNat A.1,Int.toNat (Int.ofNat (List.length A.2.1))),1,A.2.1,())) (bq.hx λ(A:Int×z1'×Unit)=>ad (0<=A.1/\A.1<=
 Int.ofNat (List.length A.2.1)/\Int.ofNat (List.length A.2.1)<=Int.ofNat (List.length A.2.1)) (ad True (ad ((0:Int)<=0/\0<=A.1/\A.1<=Int.ofNat (List.length
 (List.take (Int.toNat A.1) A.2.1++List.replicate (Int.toNat (Int.ofNat (List.length A.2.1)) - Int.toNat A.1) 0++List.drop (Add.add (Int.toNat A.1) (List.length
 (List.replicate (Int.toNat (Int.ofNat (List.length A.2.1)) - Int.toNat A.1) (0:Int)))) A.2.1))) (ao (ao (ao (mpure ((Int.toNat 0,Int.toNat A.1),List.take
 (Int.toNat A.1) A.2.1++List.replicate (Int.toNat (Int.ofNat (List.length A.2.1)) - Int.toNat A.1) 0++List.drop (Add.add (Int.toNat A.1) (List.length (List.replicate
 (Int.toNat (Int.ofNat (List.length A.2.1)) - Int.toNat A.1) (0:Int)))) A.2.1,())) λr=>mpure (bq.done r)) λr=>mpure (bq.done r)) λr=>mpure (bq.done
 r)))))) else mpure (bq.next (A.1,A.2.1,()))))) (bq.hx λ(A:Int×z1'×Unit)=>mpure (bq.next (IntKind.wrap .i64 (Add.add A.1 1),A.2.1,()))) else
 ao (mpure (bq.next (A.2.1,()))) λr=>mpure (bq.done r))
structure AM(l:z1')(p:Nat)(m:z1'):Prop where
 len:m.length=l.length
 Es:m.take (gA l p).length=gA l p
 lt:(gA l p).length<p
 cK:∀ j,p<=j+1->m.getD j 0=l.getD j 0
theorem ayH{ag:Type}{l:List ag}{i j:Nat}{v d:ag}(h:i<l.length):(l.set i v).getD j d=if j=i then v else l.getD j d:=by
 grind
theorem AM.step{l m:z1'}{p:Nat}(h:AM l p m)(aq:p<l.length):AM l (p+1) (if qF l p=true then m.set (gA l p).length (l.getD p 0) else m):=by
 have E:=h.lt;have M:=h.len;have hc:=TJ l p;by_cases ah:qF l p=true
 ·rw[if_pos ah]at hc ⊢;refine⟨by grind,?_,?_,λj aI=>?_⟩
  ·rw[hc,aKx,aLu];have aT:=h.Es;generalize gA l p=c at aT E;apply aLv;grind
  ·grind
  ·rw[ayH (by omega),if_neg (by omega)];exact h.cK j (by omega)
 ·rw[if_neg ah,aKg]at hc;rw[if_neg ah];refine⟨M,by rw[hc];exact h.Es,by grind,λj aI=>h.cK j (by omega)⟩
theorem ayI{R:Type}{l m:z1'}{k p:Nat}(af:l.length<60000)(ah:k<p)(s3:0<k)(h:AM l p m)(aq:p<l.length) :
  G' (R:=R) (((gA l p).length:Nat),(k,l.length),((p - k:Nat):Int),m,())=mpure (.next (((gA l (p+1)).length:Nat),(k,l.length),((p+1 - k:Nat):Int),(if qF l p=true then m.set (gA l p).length (l.getD p 0) else m),())):=by
 have E:=h.lt;have M:=h.len;have hc:=TJ l p;have cj:=bc (n:=((p - k:Nat)) - 1) (by omega) (by omega);have dM:IntKind.wrap .i64 (((p - k:Nat))+1)=((p+1 - k:Nat)):=(bc (by omega) (by omega)).trans (by omega);have hi:=bc (n:=(((gA l p).length))+1) (by omega) (by omega);have d1:decide (((p - k))<((l.length - k)))=true:=by grind
 have cL:(0)<=((p - k:Nat):Int) - 1/\((p - k:Nat)) - 1<((l.length - k:Nat):Int):=by omega
 have e7:(0)<=(((gA l p).length))/\(((gA l p).length))<m.length:=by omega
 have ax:k+(((p - k):Int)).toNat=p:=by omega
 have aU:k+(((p - k):Int) - 1).toNat=p - 1:=by omega
 have g1:=h.cK p (by omega);have eB:=h.cK (p - 1) (by omega);have ED:qF l p=decide (l.getD p 0≠l.getD (p - 1) 0):=by
  grind [qF]
 unfold G';by_cases aJR:qF l p=true<;>simp_all
theorem ayJ{R:Type}{l:z1'}{k:Nat}(af:l.length<60000)(s3:0<k):∀ (n p:Nat) (m:z1'),l.length - p=n->p<=l.length->k<p->AM l p m->
  ∃ eh,AM l l.length eh/\dG (G' (R:=R)) (((gA l p).length:Nat),(k,l.length),((p - k:Nat):Int),m,())=mpure (.next (((gA l l.length).length:Nat),eh,())):=by
 intro n;induction n with
 | zero=>
  intro p m aC aq ah h;have:p=l.length:=by omega
  subst this;refine⟨m,h,tR ?_⟩;simp_all[G']
 | succ n aP=>
  intro p m aC aq ah h;have aq:p<l.length:=by omega
  obtain⟨eh,E,M⟩:=aP (p+1) _ (by omega) aq (by omega) (h.step aq);grind [Bg,ayI]
def yv(l:z1'):(Nat×Nat)×z1'×Unit:=((0,(gA l l.length).length),gA l l.length++List.replicate (l.length - (gA l l.length).length) 0,())
theorem ayK{l:z1'}(af:l.length<60000):∀ (n p:Nat),l.length - p=n->p<=l.length->0<p->gA l p=l.take p->
  ao (dG yu ((p:Int),l,())) (bq.hx λ(A:z1'×Unit)=>mpure ((0,List.length A.1),A.1,()))=mpure (yv l):=by
 intro n;induction n with
 | zero=>
  intro p aC aq aZ hc;have:p=l.length:=by omega
  subst this;have V:yu (l.length,l,())=mpure (.done (.next (l,()))):=by
   simp_all[yu]
  rw[tR V];simp_all[yv]
 | succ n aP=>
  intro p aC aq aZ hc;have aq:p<l.length:=by omega
  have cj:=bc (n:=p - 1) (by omega) (by omega);have dM:=bc (n:=p+1) (by omega) (by omega);have cL:(0)<=(p:Int) - 1/\p - 1<(l.length:Int):=by omega
  have ED:qF l p=decide (l.getD p 0≠l.getD (p - 1) 0):=by
   unfold qF;rw[show decide (p=0)=false by grind,aKZ]
  have rL:=TJ l p;by_cases ah:qF l p=true
  ·have V:yu (p,l,())=mpure (.next (((p+1)),l,())):=by
    simp_all[yu]
   rw[Bg V];refine aP (p+1) (by omega) aq (by omega) ?_;simp_all
  ·have heq:l.getD p 0=l.getD (p - 1) 0:=by grind
   have fa:AM l (p+1) l:=⟨rfl,by grind,by grind,λ_ _=>rfl⟩
   obtain⟨eh,E,M⟩:=ayJ   af aZ (l.length - (p+1)) (p+1) l rfl aq (by omega) fa;rw[show (gA l (p+1)).length=p by grind,show p+1 - p=1 from by omega]at M;have om:=ayG l l.length;have auD:=E.len;have mL:=E.Es;have e7:(0)<=((gA l l.length).length:Int)/\((gA l l.length).length)<=(eh.length:Int):=by omega
   have mg:List.take (gA l l.length).length eh++List.replicate (eh.length - (gA l l.length).length) 0++List.drop ((gA l l.length).length+(List.replicate (eh.length - (gA l l.length).length) (0:Int)).length) eh=gA l l.length++List.replicate (l.length - (gA l l.length).length) 0:=by
    simp_all
   have V:yu (p,l,())=mpure (.done (.done (yv l))):=by
    unfold yu;simp only[ch,cT aq,cE aq,bS,cj,cL,aKH,ajr,heq];rw[bb (by omega)];erw [M];simp only[aH,cp,ajr,mY,mg];rw[bb ⟨e7.1,e7.2,aKs _⟩,bb ⟨aKs _,e7.1,by grind⟩];simp;rfl
   rw[tR V,aH,tl]
def L7(x:z1'×Unit):G ((Nat×Nat)×z1'×Unit):=eL (x.1.length<60000) (yv x.1)
theorem ayL(x):aR (ayD x) (L7 x):=bg λh=>by
 obtain⟨l,u⟩:=x;change l.length<60000 at h;show (if decide (Int.ofNat l.length<2)=true then mpure ((0,l.length),l,()) else ao (dG yu (1,l,())) (bq.hx λA=>mpure ((0,List.length A.1),A.1,())))=mpure (yv l);have pd:∀ l,l.length<2->gA l l.length=l:=λl af=>by
  match l,af with
  | [],_=>rfl
  | [a],_=>rfl
 by_cases M:l.length<2
 ·have an:decide (Int.ofNat l.length<2)=true:=by grind
  simp_all[yv]
 ·have an:¬decide (Int.ofNat l.length<2)=true:=by grind
  rw[if_neg an];refine ayK h (l.length - 1) 1 rfl (by omega) (by omega) ?_;match l,M with
  | a::l,_=>rfl
  | [],M=>grind
end Go.Fer.H
namespace Go.Fer.H
theorem ayM{l:z1'}:∀ j,j<l.length->l.getD j 0∈gA l l.length:=by
 intro j;induction j with
 | zero=>
  intro h;exact List.mem_map.2 ⟨0,List.mem_filter.2 ⟨by grind,by rfl⟩,rfl⟩
 | succ j aP=>
  grind [qF,gA]
theorem ayN{l:z1'}{x:Int}:x∈gA l l.length<->x∈l:=by
 constructor
 ·grind [gA]
 ·intro h;obtain⟨j,aI,rfl⟩:=List.mem_iff_getElem.1 h;rw[<-uO   aI];exact ayM j aI
theorem ayO{l:z1'}(h:l.Pairwise (·<=·)):(gA l l.length).Pairwise (·<·):=by
 unfold gA;rw[aLx];have U:((List.range l.length).filter (qF l)).Pairwise (·<·):=aLz _ aK3;refine List.Pairwise.imp_of_mem ?_ U;intro i j D aI EK;have fc:l.getD j 0≠l.getD (j - 1) 0:=by
  grind [qF]
 have az:=List.pairwise_iff_getElem.1 h;grind
def tI(a b:z1'):z1':=(dA 0 99).filter λid=>a.contains id||b.contains id
theorem TK(a b:Int):(dA a b).Pairwise (·<·):=by
 grind [dA,List.pairwise_lt_range]
theorem ayP{a b:z1'}(br:a.Pairwise (·<·))(V:b.Pairwise (·<·))(h:∀ x,x∈a<->x∈b):a=b:=by
 have ayQ:a.Nodup:=br.imp λh=>by omega
 have n0:b.Nodup:=V.imp λh=>by omega
 have aq:=(aK4 ayQ n0).2 h;rw[<-Cw (br.imp λh=>by omega) (List.Perm.refl a)];exact Cw (V.imp λh=>by omega) aq
theorem ayR{a b:z1'}(br:∀ x∈a,cg x 0 99=true)(V:∀ x∈b,cg x 0 99=true):gA (fv iE (a++b)) (fv iE (a++b)).length=tI a b:=by
 refine ayP (ayO (Ru _)) (aLz _ (TK 0 99)) λx=>?_;grind [ayN,acn,tI,r',ra]
abbrev Dw:aW:=([],[],[],[],0,0,0,0,0,0,0)
def k_(c:aW)(more:List bC)(eT:z1'):aW:=(c.1,more,eT,c.2.2.2)
def nf(c:aW)(more:List bC)(eT:z1'):aW×Int:=
 if cA c≠0 then (Dw,cA c) else if cA (k_ c more eT)≠0 then (Dw,cA (k_ c more eT)) else
 if kL (c.2.1++more)=true then (Dw,91) else
 if (decide (Int.ofNat (fN (c.2.1++more)).length > 12)||decide (Int.ofNat (tI c.2.2.1 eT).length > 12))=true then (Dw,90) else (k_ c (fN (c.2.1++more)) (tI c.2.2.1 eT),0)
abbrev sD:aF:=⟨.ar hk (.ar (.slice hA) dV),.ar hk bp,λx=>jw x.1/\x.2.1.length<2 ^ 63/\x.2.2.length<2 ^ 63,λx=>nf x.1 x.2.1 x.2.2⟩
abbrev Ha:aF:=⟨.slice mn,.slice mn,λx=>x.length<65536,λx=>x⟩
theorem ayS(x):aR (abO x) (Ha.sh x):=uB λh=>by
 unfold abO bN dN;rw[hp];refine⟨⟨false,by simp⟩,λb V=>?_⟩;change b=true->x=[]at V;grind [eY,l_,ez]
structure af_(c:aW):Prop where
 dI:c.1.length<=3
 dW:c.2.1.length<=12
 jM:c.2.2.1.length<=12
 n4:c.2.2.2.1.length<=4
 ids:∀ s∈c.2.1,cg s.1 0 99=true
 eT:∀ n∈c.2.2.1,cg n 0 99=true
 cl:kL c.2.1=false
theorem Dx{c:aW}(h:cA c=0):af_ c:=by
 unfold cA at h;by_cases hc:k4 c=true
 ·have om:kL c.2.1=false:=by
   grind
  have D:=KE hc;unfold k4 uM at hc;simp  at hc;obtain⟨⟨⟨⟨⟨bD,_⟩,_⟩,M⟩,ai⟩,_⟩:=hc;exact⟨by omega,by omega,by omega,by omega,D.2,ai,om⟩
 grind
theorem ayT{a b:List bC}(br:a.length<=12)(V:b.length<=12)(E:∀ s∈a,cg s.1 0 99=true)(M:∀ s∈b,cg s.1 0 99=true):z7 (a++b):=
 ⟨by grind,λs az=>(List.mem_append.1 az).elim (E s) (M s)⟩
theorem ayU(x):aR (af4 gR.sh CJ.sh L5.sh L6 Cx L7 Ha.sh x) (sD.sh x):=bg λh=>by
 obtain⟨c,more,eT⟩:=x;obtain⟨E,M,ai⟩:=h;have s4:jw (k_ c more eT):=⟨E.1,M,ai,E.2.2.2⟩
 unfold af4 cN bN aG aB bT;show _=mpure (nf c more eT);unfold nf;rw[show gR.sh (c,more,eT).1=mpure (cA c) from bJ E _,aH];by_cases ax:cA c=0
 ·have g1:=Dx ax;rw[show gR.sh ((c,more,eT).1.1,(c,more,eT).2.1,(c,more,eT).2.2,(c,more,eT).1.2.2.2)=mpure (cA (k_ c more eT)) from bJ s4 _,aH];by_cases aU:cA (k_ c more eT)=0
  ·have eB:=Dx aU;have dW:more.length<=12:=eB.dW;have jM:eT.length<=12:=eB.jM;have lh:=g1.dW;have p4:=g1.jM;have D:=ayT g1.dW eB.dW g1.ids eB.ids;rw[if_neg (by grind),if_neg (by grind),if_neg (by omega),if_neg (by omega)];rw[show L5.sh [(c,more,eT).1.2.1,(c,more,eT).2.1]=mpure (c.2.1++more) from (bJ ⟨by simp,by grind⟩ _).trans (congrArg mpure (by simp)),aH];rw[show CJ.sh (c.2.1++more)=mpure (if kL (c.2.1++more)=true then ([],false) else (fN (c.2.1++more),true)) from bJ D _,aH];cases hc:kL (c.2.1++more) with
   | true=>simp
   | false=>
    rw[show L6 ([c.2.2.1,eT],())=mpure (c.2.2.1++eT,()) from (bJ ⟨by simp,by grind⟩ _).trans (congrArg mpure (by simp)),aH];rw[show Cx ((c.2.2.1++eT,()))=mpure (fv iE (c.2.2.1++eT),()) from bJ (by grind) _,aH];rw[show L7 ((fv iE (c.2.2.1++eT),()))=mpure (yv (fv iE (c.2.2.1++eT))) from bJ (by grind [Kx]) _];have jG:=ayR g1.eT eB.eT;unfold yv;rw[show (gA (fv iE (c.2.2.1++eT)) (fv iE (c.2.2.1++eT)).length)=tI c.2.2.1 eT from jG];rw[show Ha.sh c.1=mpure c.1 from bJ (by have:=g1.dI;omega) _,show Ha.sh c.2.2.2.1=mpure c.2.2.2.1 from bJ (by have:=g1.n4;omega) _];simp;split<;>rfl
  grind
 grind
end Go.Fer.H
namespace Go.Fer.aj
abbrev wU:aa:=.slice .str
abbrev mB:aa:=.ae (.ar hE H.hk)
def dB:a1->List a1
 | []=>[[]]
 | c::s=>if c=32 then []::dB s else match dB s with
  | []=>[[c]]
  | w::l=>(c::w)::l
theorem yw:∀ (s:a1),1<=(dB s).length/\(dB s).length<=s.length+1
 | []=>by simp[dB]
 | c::s=>by
  have:=yw s;grind [dB]
theorem af':∀ (s:a1) {w:a1},w∈dB s->w.length<=s.length
 | [],w,h=>by grind [dB]
 | c::s,w,h=>by
  have aP:=@af' s;grind [dB]
def hQ:a1->Int->Int
 | [],n=>n
 | c::s,n=>if (decide ((c.toNat:Int)<48)||decide ((c.toNat:Int) > 57))=true then -1 else hQ s (10*n+((c.toNat:Int) - 48))
def f_(s:a1):Int:=if (decide (s.length=0)||decide (s.length > 6)||decide (s.length > 1)&&decide ((s.getD 0 0).toNat=48))=true then -1 else hQ s 0
theorem TL:∀ (s:a1) (n:Int) (k:Nat),0<=n->n<10 ^ k->hQ s n<10 ^ (k+s.length)/\-1<=hQ s n
 | [],n,k,aZ,E=>by simp[hQ];omega
 | c::s,n,k,aZ,E=>by
  unfold hQ;have aq:(0:Int)<10 ^ (k+(c::s).length):=Int.pow_pos (by decide);split
  ·omega
  ·rename_i hc;simp  at hc;have:=TL s (10*n+(c.toNat - 48)) (k+1) (by omega) (by omega);grind
theorem aga(s:a1):-1<=f_ s/\f_ s<=999999:=by
 unfold f_;split
 ·omega
 ·rename_i h;simp  at h;have:=TL s 0 0 (by decide) (by decide);have M:(10:Int) ^ (0+s.length)<=10 ^ 6:=by
   have:=aKT (n:=10) (by decide) (show 0+s.length<=6 by omega);grind
  omega
def u'(s:a1):Int:=match Go.Lib.atoiAll s with
 | .ok v=>v
 | .range=>Go.Lib.atoiSat s
 | _=>0
def s_(s:a1):Int×Bool:=(u' s,decide (0<=f_ s))
def Dy(l:List a1):Option (z1'):=if l.all (λw=>decide (0<=f_ w))=true then some (l.map f_) else none
def ru(n:Int):a1:=Go.Lib.itoa (IntKind.wrap .i64 n)
theorem TM(n:Int):(ru n).length<=21:=by
 have:=rK .i64 n;exact Go.Lib.itoa_length_le _ this.1 this.2
abbrev Hb:a1:=[111,107]
abbrev AN:a1:=[110,111]
abbrev L8:a1:=[110,111,110,101]
abbrev L9:a1:=[115,104,111,112]
abbrev ayV:a1:=[108,105,97,114]
abbrev ayW:a1:=[63]
def pL(l:z1'):a1:=if l=[] then L8 else Go.Lib.join (l.map ru) [32]
def nK(e:Int)(l:z1'):a1:=if e=0 then pL l else if e=3 then L8 else AN
def AO(x:(Int×Int)×Int):a1:=nK x.2 [x.1.1,x.1.2]
abbrev aX(l:z1')(i:Nat):Int:=l.getD i 0
def sE(d:bk)(m:List H.bC)(v:z1'):a1×bk:=if (H.nf d.2 m v).2≠0 then (AN,d) else (Hb,(d.1,(H.nf d.2 m v).1))
def nL(d:bk)(s:aS):a1×bk:=if ke s≠0 then (AN,d) else (Hb,(s,d.2))
def L_(d:bk)(l:z1'):a1×bk:=sE d [(aX l 0,aX l 1,aX l 2,1,aX l 3,aX l 4)] []
def L'(d:bk)(l:z1'):a1×bk:=sE d [(aX l 0,aX l 1,aX l 2,2,aX l 3,0)] []
def Ma(d:bk)(l:z1'):a1×bk:=sE d [] l
def TN(d:bk)(l:z1'):a1×bk:=(AO (H.Ad d.2 (aX l 0)),d)
def TO(d:bk)(l:z1'):a1×bk:=(AO (H.Ae d.2 (aX l 0)),d)
def TP(d:bk)(l:z1'):a1×bk:=(AO (H.xY d.2 (aX l 0)),d)
def TQ(d:bk)(l:z1'):a1×bk:=(AO (H.x0 d.2 (aX l 0)),d)
def Hc(r:z1'×Int):a1:=if (decide (r.2≠0)||decide (r.1.getD 0 0>=0))=true then nK r.2 r.1 else if r.1.length=1 then L9 else L9++[32]++pL (r.1.drop 1)
def TR(d:bk)(l:z1'):a1×bk:=(Hc (H.n5 d.2 (aX l 0) (aX l 1)),d)
def Hd(r:z1'×z1'×Int):a1:=if r.2.2≠0 then nK r.2.2 [] else pL r.1++[32,47,32]++pL r.2.1
def TS(d:bk)(l:z1'):a1×bk:=(Hd (H.nF d.2 (aX l 0)),d)
def kv(w:bL)(t:Int×Int×Int×Int):bL:=(w.1,w.2.1,w.2.2.1,w.2.2.2++[t])
def tJ(d:bk)(l:z1'):a1×bk:=
 if cA (kv d.1.1 (aX l 0,aX l 1,aX l 2,aX l 3))≠0 then (AN,d) else if (ye (kv d.1.1 (aX l 0,aX l 1,aX l 2,aX l 3)) (aX l 0)).2≠0 then (ayV,d)
 else (Hb,((kv d.1.1 (aX l 0,aX l 1,aX l 2,aX l 3),d.1.2),d.2))
def rq(r:Int×Int):a1:=if r.2≠0 then nK r.2 [] else List.getD [[],[115,117,114,101,108,121],[110,101,118,101,114],[112,101,114,104,97,112,115]] r.1.toNat []
def TT(d:bk)(l:z1'):a1×bk:=(rq (kc d.1.1 (aX l 0) (aX l 1) (aX l 2)),d)
def AP(d:bk)(l:z1'):a1×bk:=if aX l 0>=(d.1.2.1.length:Int) then (AN,d) else nL d (d.1.1,d.1.2.1.set (aX l 0).toNat (d.1.2.1.getD (aX l 0).toNat 0+aX l 1),d.1.2.2)
def TU(d:bk)(l:z1'):a1×bk:=nL d (d.1.1,d.1.2.1,d.1.2.2.1,d.1.2.2.2.1,d.1.2.2.2.2.1++[(aX l 0,aX l 1,aX l 2)],d.1.2.2.2.2.2)
def TV(d:bk)(l:z1'):a1×bk:=nL d (d.1.1,d.1.2.1,d.1.2.2.1++[(aX l 0,aX l 1,aX l 2,aX l 3,l.drop 4)],d.1.2.2.2)
def TW(d:bk)(l:z1'):a1×bk:=nL d (d.1.1,d.1.2.1,d.1.2.2.1,d.1.2.2.2.1++[(l.drop 5,(aX l 0,aX l 1),aX l 2,aX l 3,aX l 4)],d.1.2.2.2.2)
def wV(d:bk)(l:z1'):a1×bk:=if aX l 0>=(d.1.2.2.2.1.length:Int) then (AN,d) else (Hb,((d.1.1,d.1.2.1,d.1.2.2.1,d.1.2.2.2.1.eraseIdx (aX l 0).toNat,d.1.2.2.2.2),d.2))
def TX(d:bk)(l:z1'):a1×bk:=(nK (qE d.1 (aX l 0)).2 (qE d.1 (aX l 0)).1,d)
def TY(d:bk)(l:z1'):a1×bk:=(nK (sA d.1 (l.map (· - 1))).2 [(sA d.1 (l.map (· - 1))).1],d)
def TZ(d:bk)(_:z1'):a1×bk:=(nK (rs d.1 true).2 [(rs d.1 true).1],d)
def T0(d:bk)(_:z1'):a1×bk:=(nK (sz d.1).2 [(sz d.1).1],d)
def oX:Nat->bk->z1'->a1×bk
 | 0=>L_ | 1=>L' | 2=>Ma | 3=>TN | 4=>TO | 5=>TP | 6=>TQ | 7=>TR | 8=>TS | 9=>tJ
 | 10=>TT | 11=>AP | 12=>TU | 13=>TV | 14=>TW | 15=>wV | 16=>TX | 17=>TY | 18=>TZ | _=>T0
def iJ:List (a1×Int×Bool):=[([108,101,110,100],5,false),([98,97,99,107],4,false),([118,111,105,100],1,false),([108,97,115,116,115],1,false),([102,101,101],1,false),([111,119,101,115],1,false),([104,101,108,100],1,false),([119,104,101,114,101],2,false),([109,105,115,115,105,110,103],1,false),([116,114,105,97,108],4,false),([102,105,116,115],3,false),([115,116,111,99,107],2,false),([99,111,109,101,115],3,false),([112,105,101,99,101],4,true),([119,105,115,104],5,true),([100,114,111,112],1,false),([99,97,110],1,false),([116,97,107,101,115],0,true),([109,111,115,116],0,false),([101,120,116,114,97],0,false)]
def oY(w:a1):List (a1×Int×Bool)->Nat->Option (Int×Bool×Nat)
 | [],_=>none
 | p::l,i=>if w=p.1 then some (p.2.1,p.2.2,i) else oY w l (i+1)
def va(s:a1):Option (Nat×z1'):=
 match oY ((dB s).getD 0 []) iJ 0 with
 | none=>none
 | some (k,m,j)=>if (decide (((dB s).length:Int) - 1<k)||decide (((dB s).length:Int) - 1 > k)&&!m)=true then none else (Dy ((dB s).drop 1)).map λl=>(j,l)
def ng(d:bk)(s:a1):a1×bk:=match va s with
 | none=>(ayW,d)
 | some (j,l)=>oX j d l
def oZ:bk->List a1->List a1×bk
 | d,[]=>([],d)
 | d,s::l=>((ng d s).1::(oZ (ng d s).2 l).1,(oZ (ng d s).2 l).2)
theorem ayX(d:bk)(a:List a1):(oZ d a).1.length=a.length:=by
 induction a generalizing d with
 | nil=>rfl
 | cons s a aP=>grind [oZ]
def qG(d:bk):Int:=if (decide (ke d.1≠0)||decide (H.cA d.2≠0))=true then 120 else 0
def l5(d:bk):bk:=(d.1,(H.nf d.2 [] []).1)
abbrev Mb:bk:=((([],[],0,[]),[],[],[],[],0),[],[],[],[],0,0,0,0,0,0,0)
def pM(d:bk)(l:List a1):List a1×bk×Int:=
 if qG d≠0 then ([],Mb,qG d) else if l.length > 40 then ([],Mb,2) else ((oZ (l5 d) l).1,(oZ (l5 d) l).2,0)
structure dx(d:bk):Prop where
 fB:eN d.1
 AQ:ke d.1=0
 vb:H.cA d.2=0
 Dz:H.jI d.2.1<=60
theorem dx.val{d:bk}(h:dx d):fg d.1:=qB h.fB h.AQ
theorem dx.agb{d:bk}(h:dx d):H.af_ d.2:=H.Dx h.vb
theorem dx.gx{d:bk}(h:dx d):H.gx d.2:=by
 have:=h.agb;exact⟨⟨by have:=this.dI;omega,by have:=this.dW;omega,by have:=this.jM;omega,by have:=this.n4;omega⟩,λ_=>h.Dz⟩
theorem dx.jw{d:bk}(h:dx d):H.jw d.2:=h.gx.fB
structure fO(k:Nat)(l:z1'):Prop where
 He:k<=l.length
 AR:l.length<=10000
 num:∀ n∈l,0<=n/\n<=999999
theorem fO.aX{k:Nat}{l:z1'}(h:fO k l)(i:Nat):0<=aX l i/\aX l i<=999999:=by
 rcases aLQ i l.length with D | D
 ·have:=h.num l[i] (by simp);grind
 grind
end Go.Fer.aj
namespace Go.Fer.aj
open H (ez)
abbrev Mc:aF:=⟨.int .i64,.str,λ_=>True,ru⟩
abbrev Hf:aF:=⟨.ar wU .str,.str,λx=>x.1.length<=60000/\(∀ w∈x.1,w.length<=21)/\x.2.length=1,λx=>Go.Lib.join x.1 x.2⟩
theorem agc:∀ (l:List a1) (s:a1) (n:Nat),(∀ w∈l,w.length<=n)->(Go.Lib.join l s).length<=l.length*(n+s.length)
 | [],s,n,h=>by simp[Go.Lib.join_nil]
 | x::r,s,n,h=>by
  rw[Go.Lib.join_cons];have aT:∀ (r:List a1),(∀ w∈r,w.length<=n)->(Go.Lib.joinTail s r).length<=r.length*(n+s.length):=by
   intro r;induction r with
   | nil=>simp[Go.Lib.joinTail]
   | cons y r aP=>
    grind [Go.Lib.joinTail,Nat.succ_mul]
  grind [Nat.succ_mul]
theorem Hg(l:z1'):(pL l).length<=l.length*22+4:=by
 unfold pL;split
 ·simp
 ·have:=agc (l.map ru) [32] 21 λw hw=>by
   grind [TM]
  grind
abbrev AS:aF:=⟨dV,.str,λx=>x.length<=60000,pL⟩
theorem ayY(x):aR (ad4 Mc.sh Hf.sh x) (AS.sh x):=bg λh=>by
 unfold ad4 aL aG aQ aB bj a7 ay cM a6;show _=mpure (pL x);unfold pL;by_cases al:x=[]
 ·grind
 ·have af:x.length≠0:=by grind
  rw[if_neg (by grind),if_neg al];rw[d' x (λi o=>(x,(x.length:Int),(i:Int),o,())) (λn o=>.next (o++[ru n])) (λo=>.next (o,())) (λi o=>o.length=i) [] ?_ rfl ?_ ?_]
  ·rw[cU,oG,aKw,aH,cp];rw[show Hf.sh (x.map ru,[32])=mpure (Go.Lib.join (x.map ru) [32]) from bJ ⟨by grind,λw hw=>by
    grind [TM],rfl⟩ _,aH]
  ·rfl
  ·intro i D o au;have hw:=bc (n:=i+1) (by omega) (by omega);refine⟨?_,λbl da=>?_⟩
   ·simp only[ch,cT D,c_ D,cE D,bS,cy,hw];rw[show Mc.sh x[i]=mpure (ru x[i]) from rfl,aH,bb (ez (by grind))];rfl
   grind
  simp
abbrev sF:aF:=⟨.ar (.int .i64) dV,.str,λx=>x.2.length<=60000,λx=>nK x.1 x.2⟩
theorem ayZ(x):aR (ad3 AS.sh x) (sF.sh x):=bg λh=>by
 unfold ad3 aG;show _=mpure (nK x.1 x.2);unfold nK;rw[show AS.sh x.2=mpure (pL x.2) from bJ h _,aH];grind
abbrev AT:aF:=⟨.ar mn (.int .i64),.str,λ_=>True,AO⟩
theorem ay0(x):aR (ad2 sF.sh x) (AT.sh x):=bg λ_=>by
 unfold ad2;rw[show sF.sh (x.2,[x.1.1,x.1.2])=mpure (AO x) from bJ (show 2<=60000 by decide) _,aH]
theorem AU{e:Int}{l:z1'}(h:l.length<=60000):sF.sh (e,l)=mpure (nK e l):=bJ h _
theorem T1{l:z1'}(h:l.length<=60000):AS.sh l=mpure (pL l):=bJ h _
theorem Md(x:(Int×Int)×Int):AT.sh x=mpure (AO x):=rfl
def gj(k:Nat)(g:bk->z1'->a1×bk)(x:z1'×bk×Unit):G (a1×bk×Unit):=eL (dx x.2.1/\fO k x.1) ((g x.2.1 x.1).1,(g x.2.1 x.1).2,())
theorem mC:Int.toNat 0=0:=rfl
theorem AV:Int.toNat 1=1:=rfl
theorem Me:Int.toNat 2=2:=rfl
theorem agd:Int.toNat 3=3:=rfl
theorem ay1:Int.toNat 4=4:=rfl
theorem rv:Int.toNat 5=5:=rfl
theorem iu{ag:Type}{k:Nat}{l:z1'}(h:fO k l)(m:G ag)(i:Int)(D:0<=i/\i<(k:Int)):ad (0<=i/\i<Int.ofNat l.length) m=m:=
 bb ⟨D.1,by have:=h.He;grind⟩ m
def DA(x:List H.bC×z1'×bk×Unit):G (a1×bk×Unit):=eL (dx x.2.2.1/\x.1.length<2 ^ 63/\x.2.1.length<2 ^ 63) ((sE x.2.2.1 x.1 x.2.1).1,(sE x.2.2.1 x.1 x.2.1).2,())
theorem ay2(x):aR (adY H.sD.sh x) (DA x):=bg λh=>by
 obtain⟨m,v,d,⟨⟩⟩:=x;obtain⟨an,E,M⟩:=h;unfold adY aG;rw[show H.sD.sh (d.2,m,v)=mpure (H.nf d.2 m v) from bJ ⟨an.jw,E,M⟩ _];unfold sE;by_cases e:(H.nf d.2 m v).2=0<;>simp[e]
theorem T2{d:bk}(an:dx d)(m:List H.bC)(v:z1')(E:m.length<2 ^ 63)(M:v.length<2 ^ 63):DA (m,v,d,())=mpure ((sE d m v).1,(sE d m v).2,()):=bJ ⟨an,E,M⟩ _
theorem ay3(x):aR (adX DA x) (gj 5 L_ x):=bg λh=>by
 obtain⟨an,af⟩:=h;unfold adX eC aB dJ;simp (disch:=decide) only [iu af];rw[T2 an _ _ (by simp) (by simp),aH];rfl
theorem ay4(x):aR (adZ DA x) (gj 4 L' x):=bg λh=>by
 obtain⟨an,af⟩:=h;unfold adZ eC aB dJ;simp (disch:=decide) only [iu af];rw[T2 an _ _ (by simp) (by simp),aH];rfl
theorem RT(x):aR (ad0 DA x) (gj 1 Ma x):=bg λh=>by
 obtain⟨l,d,⟨⟩⟩:=x;obtain⟨an,af⟩:dx d/\fO _ l:=h;unfold ad0;rw[T2 an _ _ (by simp) (show l.length<2 ^ 63 by have:=af.AR;omega),aH];rfl
theorem ay5(x):aR (ad1 H.xW.sh AT.sh x) (gj 1 TN x):=bg λh=>by
 obtain⟨l,d,⟨⟩⟩:=x;obtain⟨an,af⟩:=h;unfold ad1 eC dJ bT;simp (disch:=decide) only [iu af,mC];rw[show H.xW.sh (d.2,aX l 0)=mpure _ from bJ an.gx _];simp  [Md];rfl
theorem ay6(x):aR (ad5 H.xX.sh AT.sh x) (gj 1 TO x):=bg λh=>by
 obtain⟨l,d,⟨⟩⟩:=x;obtain⟨an,af⟩:=h;unfold ad5 eC dJ bT;simp (disch:=decide) only [iu af,mC];rw[show H.xX.sh (d.2,aX l 0)=mpure _ from bJ an.gx _];simp  [Md];rfl
theorem ay7(x):aR (ad6 H.xZ.sh AT.sh x) (gj 1 TP x):=bg λh=>by
 obtain⟨l,d,⟨⟩⟩:=x;obtain⟨an,af⟩:=h;unfold ad6 eC dJ bT;simp (disch:=decide) only [iu af,mC];rw[show H.xZ.sh (d.2,aX l 0)=mpure _ from bJ an.gx _];simp  [Md];rfl
theorem ay8(x):aR (ad7 H.x1.sh AT.sh x) (gj 1 TQ x):=bg λh=>by
 obtain⟨l,d,⟨⟩⟩:=x;obtain⟨an,af⟩:=h;unfold ad7 eC dJ bT;simp (disch:=decide) only [iu af,mC];rw[show H.x1.sh (d.2,aX l 0)=mpure _ from bJ an.gx _];simp  [Md];rfl
theorem age(c:H.aW)(u t:Int):(H.n5 c u t).1.length<=101:=aKa (aKJ ..) (by decide)
theorem agf{c:H.aW}{u t:Int}(h:(H.n5 c u t).2=0):0<(H.n5 c u t).1.length:=by
 unfold H.n5 at h ⊢;rcases H.Ag c (H.sr u t) with⟨E,_⟩ | ⟨E,M,ai,bf⟩
 ·omega
 ·have aA:=H.ja M;have cJ:(0<=u/\u<=9)/\0<=t/\t<=9999:=by
   grind [H.sr,H.ra]
  have fc:H.dr c≠[]:=by
   grind [H.dF]
  obtain⟨w,T,be⟩:=List.exists_cons_of_ne_nil fc;have hw:H.iF c w=true:=H.wG (by grind);have ah:=H.adF aA hw cJ.1 t;have V:-1<=H.n7 c w u t/\H.n7 c w u t<=99:=by
   rcases H.R' c w u t with h | ⟨s,az,h⟩
   ·omega
   ·obtain⟨e,he,rfl⟩:=List.mem_map.1 az;have:=H.R8 aA (List.mem_filter.1 he).1;omega
  refine List.length_pos_of_mem   (List.mem_filter.2 ⟨r'.2 V,?_⟩);grind [H.KQ]
theorem ay9(x):aR (ad8 H.x2.sh sF.sh AS.sh x) (gj 2 TR x):=bg λh=>by
 obtain⟨l,d,⟨⟩⟩:=x;obtain⟨an,af⟩:=h;unfold ad8 eM eC aG aB dJ bT;simp (disch:=decide) only [iu af,rv];have E:=age d.2 (aX l 0) (aX l 1);have M:=agf (c:=d.2) (u:=aX l 0) (t:=aX l 1);have hc:H.x2.sh (d.2,aX l 0,aX l 1)=mpure (H.n5 d.2 (aX l 0) (aX l 1)):=bJ an.gx _;show _=mpure (Hc (H.n5 d.2 (aX l 0) (aX l 1)),d,());grind [h1,eV,bb,AU,aH,Hc,T1,Hg,ez]
theorem agh(c:H.aW)(t:Int):(H.nF c t).1.length<=10/\(H.nF c t).2.1.length<=10:=by
 unfold H.nF;split
 ·simp
 ·exact⟨aKa (aKJ ..) (by decide),aKa (aKJ ..) (by decide)⟩
theorem ay_(x):aR (ad9 H.x4.sh sF.sh AS.sh x) (gj 1 TS x):=bg λh=>by
 obtain⟨l,d,⟨⟩⟩:=x;obtain⟨an,af⟩:=h;unfold ad9 eC aG dJ bT;simp (disch:=decide) only [iu af,mC];have E:=agh d.2 (aX l 0);have hc:H.x4.sh (d.2,aX l 0)=mpure (H.nF d.2 (aX l 0)):=bJ an.gx _;simp only[hc];show _=mpure (Hd (H.nF d.2 (aX l 0)),d,());generalize H.nF d.2 (aX l 0)=r at *
 simp;rw[AU (by simp),T1 (by omega),T1 (by omega)];have dO:=Hg r.1;have jd:=Hg r.2.1;unfold Hd;by_cases e:r.2.2=0
 ·simp;grind [bb,ez]
 simp_all
theorem agi(w:bL)(i m k:Int):0<=rl w i m k/\rl w i m k<4:=by
 grind [rl,GM]
theorem SE(x):aR (ad' tx.sh sF.sh x) (gj 3 TT x):=bg λh=>by
 obtain⟨l,d,⟨⟩⟩:=x;obtain⟨an,af⟩:=h;unfold ad' eC aG aB dJ bT;simp (disch:=decide) only [iu af,mC,AV,Me];have hc:tx.sh (d.1.1,aX l 0,aX l 1,aX l 2)=mpure (kc d.1.1 (aX l 0) (aX l 1) (aX l 2)):=bJ an.fB.1 _;simp only[hc];show _=mpure (rq (kc d.1.1 (aX l 0) (aX l 1) (aX l 2)),d,());have E:0<=(kc d.1.1 (aX l 0) (aX l 1) (aX l 2)).1/\(kc d.1.1 (aX l 0) (aX l 1) (aX l 2)).1<4:=by
  have:=agi d.1.1 (aX l 0) (aX l 1) (aX l 2);grind [kc]
 generalize kc d.1.1 (aX l 0) (aX l 1) (aX l 2)=r at *
 simp;rw[AU (by simp),bb ⟨E.1,E.2⟩];unfold rq;by_cases e:r.2=0<;>simp[e]
theorem agj{s:aS}(h:fg s)(w:Int):(qE s w).1.length<=2000:=by
 have:=h.wM;grind [qE,LG]
theorem ay'(x):aR (aeg LH.sh sF.sh x) (gj 1 TX x):=bg λh=>by
 obtain⟨l,d,⟨⟩⟩:=x;obtain⟨an,af⟩:dx d/\fO _ l:=h;unfold aeg eC dJ bT;simp (disch:=decide) only [iu af,mC];rw[show LH.sh (d.1,aX l 0)=mpure (qE d.1 (aX l 0)) from bJ an.fB _];have:=agj an.val (aX l 0);simp only[h1,eV,bS];rw[AU (show (qE d.1 (aX l 0)).1.length<=60000 by omega),aH];rfl
def Mf(x:z1'×Unit):G (z1'×Unit):=eL (x.1.length<=3000000) x
theorem aza(x):aR (aeh LI.sh Mf sF.sh x) (gj 0 TY x):=bg λh=>by
 obtain⟨l,d,⟨⟩⟩:=x;obtain⟨an,af⟩:dx d/\fO _ l:=h;have hm:=af.AR;unfold aeh aL aG aQ aB bj a7 ay a6 cu;rw[show Mf (l,())=mpure (l,()) from bJ (by grind) _,aH];rw[d' l (λi o=>((l.length:Int),(i:Int),o++l.drop i,d,())) (λn o=>.next (o++[n - 1])) (λo=>.next (o,d,())) (λi o=>o.length=i) [] ?_ rfl ?_ ?_]
 ·rw[cU,oG,aKw,aH,cp,bS];rw[show LI.sh (d.1,l.map (· - 1))=mpure (sA d.1 (l.map (· - 1))) from bJ ⟨an.fB,by grind⟩ _,aH,AU (by simp),aH];rfl
 ·simp
 ·intro i D o au;have hw:=bc (n:=i+1) (by omega) (by omega);have aC:=af.num l[i] (by simp);have ft:=bc (n:=l[i] - 1) (by omega) (by omega);subst au;have cF:o.length<(o++l.drop o.length).length:=by grind
  have az:(o++l.drop o.length).set o.length (l[o.length] - 1)=o++[l[o.length] - 1]++l.drop (o.length+1):=by
   grind [List.drop_eq_getElem_cons]
  refine⟨?_,λbl da=>?_⟩
  ·simp only[ch,cE cF,hw];simp_all
  grind
 simp
theorem azb(x):aR (aei LD.sh sF.sh x) (gj 0 TZ x):=bg λh=>by
 obtain⟨l,d,⟨⟩⟩:=x;obtain⟨an,af⟩:=h;unfold aei;rw[bS,show LD.sh d.1=mpure (rs d.1 true) from bJ an.fB _,aH,AU (by simp),aH];rfl
theorem azc(x):aR (aej LF.sh sF.sh x) (gj 0 T0 x):=bg λh=>by
 obtain⟨l,d,⟨⟩⟩:=x;obtain⟨an,af⟩:=h;unfold aej;rw[bS,show LF.sh d.1=mpure (sz d.1) from bJ an.fB _,aH,AU (by simp),aH];rfl
def T3{ag:Type}(x:List ag×Unit):G (List ag×Unit):=ao (any λ(b:Bool)=>b=true->x.1=[]) λ(y:Bool)=>if y=true then mpure ([],()) else ad (bW (Add.add 0 (List.length x.1))) (mpure ([]++x.1,()))
abbrev hd(t:aa):aF:=⟨.slice t,.slice t,λx=>x.length<=3000000,λx=>x⟩
def sG{ag:Type}(x:List ag×Unit):G (List ag×Unit):=eL (x.1.length<=3000000) x
theorem yx{ag:Type}(x:List ag×Unit):aR (T3 x) (sG x):=uB λh=>by
 unfold T3;rw[hp];refine⟨⟨false,by simp⟩,λb V=>?_⟩;change b=true->x.1=[]at V;grind [eY,l_,bW]
theorem azd(x:z1'×Unit):aR (T3 x) (Mf x):=yx x
def agk{ag:Type}(z:ag)(x:Int×Int×List ag×Unit):G ((Nat×Nat)×List ag×Unit):=
 ad (0<=x.1/\x.1<=x.2.1/\x.2.1<=Int.ofNat (List.length x.2.2.1)/\Int.ofNat (List.length x.2.2.1)<=Int.ofNat (List.length x.2.2.1)) (if decide
 (x.1=x.2.1)=true then mpure ((0,List.length x.2.2.1),x.2.2.1,()) else ad ((0:Int)<=0/\0<=x.1/\x.1<=Int.ofNat (List.length x.2.2.1))
 (ad (0<=x.2.1/\x.2.1<=Int.ofNat (List.length x.2.2.1)/\Int.ofNat (List.length x.2.2.1)<=Int.ofNat (List.length x.2.2.1)) (ad (Add.add
 (Int.toNat x.1) (List.length (List.drop (Int.toNat x.2.1) (List.take (Int.toNat (Int.ofNat (List.length x.2.2.1))) x.2.2.1)))<=List.length x.2.2.1)
 (ad (0<=Int.ofNat (Add.add (Int.toNat x.1) (List.length (List.drop (Int.toNat x.2.1) (List.take (Int.toNat (Int.ofNat (List.length x.2.2.1)))
 x.2.2.1))) - Int.toNat 0)/\Int.ofNat (Add.add (Int.toNat x.1) (List.length (List.drop (Int.toNat x.2.1) (List.take (Int.toNat (Int.ofNat (List.length
 x.2.2.1))) x.2.2.1))) - Int.toNat 0)<=Int.ofNat (List.length x.2.2.1)/\Int.ofNat (List.length x.2.2.1)<=Int.ofNat (List.length (List.take
 (Int.toNat x.1) x.2.2.1++List.drop (Int.toNat x.2.1) (List.take (Int.toNat (Int.ofNat (List.length x.2.2.1))) x.2.2.1)++List.drop (Add.add
 (Int.toNat x.1) (List.length (List.drop (Int.toNat x.2.1) (List.take (Int.toNat (Int.ofNat (List.length x.2.2.1))) x.2.2.1)))) x.2.2.1) - Int.toNat
 0)) (ad True (mpure ((Int.toNat 0,Add.add (Int.toNat x.1) (List.length (List.drop (Int.toNat x.2.1) (List.take (Int.toNat (Int.ofNat (List.length
 x.2.2.1))) x.2.2.1)))),List.take (Add.add (Int.toNat 0) (Int.toNat (Int.ofNat (Add.add (Int.toNat x.1) (List.length (List.drop (Int.toNat x.2.1)
 (List.take (Int.toNat (Int.ofNat (List.length x.2.2.1))) x.2.2.1))) - Int.toNat 0)))) (List.take (Int.toNat x.1) x.2.2.1++List.drop (Int.toNat
 x.2.1) (List.take (Int.toNat (Int.ofNat (List.length x.2.2.1))) x.2.2.1)++List.drop (Add.add (Int.toNat x.1) (List.length (List.drop (Int.toNat
 x.2.1) (List.take (Int.toNat (Int.ofNat (List.length x.2.2.1))) x.2.2.1)))) x.2.2.1)++List.replicate (Add.add (Int.toNat 0) (Int.toNat (Int.ofNat
 (List.length x.2.2.1))) - Add.add (Int.toNat 0) (Int.toNat (Int.ofNat (Add.add (Int.toNat x.1) (List.length (List.drop (Int.toNat x.2.1) (List.take
 (Int.toNat (Int.ofNat (List.length x.2.2.1))) x.2.2.1))) - Int.toNat 0)))) z++List.drop (Add.add (Add.add (Int.toNat 0) (Int.toNat (Int.ofNat
 (Add.add (Int.toNat x.1) (List.length (List.drop (Int.toNat x.2.1) (List.take (Int.toNat (Int.ofNat (List.length x.2.2.1))) x.2.2.1))) - Int.toNat
 0)))) (List.length (List.replicate (Add.add (Int.toNat 0) (Int.toNat (Int.ofNat (List.length x.2.2.1))) - Add.add (Int.toNat 0) (Int.toNat (Int.ofNat
 (Add.add (Int.toNat x.1) (List.length (List.drop (Int.toNat x.2.1) (List.take (Int.toNat (Int.ofNat (List.length x.2.2.1))) x.2.2.1))) - Int.toNat
 0)))) z))) (List.take (Int.toNat x.1) x.2.2.1++List.drop (Int.toNat x.2.1) (List.take (Int.toNat (Int.ofNat (List.length x.2.2.1))) x.2.2.1)++
 List.drop (Add.add (Int.toNat x.1) (List.length (List.drop (Int.toNat x.2.1) (List.take (Int.toNat (Int.ofNat (List.length x.2.2.1))) x.2.2.1))))
 x.2.2.1),())))))))
def Mg{ag:Type}(z:ag)(x:Int×Int×List ag×Unit):G ((Nat×Nat)×List ag×Unit):=eL (0<=x.1/\x.2.1=x.1+1/\x.1<(x.2.2.1.length:Int)/\x.2.2.1.length<=3000000) ((0,x.2.2.1.length - 1),x.2.2.1.eraseIdx x.1.toNat++[z],())
theorem aze{ag:Type}(z:ag)(x):aR (agk z x) (Mg z x):=bg λh=>by
 obtain⟨i,j,l,⟨⟩⟩:=x;obtain⟨aZ,E,M,ai⟩:0<=i/\j=i+1/\i<l.length/\l.length<=3000000:=h;subst E;obtain⟨n,rfl⟩:∃ n:Nat,i=n:=⟨i.toNat,by omega⟩
 have ax:((n:Int)+1).toNat=n+1:=by omega
 unfold agk;simp only[ch,ajr,ax,aKE,mY,List.length_drop];have aU:n+(l.length - (n+1))=l.length - 1:=by omega
 have cD:(l.take n++l.drop (n+1)++l.drop (l.length - 1))=l.eraseIdx n++l.drop (l.length - 1):=by grind
 have eZ:(l.eraseIdx n).length=l.length - 1:=by grind
 have fR:l.length - (l.length - 1)=1:=by omega
 rw[bb (by omega),if_neg (by grind),bb (by omega),bb (by omega),bb (by omega)];rw[aU,bb (by grind),bS];grind
def tK(x:aS×Unit):G C4:=eL (u_ x.1) (ks x.1)
theorem Mh{x:z1'}(h:x.length<=2000000):H.uI.sh x=mpure x:=bJ (by omega) _
theorem AW{t:aa}{x:(aa.slice t).ak}(h:List.length x<=2000000):(hd t).sh x=mpure x:=bJ (by omega) _
theorem agl{eK:Type}{s:aS}(h:u_ s)(fin:aS->G eK):KY (hd l3).sh (hd mu).sh (hd k8).sh sG H.uI.sh (hd oQ).sh (hd oR).sh (hd nH).sh s fin=fin s:=by
 obtain⟨⟨cj,dM,hi,KG⟩,M,ai,bf,b2,d_,hn⟩:=h;obtain⟨⟨sp,mk,cut,tr⟩,ae,mD,n',vc,kB⟩:=s;change mk.length<=2000000 at dM;change mD.length<=2000000 at ai;change n'.length<=2000000 at bf;have aY:(hd l3).sh sp=mpure sp:=AW cj;have a_:(hd mu).sh mk=mpure mk:=AW dM;have b7:(hd k8).sh tr=mpure tr:=AW hi;have hg:=Mh M;have p7:(hd oQ).sh mD=mpure mD:=AW ai;have zu:(hd oR).sh n'=mpure n':=AW bf;have JR:(hd nH).sh vc=mpure vc:=AW b2;unfold KY aL b1 aG aQ aB bj a7 ay a6 bT;simp only[aY,a_,b7,eV,bS];rw[db mk (λi (_)=>((mk.length:Int),(i:Int),cut,ae,mD,n',vc,kB,0,0,sp,mk,tr,())) (λp b=>.next b) (λ_=>.next (cut,ae,mD,n',vc,kB,0,0,sp,mk,tr,())) () ?_ ?_ ?_]
 ·rw[cU,aH];simp  [hg,p7,zu,JR,bS];rw[db mD (λi (_)=>((mD.length:Int),(i:Int),cut,kB,0,0,sp,mk,tr,ae,mD,n',vc,())) (λp b=>.next b) (λ_=>.next (cut,kB,0,0,sp,mk,tr,ae,mD,n',vc,())) () ?_ ?_ ?_]
  ·rw[cU,aH,cp];rw[db n' (λi (_)=>((n'.length:Int),(i:Int),cut,kB,0,0,sp,mk,tr,ae,mD,n',vc,())) (λp b=>.next b) (λ_=>.next (cut,kB,0,0,sp,mk,tr,ae,mD,n',vc,())) () ?_ ?_ ?_]
   ·simp_all[cU]
   ·rfl
   ·intro i D b;have hw:=bc (n:=i+1) (by omega) (by omega);have hc:=Mh (hn _ (ajj D));have p5:n'.set i (n'[i].1,n'[i].2)=n':=aKK D;simp_all
   simp
  ·rfl
  ·intro i D b;have hw:=bc (n:=i+1) (by omega) (by omega);have hc:=Mh (d_ _ (ajj D));have p5:mD.set i (mD[i].1,mD[i].2.1,mD[i].2.2.1,mD[i].2.2.2.1,mD[i].2.2.2.2)=mD:=aKK D;simp_all
  simp
 ·rfl
 ·intro i D b;have hw:=bc (n:=i+1) (by omega) (by omega);obtain⟨hm,az⟩:=KG _ (ajj D);have hc:sG (mk[i],())=mpure (mk[i],()):=bJ (by grind) _;simp only[c_ D,hc,aH];rw[db mk[i] (λj (_)=>(i,(mk.length:Int),(i:Int),(mk[i].length:Int),(j:Int),cut,ae,mD,n',vc,kB,0,0,sp,(mk,i),tr,mk[i],())) (λp b=>.next b) (λ_=>.next (mk.length,i,cut,ae,mD,n',vc,kB,0,0,sp,(mk,i),tr,mk[i],())) () ?_ ?_ ?_]
  ·simp_all[cU]
  ·rfl
  ·intro j aI b;have hw:=bc (n:=j+1) (by omega) (by omega);have hc:=Mh (az _ (ajj aI));have p5:mk[i].set j (mk[i][j].1,mk[i][j].2.1,mk[i][j].2.2)=mk[i]:=aKK aI;simp_all
  simp
 simp
theorem azf(x):aR (au8 (hd l3).sh (hd mu).sh (hd k8).sh sG H.uI.sh (hd oQ).sh (hd oR).sh (hd nH).sh x) (tK x):=bg λh=>agl h _
abbrev Mi:aF:=⟨hE,hE,u_,λs=>s⟩
theorem azg(x):aR (au7 (hd l3).sh (hd mu).sh (hd k8).sh sG H.uI.sh (hd oQ).sh (hd oR).sh (hd nH).sh x) (Mi.sh x):=bg λh=>agl h _
def yy(x:aS×bk×Unit):G (a1×bk×Unit):=eL (dx x.2.1/\eN x.1) ((nL x.2.1 x.1).1,(nL x.2.1 x.1).2,())
theorem azh(x):aR (aeb oS.sh x) (yy x):=bg λh=>by
 obtain⟨s,d,⟨⟩⟩:=x;obtain⟨an,az⟩:=h;unfold aeb aG;rw[show oS.sh s=mpure (ke s) from bJ az _];unfold nL;by_cases e:ke s=0<;>simp[e]
theorem azi{d:bk}(an:dx d){s:aS}(az:eN s):yy (s,d,())=mpure ((nL d s).1,(nL d s).2,()):=bJ ⟨an,az⟩ _
theorem Mj{d:bk}(an:dx d)(s:aS)(az:eN s):ao (yy (s,d,())) (λy=>mpure (y.1,y.2.1,()))=mpure ((nL d s).1,(nL d s).2,()):=by grind [azi,aH]
theorem dx.copy{d:bk}(h:dx d):u_ d.1:=ayr h.val
theorem DB{d:bk}(h:dx d):tK (d.1,())=mpure (ks d.1):=bJ h.copy _
theorem azj(x):aR (ad_ C_.sh tK gR.sh x) (gj 4 tJ x):=bg λh=>by
 obtain⟨l,d,⟨⟩⟩:=x;obtain⟨an,af⟩:=h;have hc:=an.copy;have az:gi (kv d.1.1 (aX l 0,aX l 1,aX l 2,aX l 3)):=⟨an.fB.1.1,an.fB.1.2.1,by have:=hc.1.2.2.1;grind [kv],an.fB.1.2.2.2⟩
 unfold ad_ eC aG aB cM dJ bT;rw[DB an,aH];simp (disch:=decide) only [iu af,bS,rv];rw[bb (by have:=hc.1.2.2.1;grind [bW,ks])];show ao (gR.sh (kv d.1.1 (aX l 0,aX l 1,aX l 2,aX l 3))) _=mpure ((tJ d l).1,(tJ d l).2,());rw[show gR.sh (kv d.1.1 (aX l 0,aX l 1,aX l 2,aX l 3))=mpure (cA (kv d.1.1 (aX l 0,aX l 1,aX l 2,aX l 3))) from bJ az _,aH];have hlen:C_.sh (kv d.1.1 (aX l 0,aX l 1,aX l 2,aX l 3),aX l 0)=mpure (ye (kv d.1.1 (aX l 0,aX l 1,aX l 2,aX l 3)) (aX l 0)):=bJ az _;grind [ks,kv,h1,eV,bS,tJ]
theorem azk(x):aR (aea tK yy x) (gj 2 AP x):=bg λh=>by
 obtain⟨l,d,⟨⟩⟩:=x;obtain⟨an,af⟩:dx d/\fO _ l:=h;unfold aea e_ aL eC aG aB a6 dJ;rw[bS,DB an,aH];simp (disch:=decide) only [iu af,mC,AV,rv];unfold AP;have aZ:=af.aX 0;have E:=af.aX 1;by_cases e:aX l 0>=(d.1.2.1.length)
 ·grind [ks]
 ·rw[if_neg (by grind [ks]),if_neg e];have aC:(aX l 0).toNat<d.1.2.1.length:=by omega
  rw[bb ⟨aZ.1,by show aX l 0<(d.1.2.1.length);omega⟩,bb ⟨aZ.1,by show aX l 0<(d.1.2.1.length);omega⟩];have ab:∀ n∈d.1.2.1,0<=n/\n<=10:=λn aC=>by
   have ji:=an.AQ;grind [ke,qy,cg]
  have V:=ab _ (ajj aC);have aA:d.1.2.1.getD (aX l 0).toNat 0=d.1.2.1[(aX l 0).toNat]:=by grind
  have hw:=bc (n:=d.1.2.1.getD (aX l 0).toNat 0+aX l 1) (by omega) (by omega);have ft:IntKind.wrap .i64 (Add.add ((ks d.1).2.2.2.2.2.1.getD (aX l 0).toNat 0) (aX l 1))=d.1.2.1.getD (aX l 0).toNat 0+aX l 1:=hw;rw[ft];exact Mj an (d.1.1,d.1.2.1.set (aX l 0).toNat (d.1.2.1.getD (aX l 0).toNat 0+aX l 1),d.1.2.2) ⟨an.fB.1,by rw[aLf];exact an.fB.2.1,an.fB.2.2⟩
theorem azl(x):aR (aec tK yy x) (gj 3 TU x):=bg λh=>by
 obtain⟨l,d,⟨⟩⟩:=x;obtain⟨an,af⟩:=h;have hc:=an.copy;have b2:=hc.2.2.2.2.1;obtain⟨s1,s2,eR,mU,o0,pN,pO⟩:=an.fB;unfold aec eC aB cM dJ;rw[bS,DB an,aH];simp (disch:=decide) only [iu af,rv];rw[bb (by grind [bW,ks])];exact Mj an (d.1.1,d.1.2.1,d.1.2.2.1,d.1.2.2.2.1,d.1.2.2.2.2.1++[(aX l 0,aX l 1,aX l 2)],d.1.2.2.2.2.2) ⟨s1,s2,eR,mU,by grind,pN,pO⟩
theorem azm(x):aR (aed tK yy x) (gj 4 TV x):=bg λh=>by
 obtain⟨l,d,⟨⟩⟩:=x;obtain⟨an,af⟩:=h;have hc:=an.copy;have b2:=hc.2.2.1;have hm:=af.AR;have hle:=af.He;obtain⟨s1,s2,eR,mU,o0,pN,pO⟩:=an.fB;unfold aed eC aB cM dJ;rw[bS,DB an,aH];simp (disch:=decide) only [iu af,rv];rw[bb ⟨by decide,by grind,aKs _⟩,bb (by grind [bW,ks])];simp;exact Mj an (d.1.1,d.1.2.1,d.1.2.2.1++[(aX l 0,aX l 1,aX l 2,aX l 3,l.drop 4)],d.1.2.2.2) ⟨s1,s2,by grind,mU,o0,λp aq=>by
  grind,pO⟩
theorem azn(x):aR (aee tK yy x) (gj 5 TW x):=bg λh=>by
 obtain⟨l,d,⟨⟩⟩:=x;obtain⟨an,af⟩:=h;have hc:=an.copy;have b2:=hc.2.2.2.1;have hm:=af.AR;have hle:=af.He;obtain⟨s1,s2,eR,mU,o0,pN,pO⟩:=an.fB;unfold aee eC aB cM dJ;rw[bS,DB an,aH];simp (disch:=decide) only [iu af,rv];rw[bb ⟨by decide,by grind,aKs _⟩,bb (by grind [bW,ks])];simp;exact Mj an (d.1.1,d.1.2.1,d.1.2.2.1,d.1.2.2.2.1++[(l.drop 5,(aX l 0,aX l 1),aX l 2,aX l 3,aX l 4)],d.1.2.2.2.2) ⟨s1,s2,eR,by grind,o0,pN,λp aq=>by
  grind⟩
abbrev T4:jQ:=([],(0,0),0,0,0)
theorem azo(x):aR (aef (hd oR).sh (Mg T4) x) (gj 1 wV x):=bg λh=>by
 obtain⟨an,af⟩:=h;have hc:=an.copy.2.2.2.1;have aZ:=af.aX 0;unfold aef eC aG aQ aB dJ bT;simp (disch:=decide) only [iu af,rv];grind [wV,AW,bc,h1,eV,bS,Mg,bJ,aH]
theorem agm{c:H.aW}{m:List H.bC}{v:z1'}(h:(H.nf c m v).2=0):H.cA c=0/\H.cA (H.nf c m v).1=0/\(H.nf c m v).1=H.k_ c (H.fN (c.2.1++m)) (H.tI c.2.2.1 v):=by
 unfold H.nf at h ⊢;split at h
 ·omega
 split at h
 ·omega
 split at h
 ·omega
 split at h
 ·omega
 rename_i cd a2 a3 a4;rw[if_neg cd,if_neg a2,if_neg a3,if_neg a4];have cm:H.cA c=0:=by omega
 refine⟨cm,?_,rfl⟩;have g1:H.k4 c=true:=by grind [H.cA]
 have eB:H.k4 (H.k_ c m v)=true:=by grind [H.cA]
 have aC:H.kL (H.fN (c.2.1++m))=false:=by
  rw[H.xQ];have:=(H.xQ (c.2.1++m)).1 (by grind);exact λa br b V=>this a (H.Gn br) b (H.Gn V)
 have nY:H.k4 (H.k_ c (H.fN (c.2.1++m)) (H.tI c.2.2.1 v))=true:=by
  unfold H.k4 H.uM at g1 eB ⊢;simp only[ajm,aKu,aKj,aKS,H.k_]at g1 eB ⊢;obtain⟨⟨⟨⟨⟨⟨⟨⟨iQ,z2⟩,z3⟩,z4⟩,z5⟩,aY⟩,a_⟩,b7⟩,hg⟩:=g1;simp only[aKm,not_or,Bool.not_eq_true]at a4;refine⟨⟨⟨⟨⟨⟨⟨⟨iQ,a4.1⟩,a4.2⟩,z4⟩,z5⟩,aY⟩,λs az=>?_⟩,λn aC=>?_⟩,hg⟩
  ·rcases List.mem_append.1 (H.Gn az) with h | h<;>grind
  ·have:=(List.mem_filter.1 aC).2;grind
 unfold H.cA;rw[if_pos nY,if_neg (by show ¬H.kL (H.fN (c.2.1++m))=true;grind)]
theorem T5{d:bk}(an:dx d)(m:List H.bC)(v:z1'):dx (sE d m v).2:=by
 unfold sE;split
 ·omega
 ·obtain⟨E,M,ai⟩:=agm (c:=d.2) (m:=m) (v:=v) (by omega);exact⟨an.fB,an.AQ,M,by rw[ai];exact an.Dz⟩
theorem Mk{d:bk}(an:dx d){s:aS}(az:eN s):dx (nL d s).2:=by
 unfold nL;split
 ·omega
 ·exact⟨az,by grind,an.vb,an.Dz⟩
theorem agn{d:bk}(an:dx d){l:z1'}(af:l.length<=10000)(j:Nat):dx (oX j d l).2:=by
 have hc:=an.copy;obtain⟨s1,s2,eR,mU,o0,pN,pO⟩:=an.fB;obtain⟨bx,c2,c3,c4,c5,oi,qR⟩:=an.copy;unfold oX;split<;>try exact an
 ·exact T5 an _ _
 ·exact T5 an _ _
 ·exact T5 an _ _
 ·unfold tJ;split
  ·omega
  split
  ·omega
  refine⟨⟨⟨s1.1,s1.2.1,by have:=hc.1.2.2.1;grind [kv],s1.2.2.2⟩,s2,eR,mU,o0,pN,pO⟩,?_,an.vb,an.Dz⟩;have az:=an.AQ;unfold ke at az ⊢;have:qy (kv d.1.1 (aX l 0,aX l 1,aX l 2,aX l 3),d.1.2)=qy d.1:=rfl;grind
 ·unfold AP;split
  ·omega
  ·exact Mk an ⟨s1,by grind,eR,mU,o0,pN,pO⟩
 ·exact Mk an ⟨s1,s2,eR,mU,by grind,pN,pO⟩
 ·exact Mk an ⟨s1,s2,by grind,mU,o0,λp aq=>by
   grind,pO⟩
 ·exact Mk an ⟨s1,s2,eR,by grind,o0,pN,λp aq=>by
   grind⟩
 ·unfold wV;split
  ·omega
  ·refine⟨⟨s1,s2,eR,by grind,o0,pN,λp aq=>pO p (List.mem_of_mem_eraseIdx aq)⟩,?_,an.vb,an.Dz⟩;have az:=an.AQ;grind [ke,qy,List.mem_of_mem_eraseIdx]
theorem ago:∀ (s:a1) (n k:Nat),n<10 ^ k->k+s.length<=18->0<=hQ s n->Go.Lib.parseUint10 n s=.ok (hQ s n).toNat
 | [],n,k,_,_,_=>by rfl
 | c::s,n,k,E,M,ai=>by
  unfold hQ at ai ⊢;split at ai
  ·omega
  ·rename_i hc;rw[if_neg hc];simp  at hc;have JN:48<=c.toNat/\c.toNat<=57:=by omega
   have ah:(10) ^ (k+1)<=10 ^ 18:=aKT (by decide) (by grind);have e:10*n+(c.toNat - 48)=((n*10+(c.toNat - 48):Nat):Int):=by omega
   rw[e]at ai ⊢;unfold Go.Lib.parseUint10;rw[if_pos JN,if_neg (by omega),if_neg (by omega)];exact ago s _ (k+1) (by omega) (by grind) ai
theorem T6{s:a1}(h:0<=f_ s):Go.Lib.atoiAll s=.ok (f_ s):=by
 unfold f_ at h ⊢;split at h
 ·omega
 ·rename_i V;simp  at V;cases s with
  | nil=>grind
  | cons c r=>
   have aq:=ago (c::r) 0 0 (by decide) (by omega) h;have af:=TL (c::r) 0 0 (by decide) (by decide);have gW:(10) ^ (0+(c::r).length)<=10 ^ 6:=by
    have:=aKT (n:=10) (by decide) (show 0+(c::r).length<=6 by omega);grind
   grind [hQ,Go.Lib.atoiAll,Go.Lib.parseMag]
theorem azp{s:a1}(h:0<=f_ s):u' s=f_ s:=by
 grind [u',T6]
abbrev Hh:aF:=⟨.str,.ar (.int .i64) .bool,λx=>x.length<=10000,s_⟩
abbrev Ml:aF:=⟨.ar .str .str,wU,λx=>x.1.length<=10000/\x.2=[32],λx=>dB x.1⟩
abbrev azq:aa:=.ae (.ar bp (.ar .bool .e3))
def Mm:List (a1×Int×Bool)->Nat->List (a1×C5)
 | [],_=>[]
 | p::l,i=>(p.1,p.2.1,p.2.2,some (119+i))::Mm l (i+1)
def yz:List (a1×C5):=Mm iJ 0
abbrev Mn:aF:=⟨.dp,.map .str azq,λ_=>True,λ_=>yz⟩
theorem azr(x):aR (au5 x) (Mn.sh x):=bg λ_=>congrArg mpure (show _=yz by rfl)
theorem agp(w:a1):∀ (l:List (a1×Int×Bool)) (i:Nat),((Mm l i).find? λp=>decide (w=p.1)).map (λx=>x.2)=(oY w l i).map λr=>(r.1,r.2.1,some (119+r.2.2))
 | [],_=>rfl
 | p::l,i=>by
  unfold Mm oY;by_cases h:w=p.1
  ·grind
  ·simp[h,agp w l (i+1)]
theorem Hi{w:a1}:∀ {l:List (a1×Int×Bool)} {i:Nat} {r:Int×Bool×Nat},oY w l i=some r->i<=r.2.2/\r.2.2<i+l.length/\l[r.2.2 - i]?=some (w,r.1,r.2.1)
 | [],_,_,h=>by simp[oY]at h
 | p::l,i,r,h=>by
  unfold oY at h;split at h
  ·grind
  ·have:=Hi h;grind
def yA(j:Nat):Nat:=(iJ.getD j ([],0,false)).2.1.toNat
def Hj(k:Nat):z1'×bk×Unit->G (a1×bk×Unit):=gj (yA (k - 119)) (oX (k - 119))
theorem agq:∀ p∈iJ,0<=p.2.1:=by decide
def Mo(x:List (a1×C5)×a1×bk×Unit):G (a1×bk×Unit):=eL (x.1=yz/\x.2.1.length<=10000/\dx x.2.2.1) ((ng x.2.2.1 x.2.1).1,(ng x.2.2.1 x.2.1).2,())
theorem azs{l:List a1}(h:l.all (λw=>decide (0<=f_ w))=true):l.map u'=l.map f_:=aKA λw hw=>azp (by grind)
theorem agr{rho:Type}(r:rho)(fin:z1'->rho):∀ (l:List a1) (b:z1'),e' (λw b=>if (!decide (0<=f_ w))=true then .done r else .next (b++[u' w])) fin l b=if l.all (λw=>decide (0<=f_ w))=true then fin (b++l.map u') else r
 | [],b=>by simp[e']
 | w::l,b=>by
  unfold e';rw[aLK];cases h:decide (0<=f_ w) with
  | true=>
   simp only[aKo,ajh,ajq];rw[agr r fin l,aK1];rfl
  | false=>rfl
theorem azt(x):aR (adW Ml.sh Hh.sh Hj x) (Mo x):=bg λh=>by
 obtain⟨azu,s,d,⟨⟩⟩:=x;obtain⟨ab,az,an⟩:azu=yz/\s.length<=10000/\dx d:=h;subst ab;unfold adW bU cN gC aL b1 eC bN aG aQ aB b_ a7 ay cM a6 dJ cu;rw[show Ml.sh (s,[32])=mpure (dB s) from bJ ⟨az,rfl⟩ _,aH];have af:=yw s;rw[bb ⟨by decide,by grind⟩];have aw:((yz.find? λp=>decide ((dB s).getD (Int.toNat 0) []=p.1)).map λx=>x.2)=(oY ((dB s).getD 0 []) iJ 0).map λr=>(r.1,r.2.1,some (119+r.2.2)):=agp _ _ _;have hw:=bc (n:=((dB s).length) - 1) (by omega) (by omega);simp only[aw,ch,hw];unfold ng va;cases Jc:oY ((dB s).getD 0 []) iJ 0 with
 | none=>simp
 | some r=>
  obtain⟨k,m,j⟩:=r;obtain⟨_,aI,ah⟩:=Hi Jc;simp only[aLc,aKf,aju,aKo,aKZ];by_cases V:(decide (((dB s).length) - 1<k)||decide (((dB s).length) - 1 > k)&&!m)=true
  ·grind
  ·rw[if_neg V,if_neg V];rw[bb ⟨by decide,by omega,aKs _⟩];simp only[ajr,aKE];have cR:((dB s).drop 1).length=(dB s).length - 1:=by simp
   rw[d' ((dB s).drop 1) (λi o=>((dB s).drop 1,(((dB s).drop 1).length:Int),(i:Int),(k,m,some (119+j)),o,d,())) (λw o=>if (!decide (0<=f_ w))=true then .done (.done ([63],d,())) else .next (o++[u' w])) (λo=>.next ((k,m,some (119+j)),o,d,())) (λi o=>o.length=i) [] ?_ rfl ?_ ?_]
   ·rw[agr,aH];unfold Dy;by_cases br:((dB s).drop 1).all (λw=>decide (0<=f_ w))=true
    ·rw[if_pos br,cp,azs br];rw[bb]
     ·have cF:yA j=k.toNat:=by
       grind [yA]
      have cJ:fO (yA j) (((dB s).drop 1).map f_):=by
       refine⟨by grind,by grind,λn aC=>?_⟩;obtain⟨w,hw,rfl⟩:=List.mem_map.1 aC;simp_all[aga]
      have aJS:Hj (119+j) (((dB s).drop 1).map f_,d,())=mpure ((oX j d (((dB s).drop 1).map f_)).1,(oX j d (((dB s).drop 1).map f_)).2,()):=by
       unfold Hj;rw[show 119+j - 119=j by omega];exact bJ ⟨an,cJ⟩ _
      simp_all
     ·have:j<20:=by simp_all[iJ]
      exact⟨119+j,by
       have e:∀ j:Fin 20,(119+j.val)∈[119,120,121,122,123,124,125,126,127,128,129,130,131,132,133,134,135,136,137,138]:=by decide
       exact e ⟨j,this⟩,rfl⟩
    simp_all[if_neg]
   ·rfl
   ·intro i D o au;have hw:=bc (n:=i+1) (by omega) (by omega);refine⟨?_,λbl da=>?_⟩
    ·simp only[cT D,c_ D,cE D,bS,cy,hw];rw[show Hh.sh ((dB s).drop 1)[i]=mpure (s_ ((dB s).drop 1)[i]) from bJ (aKa (af' s (List.mem_of_mem_drop (ajj D))) az) _,aH];unfold s_;by_cases aC:0<=f_ ((dB s).drop 1)[i]
     ·simp only[aC,ajq];rw[bb (ez (by grind))];rfl
     simp_all
    grind
   simp
theorem T7{d:bk}(an:dx d){s:a1}(az:s.length<=10000):dx (ng d s).2:=by
 grind [ng,agn,va,Dy,yw]
abbrev pP:aF:=⟨mB,.int .i64,λd=>eN d.1/\H.jw d.2,qG⟩
theorem azv(x):aR (adU oS.sh H.gR.sh x) (pP.sh x):=bg λh=>by
 obtain⟨E,M⟩:=h;unfold adU eM b3;rw[show oS.sh x.1=mpure (ke x.1) from bJ E _,aH,show H.gR.sh x.2=mpure (H.cA x.2) from bJ M _,oF,aH];grind [qG]
theorem azw(l:List H.bC):(H.fN l).length<=l.length:=by
 have s5:(H.fN l).map (·.1) ⊆ l.map (·.1):=by
  intro x al;obtain⟨s,az,rfl⟩:=List.mem_map.1 al;grind [H.Gn]
 have:=(H.adm l).length_le_of_subset s5;grind
theorem azx(l:z1'):(H.tI l []).length<=l.length:=by
 have aC:((dA 0 99).filter λid=>l.contains id||List.contains [] id).Nodup:=((H.TK 0 99).imp λh=>by omega).filter _;refine aC.length_le_of_subset λx al=>?_;grind
theorem ags{c:H.aW}(h:H.cA c=0):H.nf c [] []=(H.k_ c (H.fN c.2.1) (H.tI c.2.2.1 []),0):=by
 have D:=H.Dx h;have g:H.k4 c=true:=by grind [H.cA]
 have M:H.cA (H.k_ c [] [])=0:=by
  have:H.k4 (H.k_ c [] [])=true:=by
   grind [H.k4,H.uM,H.k_]
  unfold H.cA;rw[if_pos this];rfl
 have dO:=azw c.2.1;have jd:=azx c.2.2.1;have dW:=D.dW;have jM:=D.jM;unfold H.nf;rw[if_neg (by omega),if_neg (by omega),aKg,if_neg (by rw[D.cl];decide)];grind
theorem azy{d:bk}(h:dx d):l5 d=(d.1,H.k_ d.2 (H.fN d.2.2.1) (H.tI d.2.2.2.1 [])):=by
 unfold l5;rw[ags h.vb]
theorem T8{d:bk}(h:dx d):dx (l5 d):=by
 have:=agm       (by rw[ags h.vb]);exact⟨h.fB,h.AQ,this.2.1,by rw[azy h];exact h.Dz⟩
theorem agt{p:bk->Prop}{q:a1->Prop}(aq:∀ d s,p d->q s->p (ng d s).2):∀ (l:List a1) (d:bk),p d->(∀ s∈l,q s)->p (oZ d l).2
 | [],d,h,_=>h
 | s::l,d,h,bM=>agt aq l _ (aq d s h (bM s (by simp))) λt aT=>bM t (by grind)
theorem azz{d:bk}(h:dx d){l:List a1}(af:∀ s∈l,s.length<=10000):dx (oZ d l).2:=agt (p:=dx) (λd s h az=>T7 h az) l d h af
def wC(x:bk×Unit):G (bk×Unit):=eL (dx x.1) (l5 x.1,())
theorem RS(x):aR (adV H.sD.sh Mi.sh x) (wC x):=bg λh=>by
 obtain⟨d,⟨⟩⟩:=x;unfold adV bT;rw[show H.sD.sh (d.2,[],[])=mpure (H.nf d.2 [] []) from bJ ⟨h.jw,by simp,by simp⟩ _];rw[show Mi.sh d.1=mpure d.1 from bJ h.copy _];simp;rfl
abbrev T9(x:bk×List a1):Prop:=eN x.1.1/\H.gx x.1.2/\x.2.length<2 ^ 63/\∀ s∈x.2,s.length<=10000
theorem T_{d:bk}(E:eN d.1)(M:H.gx d.2)(h:qG d=0):dx d:=by
 unfold qG at h;split at h
 ·omega
 ·rename_i V;simp  at V;exact⟨E,V.1,V.2,M.2 V.2⟩
abbrev sH:aF:=⟨.ar mB wU,.ar wU (.ar mB (.int .i64)),T9,λx=>pM x.1 x.2⟩
theorem T':∀ (l:List a1) (o:List a1) (d:bk),l.foldl (λ(p:List a1×bk) s=>(p.1++[(ng p.2 s).1],(ng p.2 s).2)) (o,d)=(o++(oZ d l).1,(oZ d l).2)
 | [],o,d=>by simp[oZ]
 | s::l,o,d=>by
  rw[aKd,T' l];simp[oZ]
theorem azA(x):aR (adT pP.sh wC Mn.sh Mo x) (sH.sh x):=bg λh=>by
 obtain⟨d,l⟩:=x;obtain⟨E,M,ai,bf⟩:=h;unfold adT aL aG aQ aB bj a7 ay cM a6;show _=mpure (pM d l);unfold pM;rw[show pP.sh d=mpure (qG d) from bJ ⟨E,M.fB⟩ _,aH];by_cases e:qG d=0
 ·have an:=T_ E M e;by_cases aU:l.length > 40
  ·grind
  ·rw[if_neg (show ¬decide (Int.ofNat l.length > 40)=true by grind),if_neg aU];rw[show wC (d,())=mpure (l5 d,()) from bJ an _,aH,show Mn.sh ()=mpure yz from rfl,aH];rw[d' l (λi p=>(yz,l,(l.length:Int),(i:Int),p.1,0,0,0,0,0,0,0,0,0,p.2,())) (λs p=>.next (p.1++[(ng p.2 s).1],(ng p.2 s).2)) (λp=>.next (p.1,0,0,0,0,0,0,0,0,0,p.2,())) (λi p=>dx p.2/\p.1.length=i) ([],l5 d) ?_ ⟨T8 an,rfl⟩ ?_ ?_]
   ·simp_all[cU,T']
   ·rfl
   ·rintro i D ⟨o,tX⟩ ⟨yS,au⟩;have hw:=bc (n:=i+1) (by omega) (by omega);have az:=bf _ (ajj D);refine⟨?_,λbl da=>?_⟩
    ·simp only[ch,cT D,c_ D,cE D,bS,cy,hw];rw[show Mo (yz,l[i],tX,())=mpure _ from bJ ⟨rfl,az,yS⟩ _,aH,bb (ez (by grind))];rfl
    grind [T7]
   simp
 grind
end Go.Fer.aj
namespace Go.Fer.aj
def ry:bk:=(Dv,[(0,0)],[],[],[],10,30,100,500,1000,2000,300)
def agu(aeB:Unit->G aS)(x:Unit):G bk:=ao (aeB ()) λy=>mpure (y,[(0,0)],[],[],[],10,30,100,500,1000,2000,300)
abbrev Mp:aF:=⟨.dp,mB,λ_=>True,λ_=>ry⟩
theorem azB(x):aR (agu L1.sh x) (Mp.sh x):=bg λ_=>by
 unfold agu;rw[show L1.sh ()=mpure Dv from rfl,aH];rfl
def q3:List a1:=[[108,101,110,100,32,49,32,48,32,49,48,48,32,51,32,55],[98,97,99,107,32,50,32,48,32,49,55,49,32,51],[102,101,101,32,49],[119,104,101,114,101,32,51,32,49,55,49],[116,114,105,97,108,32,49,32,48,32,48,32,48],[115,116,111,99,107,32,48,32,49],[101,120,116,114,97],[100,114,111,112,32,51],[101,120,116,114,97]]
def agv:List a1:=[[111,107],[111,107],[51,48,48,32,51,48,48],[115,104,111,112],[108,105,97,114],[111,107],[49],[111,107],[48]]
theorem azC:(oZ (l5 ry) q3).1=agv/\(oZ (l5 ry) q3).2.2.2.1.length=2/\(oZ (l5 ry) q3).2.1.2.2.2.1.length=3:=by decide +kernel
end Go.Fer.aj
namespace Go.Fer.aj
open H (ez)
theorem azD(x):aR (adS H.gR.sh oS.sh x) (pP.sh x):=bg λh=>by
 obtain⟨E,M⟩:=h;unfold adS eM b3;rw[show oS.sh x.1=mpure (ke x.1) from bJ E _,aH,show H.gR.sh x.2=mpure (H.cA x.2) from bJ M _,oF,aH];grind [qG]
theorem agw(c:UInt8):c.1.1.1=c.toNat:=rfl
theorem agx{n:Int}(h:0<=n)(M:n<=255):IntKind.wrap .u8 n=n:=by
 show (if (false&&decide (n % 2 ^ 8>=(2 ^ (8 - 1))))=true then n % 2 ^ 8 - 2 ^ 8 else n % 2 ^ 8)=n;grind
theorem Ua{ag bet rho:Type}{p:ag->Bool}{r:rho}{g:ag->bet->bet}{fin:bet->rho}:∀ (l:List ag) (b:bet),e' (λx b=>if p x=true then .done r else .next (g x b)) fin l b=if l.any p=true then r else fin (l.foldl (λb x=>g x b) b)
 | [],b=>rfl
 | x::l,b=>by
  unfold e';rw[aK6];cases h:p x with
  | true=>rfl
  | false=>
   exact Ua l (g x b)
def AX(c:UInt8):Bool:=decide ((c.toNat:Int)<48)||decide ((c.toNat:Int) > 57)
theorem azE(c:UInt8)(s:a1)(n:Int):hQ (c::s) n=if AX c=true then -1 else hQ s (10*n+((c.toNat:Int) - 48)):=rfl
theorem agy{rho:Type}{r:rho}{fin:Int->rho}:∀ (s:a1) (n:Int),0<=n->e' (λc n=>if AX c=true then .done r else .next (10*n+((c.toNat:Int) - 48))) fin s n=if hQ s n=-1 then r else fin (hQ s n)
 | [],n,h=>by
  show fin n=if n=-1 then r else fin n
  grind
 | c::s,n,h=>by
  rw[azE];unfold e';by_cases hc:AX c=true
  ·grind
  ·have r4:=hc;unfold AX at r4;simp  at r4;simp  [hc];exact agy s _ (by omega)
abbrev Mq:aF:=⟨.str,.int .i64,λ_=>True,f_⟩
theorem azF(x):aR (aer x) (Mq.sh x):=bg λ_=>by
 unfold aer e_ bU cN py dn aL eC bN aB bj b_ a7 ay a6;show _=mpure (f_ x);unfold f_;simp only[ch,agw,show Int.toNat 0=0 from rfl];rw[bb (λV=>⟨⟨V,trivial⟩,⟨aKs _,by grind⟩,trivial⟩)];have e:(decide ((x.length:Int)=0)||decide ((x.length:Int) > 6)||decide ((x.length:Int) > 1)&&decide (((x.getD 0 0).toNat:Int)=48))=(decide (x.length=0)||decide (x.length > 6)||decide (x.length > 1)&&decide ((x.getD 0 0).toNat=48)):=by
  grind
 rw[e];by_cases V:(decide (x.length=0)||decide (x.length > 6)||decide (x.length > 1)&&decide ((x.getD 0 0).toNat=48))=true
 ·grind
 ·rw[if_neg V,if_neg V];have d_:x.length<=6:=by
   grind
  rw[d' x (λi n=>(x,n,(i:Int),())) (λc n=>if AX c=true then .done (.done (-1)) else .next (10*n+((c.toNat:Int) - 48))) (λn=>.next (n,())) (λi n=>0<=n/\n<10 ^ i) 0 ?_ ⟨aKs _,by decide⟩ ?_ ?_]
  ·rw[agy _ _ (aKs _)];by_cases an:hQ x 0=-1<;>simp_all
  ·rfl
  ·rintro i D n ⟨aZ,E⟩;have hw:=bc (n:=i+1) (by omega) (by omega);have aq:(10:Int) ^ i<=10 ^ 5:=by
    have:=aKT (n:=10) (by decide) (show i<=5 by omega);grind
   refine⟨?_,λbl da=>?_⟩
   ·simp only[cT D,c_ D,cE D,bS,cy,hw];rw[bb (λh=>⟨⟨h,h⟩,trivial,trivial⟩)];by_cases hc:AX x[i]=true
    ·have r4:(decide ((x[i].toNat:Int)<48)||decide ((x[i].toNat:Int) > 57))=true:=hc;simp_all
    ·rw[if_neg hc];have r4:¬(decide ((x[i].toNat:Int)<48)||decide ((x[i].toNat:Int) > 57))=true:=hc;rw[if_neg r4];simp  at r4;rw[agx (by omega) (by omega),bc (n:=(x[i].toNat) - 48) (by omega) (by omega),bc (n:=10*n) (by omega) (by omega),bc   (by omega) (by omega)];rfl
   ·grind [AX]
  simp
def DC(o:List a1)(c:UInt8):List a1:=if c=32 then o++[[]] else o.set (o.length - 1) (o.getD (o.length - 1) []++[c])
theorem Ub:∀ (s:a1) (o:List a1) (w:a1),s.foldl DC (o++[w])=o++(match dB s with | []=>[w] | v::l=>(w++v)::l)
 | [],o,w=>by simp[dB]
 | c::s,o,w=>by
  rw[aKd];unfold dB;have hl:=yw s;by_cases hc:c=32
  ·rw[show DC (o++[w]) c=o++[w]++[[]] from if_pos hc,Ub s (o++[w]) [],if_pos hc];cases hs:dB s with
   | nil=>simp[hs]at hl
   | cons=>simp
  ·rw[show DC (o++[w]) c=_ from if_neg hc];have e:(o++[w]).set ((o++[w]).length - 1) ((o++[w]).getD ((o++[w]).length - 1) []++[c])=o++[w++[c]]:=by
    simp
   rw[e,Ub s o (w++[c]),if_neg hc];cases hs:dB s with
   | nil=>simp
   | cons=>simp
abbrev Mr:aF:=⟨.str,wU,λx=>x.length<=10000,dB⟩
theorem azG(x):aR (aeq x) (Mr.sh x):=bg λh=>by
 unfold aeq cR aL b1 aG aQ aB bj a7 ay cM a6 cu;rw[d' x (λi o=>(x,(i:Int),o,())) (λc o=>.next (DC o c)) (λo=>.next (o,())) (λi o=>1<=o.length/\o.length<=i+1/\∀ w∈o,w.length<=i) [[]] ?_ ⟨by decide,by decide,by simp⟩ ?_ ?_]
 ·rw[cU,aH,cp];have:=Ub x [] [];grind [yw]
 ·rfl
 ·rintro i D o ⟨E,M,ai⟩;have hw:=bc (n:=i+1) (by omega) (by omega);have ft:=bc (n:=o.length - 1) (by omega) (by omega);have ax:((o.length:Int) - 1).toNat=o.length - 1:=by omega
  have aU:((i:Int)+1).toNat=i+1:=by omega
  have aA:o.getD (o.length - 1) []=o[o.length - 1]:=by grind
  have an:(x.take (i+1)).drop i=[x[i]]:=by grind [List.drop_eq_getElem_cons]
  refine⟨?_,λbl da=>?_⟩
  ·simp only[ch,c_ D,cE D,bS,cy,hw,agw];unfold DC;by_cases hc:x[i]=32
   ·rw[bb (ez (by grind))];simp_all
   ·have r4:¬decide ((x[i].toNat:Int)=32)=true:=by
     intro h;apply hc;simp  at h;exact UInt8.toNat_inj.1 (show x[i].toNat=32 by omega)
    rw[if_neg r4];rw[bb (by omega),bb (by omega),aU,ajr,bb (ez (by grind)),bb (by omega)];simp_all
  ·grind [DC]
 simp
def rz:List a1×z1'×z1':=(iJ.map (·.1),iJ.map (·.2.1),iJ.map λp=>if p.2.2=true then -1 else p.2.1)
abbrev Ms:aF:=⟨.dp,.ar wU (.ar dV dV),λ_=>True,λ_=>rz⟩
theorem azH(x):aR (au6 x) (Ms.sh x):=bg λ_=>congrArg mpure (show _=rz by rfl)
def DD(k:Int)(m:Bool)(n:Nat):Bool:=decide ((n:Int)>=k)&&(decide ((if m=true then -1 else k)<(0:Int))||decide ((n:Int)<=if m=true then -1 else k))
def qH(s:a1):a1×z1'×Bool:=
 if ((dB s).drop 1).any (λw=>decide (f_ w<0))=true then ([],[],false) else
 match oY ((dB s).getD 0 []) iJ 0 with
 | none=>([],[],false)
 | some (k,m,_)=>((dB s).getD 0 [],((dB s).drop 1).map f_,DD k m ((dB s).drop 1).length)
theorem CE{rho:Type}{w:a1}{g:Int->Bool->rho}{r:rho}:∀ (l:List (a1×Int×Bool)) (i:Nat),e' (λp (_:Unit)=>if decide (p.1=w)=true then .done (g p.2.1 p.2.2) else .next ()) (λ_=>r) l ()=match oY w l i with | none=>r | some q=>g q.1 q.2.1
 | [],_=>rfl
 | p::l,i=>by
  unfold e' oY;by_cases h:p.1=w
  ·grind
  ·have M:¬w=p.1:=λe=>h e.symm;simp only[h,M];exact CE l (i+1)
abbrev DE:aF:=⟨.str,.ar .str (.ar dV .bool),λx=>x.length<=10000,qH⟩
theorem azI(x):aR (aep Mr.sh Mq.sh Ms.sh x) (DE.sh x):=bg λh=>by
 unfold aep dn aL eC aG aQ aB bj b_ a7 ay cM a6 dJ;show _=mpure (qH x);unfold qH;rw[show Mr.sh x=mpure (dB x) from bJ h _,aH];have af:=yw x;have cR:((dB x).drop 1).length=(dB x).length - 1:=by simp
 rw[d' ((dB x).drop 1) (λi o=>(dB x,((1+i:Nat):Int),o,())) (λw o=>if decide (f_ w<0)=true then .done (.done ([],[],false)) else .next (o++[f_ w])) (λo=>.next (dB x,o,())) (λi o=>o.length=i) [] ?_ rfl ?_ ?_]
 ·rw[Ua,aH];by_cases br:((dB x).drop 1).any (λw=>decide (f_ w<0))=true
  ·simp_all
  ·rw[if_neg br,if_neg br,cp,oG];rw[show Ms.sh ()=mpure rz from rfl,aH];generalize kI:((dB x).drop 1).map f_=DF;have aC:DF.length=((dB x).drop 1).length:=by grind
   rw[<-aC];rw[d' iJ (λi (_)=>(dB x,rz.1,rz.2.1,rz.2.2,(i:Int),DF,())) (λp (_)=>if decide (p.1=(dB x).getD 0 [])=true then .done (.done ((dB x).getD 0 [],DF,DD p.2.1 p.2.2 DF.length)) else .next ()) (λ_=>.next ()) (λ_ _=>True) () ?_ trivial ?_ ?_]
   ·rw[CE (g:=λk m=>bq.done ((dB x).getD 0 [],DF,DD k m DF.length)) iJ 0,aH];cases oY ((dB x).getD 0 []) iJ 0<;>rfl
   ·rfl
   ·intro i D _ _;have aJT:i<20:=D;have hw:=bc (n:=i+1) (by omega) (by omega);have dO:i<rz.1.length:=D;have jd:i<rz.2.1.length:=D;have G_:i<rz.2.2.length:=D;have g1:rz.1[i]'dO=(iJ[i]'D).1:=aLm ..;have eB:rz.2.1[i]'jd=(iJ[i]'D).2.1:=aLm ..;have g3:rz.2.2[i]'G_=if (iJ[i]'D).2.2=true then -1 else (iJ[i]'D).2.1:=aLm ..
    have aq:((0)<=0/\(0)<((dB x).length))=True:=eq_true ⟨by decide,by omega⟩;by_cases hc:decide ((iJ[i]'D).1=(dB x).getD 0 [])=true
    ·simp_all[DD]
    simp_all
   simp_all[rz]
 ·rfl
 ·intro i D o au;have ea:1+i<(dB x).length:=by omega
  have hw:=bc (n:=((1+i:Nat))+1) (by omega) (by omega);have aA:(dB x)[1+i]=((dB x).drop 1)[i]:=by grind
  refine⟨?_,λbl da=>?_⟩
  ·simp only[ch,cT ea,c_ ea,cE ea,bS,cy,hw,aA];rw[show Mq.sh ((dB x).drop 1)[i]=mpure (f_ ((dB x).drop 1)[i]) from rfl,aH];by_cases aC:decide (f_ ((dB x).drop 1)[i]<0)=true
   ·simp_all
   ·rw[if_neg aC,if_neg aC,bb (ez (by grind))];rfl
  grind
 simp_all
theorem azJ{s:a1}(h:s.length<=10000):DE.sh s=mpure (qH s):=bJ h _
theorem agz{k:Int}{m:Bool}{n:Nat}(ah:0<=k):DD k m n=!(decide ((n:Int)<k)||decide ((n:Int) > k)&&!m):=by
 grind [DD]
theorem azK{s:a1}{j:Nat}{l:z1'}(h:va s=some (j,l)):∃ p,iJ[j]?=some p/\qH s=(p.1,l,true):=by
 unfold va at h;cases aw:oY ((dB s).getD 0 []) iJ 0 with
 | none=>grind
 | some q=>
  obtain⟨_,aI,ah⟩:=Hi aw;grind [agq,Dy,qH,agz]
theorem azL{s:a1}(h:va s=none):(qH s).2.2=false:=by
 unfold va at h;have af:=yw s;unfold qH;split
 ·rfl
 ·cases aw:oY ((dB s).getD 0 []) iJ 0 with
  | none=>rfl
  | some q=>
   obtain⟨k,m,i⟩:=q;rw[aw]at h;obtain⟨_,aI,ah⟩:=Hi aw;grind [agq,agz,Dy]
def agA(w:a1):Bool:=decide (w=[108,101,110,100])||(decide (w=[98,97,99,107])||(decide (w=[118,111,105,100])||(decide (w=[116,114,105,97,108])||(decide (w=[115,116,111,99,107])||(decide (w=[99,111,109,101,115])||(decide (w=[112,105,101,99,101])||(decide (w=[119,105,115,104])||decide (w=[100,114,111,112]))))))))
theorem azM{j:Nat}(aI:agA (iJ.getD j ([],0,false)).1=false)(d:bk)(l:z1'):(oX j d l).2=d:=by
 unfold oX;split<;>first | rfl | exact absurd aI (by decide)
abbrev DG:aF:=⟨.ar wU wU,.bool,λx=>x.1.length<2 ^ 63,λx=>decide (x.1=x.2)⟩
theorem azN(a b:List a1)(h:a.length=b.length):((List.range a.length).any λi=>decide (a.getD i []≠b.getD i []))=!decide (a=b):=by
 rw[aKW];simp;constructor
 ·grind
 ·intro fc;refine Classical.byContradiction λgl=>fc (aLC h λi E M=>?_);simp_all
theorem azO(x):aR (aet x) (DG.sh x):=bg λh=>by
 obtain⟨a,b⟩:=x;change a.length<2 ^ 63 at h;unfold aet dn aL aG aQ aB bj b_ a7 ay hy hO a6;show _=mpure (decide (a=b));by_cases af:a.length=b.length
 ·rw[if_neg (by grind)];rw[db (List.range a.length) (λi (_)=>(a,b,(i:Int),())) (λi (_)=>if decide (a.getD i []≠b.getD i [])=true then .done (.done false) else .next ()) (λ_=>.next ()) () ?_ ?_ ?_]
  ·rw[n2,azN a b af,aH];cases decide (a=b)<;>rfl
  ·rfl
  ·intro i D _;have D:i<a.length:=by grind
   have hw:=bc (n:=i+1) (by omega) (by omega);by_cases hc:decide (a.getD i []≠b.getD i [])=true<;>simp_all
  simp
 ·grind [decide]
theorem agB{a b:List a1}(h:a.length<2 ^ 63):DG.sh (a,b)=mpure (decide (a=b)):=bJ h _
abbrev DH:aF:=⟨.ar dV dV,.bool,λx=>x.1=x.2/\x.1.length<2 ^ 63,λ_=>true⟩
theorem azP(x):aR (aem x) (DH.sh x):=bg λh=>by
 obtain⟨a,b⟩:=x;obtain⟨rfl,h⟩:a=b/\a.length<2 ^ 63:=h;unfold aem dn aL aG aQ aB bj b_ a7 ay hy hO a6;rw[db a (λi (_)=>(a,a,(i:Int),())) (λ_ b=>.next b) (λ_=>.next ()) () ?_ ?_ ?_]
 ·simp_all[cU]
 ·rfl
 ·intro i D _;have hw:=bc (n:=i+1) (by omega) (by omega);simp_all
 simp
theorem Hk{a:z1'}(h:a.length<2 ^ 63):DH.sh (a,a)=mpure true:=bJ ⟨rfl,h⟩ _
abbrev Mt:aF:=⟨.ar H.hk H.hk,.bool,λx=>x.1=x.2/\H.jw x.1,λ_=>true⟩
theorem azQ(x):aR (ael DH.sh x) (Mt.sh x):=bg λh=>by
 obtain⟨a,b⟩:=x;obtain⟨rfl,E,M,ai,bf⟩:a=b/\H.jw a:=h;unfold ael bU eM dn b3 aL bN aQ aB bj b_ a7 ay hy hO a6;rw[Hk ai];rw[db a.1 (λi (_)=>((i:Int),a,a,())) (λ_ b=>.next b) (λ_=>.next (a,a,())) () ?_ ?_ ?_]
 ·rw[cU,aH,cp];rw[db a.2.1 (λi (_)=>((i:Int),a,a,())) (λ_ b=>.next b) (λ_=>.next (a,a,())) () ?_ ?_ ?_]
  ·rw[cU,aH,cp];rw[db a.2.2.2.1 (λi (_)=>((i:Int),a,a,())) (λ_ b=>.next b) (λ_=>.next ()) () ?_ ?_ ?_]
   ·simp_all[cU]
   ·rfl
   ·intro i D _;have hw:=bc (n:=i+1) (by omega) (by omega);simp_all
   simp
  ·rfl
  ·intro i D _;have hw:=bc (n:=i+1) (by omega) (by omega);simp_all
  simp
 ·rfl
 ·intro i D _;have hw:=bc (n:=i+1) (by omega) (by omega);simp_all
 simp
abbrev Mu:aF:=⟨.ar jo jo,.bool,λx=>x.1=x.2/\gi x.1,λ_=>true⟩
theorem azR(x):aR (aen DH.sh x) (Mu.sh x):=bg λh=>by
 obtain⟨a,b⟩:=x;obtain⟨rfl,E,M,ai,bf⟩:a=b/\gi a:=h;unfold aen bU cR eM dn aL b1 bN aG aQ aB bj b_ e9 a7 ay hy hO a6 kJ;rw[db a.1 (λi (_)=>((i:Int),a,a,())) (λ_ b=>.next b) (λ_=>.next (a,a,())) () ?_ ?_ ?_]
 ·rw[cU,aH,cp];rw[db a.2.2.2 (λi (_)=>((i:Int),a,a,())) (λ_ b=>.next b) (λ_=>.next (a,a,())) () ?_ ?_ ?_]
  ·rw[cU,aH,cp];rw[db a.2.1 (λi (_)=>((i:Int),a,a,())) (λ_ b=>.next b) (λ_=>.next ()) () ?_ ?_ ?_]
   ·simp_all[cU]
   ·rfl
   ·intro i D _;have hw:=bc (n:=i+1) (by omega) (by omega);obtain⟨hm,az⟩:=bf _ (ajj D);simp only[c_ D];rw[db a.2.1[i] (λj (_)=>((i:Int),a.2.1[i],a.2.1[i],(j:Int),a,a,())) (λ_ b=>.next b) (λ_=>.next (i,a,a,())) () ?_ ?_ ?_]
    ·simp_all[cU]
    ·rfl
    ·intro j aI _;have hw:=bc (n:=j+1) (by omega) (by omega);have bM:=Hk (az _ (ajj aI));simp_all
    simp
   simp
  ·rfl
  ·intro i D _;have hw:=bc (n:=i+1) (by omega) (by omega);simp_all
  simp
 ·rfl
 ·intro i D _;have hw:=bc (n:=i+1) (by omega) (by omega);simp_all
 simp
abbrev DI:aF:=⟨.ar mB mB,.bool,λx=>x.1=x.2/\eN x.1.1/\H.jw x.1.2,λ_=>true⟩
theorem azS(x):aR (aek Mt.sh Mu.sh DH.sh x) (DI.sh x):=bg λh=>by
 obtain⟨a,b⟩:=x;obtain⟨rfl,⟨E,M,ai,bf,b2,d_,hn⟩,hc⟩:a=b/\eN a.1/\H.jw a.2:=h;unfold aek bU eM dn b3 aL bN aQ aB bj b_ a7 ay hy hO a6;rw[show Mt.sh (a.2,a.2)=mpure true from bJ ⟨rfl,hc⟩ _,show Mu.sh (a.1.1,a.1.1)=mpure true from bJ ⟨rfl,E⟩ _,Hk M];simp;rw[db a.1.2.2.1 (λi (_)=>((i:Int),a.1,a.1,())) (λ_ b=>.next b) (λ_=>.next (a.1,a.1,())) () ?_ ?_ ?_]
 ·rw[cU,aH,cp];rw[db a.1.2.2.2.1 (λi (_)=>((i:Int),a.1,a.1,())) (λ_ b=>.next b) (λ_=>.next (a.1,a.1,())) () ?_ ?_ ?_]
  ·rw[cU,aH,cp];rw[db a.1.2.2.2.2.1 (λi (_)=>((i:Int),a.1,a.1,())) (λ_ b=>.next b) (λ_=>.next ()) () ?_ ?_ ?_]
   ·simp_all[cU]
   ·rfl
   ·intro i D _;have hw:=bc (n:=i+1) (by omega) (by omega);simp_all
   simp
  ·rfl
  ·intro i D _;have hw:=bc (n:=i+1) (by omega) (by omega);have bM:=Hk (hn _ (ajj D));simp_all
  simp
 ·rfl
 ·intro i D _;have hw:=bc (n:=i+1) (by omega) (by omega);have bM:=Hk (d_ _ (ajj D));simp_all
 simp
abbrev Mv:Type:=Int×Int×Int×Int
def Uc(s:a1)(c:Mv):Mv:=
 if (!(qH s).2.2)=true then c else if decide ((qH s).1=[119,105,115,104])=true then (IntKind.wrap .i64 (c.1+1),c.2)
 else if decide ((qH s).1=[112,105,101,99,101])=true then (c.1,IntKind.wrap .i64 (c.2.1+1),c.2.2.1,IntKind.wrap .i64 (c.2.2.2+IntKind.wrap .i64 (((qH s).2.1.length:Int) - 4)))
 else if decide ((qH s).1=[99,111,109,101,115])=true then (c.1,c.2.1,IntKind.wrap .i64 (c.2.2.1+1),c.2.2.2) else c
def agC(d:bk):Mv:=((d.1.2.2.2.1.length:Int),(d.1.2.2.1.length:Int),(d.1.2.2.2.2.1.length:Int),d.1.2.2.1.foldl (λn p=>IntKind.wrap .i64 (n+(p.2.2.2.2.length:Int))) 0)
def azT(c:Mv):Bool:=decide (c.1 > 3)||decide (c.2.1 > 4)||decide (c.2.2.1 > 3)||decide (c.2.2.2 > 4)
def DJ(d:bk)(l:List a1):Bool:=
 if (tH d.1||H.mq d.2||decide ((l.length:Int) > 60))=true then true else if (l.any λs=>decide ((s.length:Int) > 80))=true then true
 else decide (qG d=0)&&azT (l.foldl (λc s=>Uc s c) (agC d))
abbrev azU(x:bk×List a1):Prop:=eN x.1.1/\H.jw x.1.2/\x.2.length<2 ^ 63
abbrev Hl:aF:=⟨.ar mB wU,.bool,azU,λx=>DJ x.1 x.2⟩
theorem azV(x):aR (aeo pP.sh L0.sh H.x8.sh DE.sh x) (Hl.sh x):=bg λh=>by
 obtain⟨d,l⟩:=x;obtain⟨E,M,ai⟩:=h;have jL:d.1.2.2.1.length<2 ^ 63:=E.2.2.1;change l.length<2 ^ 63 at ai;unfold aeo e_ bU cN cR b3 aL b1 bN aG aQ aB bj b_ e9 a7 ay hO a6 cu;show _=mpure (DJ d l);unfold DJ;rw[show L0.sh d.1=mpure (tH d.1) from bJ E _,aH,show H.x8.sh d.2=mpure (H.mq d.2) from bJ M _,oF,aH];have e:(tH d.1||(if (!tH d.1)=true then H.mq d.2 else false)||decide (Int.ofNat l.length > 60))=(tH d.1||H.mq d.2||decide ((l.length:Int) > 60)):=by grind
 rw[e];by_cases aw:(tH d.1||H.mq d.2||decide ((l.length:Int) > 60))=true
 ·grind
 ·rw[if_neg aw,if_neg aw];rw[db d.1.2.2.1 (λi n=>(l,(d.1.2.2.2.1.length:Int),(d.1.2.2.1.length:Int),(d.1.2.2.2.2.1.length:Int),n,(i:Int),d,())) (λp n=>.next (IntKind.wrap .i64 (n+(p.2.2.2.2.length)))) (λn=>.next (l,(d.1.2.2.2.1.length),(d.1.2.2.1.length),(d.1.2.2.2.2.1.length),n,d,())) 0 ?_ ?_ ?_]
  ·rw[cU,aH,cp];rw[db l (λi c=>(l,c.1,c.2.1,c.2.2.1,c.2.2.2,(i:Int),d,())) (λs c=>if decide ((s.length:Int) > 80)=true then .done (.done true) else .next (Uc s c)) (λc=>.next (c.1,c.2.1,c.2.2.1,c.2.2.2,d,())) (agC d) ?_ ?_ ?_]
   ·rw[Ua,aH];by_cases br:(l.any λs=>decide ((s.length:Int) > 80))=true
    ·simp_all
    ·rw[if_neg br,if_neg br,cp];rw[show pP.sh d=mpure (qG d) from bJ ⟨E,M⟩ _,aH];rfl
   ·rfl
   ·intro i D c;have hw:=bc (n:=i+1) (by omega) (by omega);simp only[ch,cT D,if_true,c_ D];by_cases hc:decide ((l[i].length:Int) > 80)=true
    ·simp_all
    ·rw[if_neg hc];rw[azJ (by grind),aH];unfold Uc;split
     ·simp_all
     ·split
      ·simp_all
      ·split
       ·simp_all
       ·split<;>simp_all
   simp
  ·rfl
  ·intro i D n;have hw:=bc (n:=i+1) (by omega) (by omega);simp_all
  simp
theorem azW:eN ry.1/\H.jw ry.2:=⟨ayx,by decide,by decide,by decide,by decide⟩
theorem azX:H.gx ry.2:=⟨⟨by decide,by decide,by decide,by decide⟩,λ_=>by decide +kernel⟩
abbrev Hm:aF:=⟨.dp,.bool,λ_=>True,λ_=>true⟩
theorem azY:pM ry q3=(agv,(oZ (l5 ry) q3).2,0):=by
 unfold pM;rw[if_neg (by decide),if_neg (by decide),azC.1]
theorem azZ(x):aR (aes sH.sh DG.sh Mp.sh x) (Hm.sh x):=bg λ_=>by
 unfold aes bU b3 aB;rw[show Mp.sh ()=mpure ry from rfl,aH];show ao (sH.sh (ry,q3)) _=mpure true;rw[show sH.sh (ry,q3)=mpure (pM ry q3) from bJ ⟨azW.1,azX,by decide,by decide⟩ _,aH,azY];rw[agB (by decide),oF,aH];rfl
theorem az0:Hm.sh ()=mpure true:=rfl
end Go.Fer.aj
