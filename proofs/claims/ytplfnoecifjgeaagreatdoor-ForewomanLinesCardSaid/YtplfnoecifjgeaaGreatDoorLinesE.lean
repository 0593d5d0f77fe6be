/- Part 5 of the proof of Lines: shallow programs of Go functions, and what they compute. No condition. -/
import Derived.Test.YtplfnoecifjgeaaGreatDoorLinesD
noncomputable section
set_option linter.unusedVariables false
set_option linter.unusedSimpArgs false
namespace Go.Fer.H
def mo(a b:Int)(s:Int×Int):Int:=max 0 (min (b - 1) s.2 - max a s.1+1)
def ly(cl:z3')(a b:Int):Int:=cl.foldl (λn s=>n - mo a b s) (b - a)
def acP(cl:z3'):Prop:=cl.length<=4/\∀ s∈cl,0<=s.1/\s.1<=s.2/\s.2<=9999
theorem hC.RC{c:aW}(h:hC c):acP c.2.2.2.1:=by
 refine⟨h.n4,λs az=>?_⟩;have:=h.jV;unfold CC at this;obtain⟨i,D,rfl⟩:=List.mem_iff_getElem.1 az;simp_all[ks,ra]
abbrev CN(x:aW×Int×Int):Prop:=acP x.1.2.2.2.1/\-100<=x.2.1/\x.2.1<=x.2.2/\x.2.2<=11000
theorem acQ{a b:Int}{s:Int×Int}(br:-100<=a)(V:b<=11000)(az:0<=s.1/\s.1<=s.2/\s.2<=9999):0<=mo a b s/\mo a b s<=20000:=by
 unfold mo;omega
theorem acR{n:Int}:(if n > 0 then n else 0)=max 0 n:=by omega
theorem acS{a b:Int}:(if a<b then a else b)=min b a:=by omega
theorem as0{a b:Int}:(if a<b then a else b)=min a b:=by omega
theorem acT{a b:Int}:(if a > b then a else b)=max b a:=by omega
theorem as1{a b:Int}:(if a > b then a else b)=max a b:=by omega
abbrev qp:aF:=⟨.ar hk (.ar bp bp),bp,CN,λx=>ly x.1.2.2.2.1 x.2.1 x.2.2⟩
theorem as2(x):aR (abN x) (qp.sh x):=bg λh=>by
 obtain⟨c,a,b⟩:=x;obtain⟨⟨E,M⟩,ai,bf,b2⟩:=h;change -100<=a at ai;change a<=b at bf;change b<=11000 at b2;change c.2.2.2.1.length<=4 at E;unfold abN dn aL aQ bj a7 ou ay a6 cu;have Cg:=bc (n:=b - a) (by omega) (by omega);rw[d' c.2.2.2.1 (λi n=>(a,b,n,(i:Int),c,())) (λs n=>.next (n - mo a b s)) (λn=>.next (n,())) (λi n=>-(20000*i)<=n/\n<=20000) (b - a) ?_ ?_ ?_ ?_]
 ·rw[cU,aH];rfl
 ·grind
 ·omega
 ·intro i D n aC;have az:=M _ (ajj D);have hc:=acQ     ai b2 az;have hw:=bc (n:=i+1) (by omega) (by omega);refine⟨?_,λbl da=>?_⟩
  ·have cj:=bc (n:=b - 1) (by omega) (by omega);have dM:=bc (n:=min (b - 1) c.2.2.2.1[i].2 - max a c.2.2.2.1[i].1) (by omega) (by omega);have hi:=bc (n:=min (b - 1) c.2.2.2.1[i].2 - max a c.2.2.2.1[i].1+1) (by omega) (by omega);have KG:=bc (n:=n - mo a b c.2.2.2.1[i]) (by omega) (by omega);simp_all[acS,acT,mo]
  grind
 simp
theorem as3(x):aR (abM x) (qp.sh x):=bg λh=>by
 obtain⟨c,a,b⟩:=x;obtain⟨⟨E,M⟩,ai,bf,b2⟩:=h;change -100<=a at ai;change a<=b at bf;change b<=11000 at b2;change c.2.2.2.1.length<=4 at E;unfold abM aL aG aQ aB bj a7 ou ay a6 cu;have Cg:=bc (n:=b - a) (by omega) (by omega);rw[d' c.2.2.2.1 (λi n=>(a,b,n,c.2.2.2.1,(c.2.2.2.1.length:Int),(i:Int),())) (λs n=>.next (n - mo a b s)) (λn=>.next (n,())) (λi n=>-(20000*i)<=n/\n<=20000) (b - a) ?_ ?_ ?_ ?_]
 ·rw[cU,aH];rfl
 ·grind
 ·omega
 ·intro i D n aC;have az:=M _ (ajj D);have hc:=acQ     ai b2 az;have hw:=bc (n:=i+1) (by omega) (by omega);refine⟨?_,λbl da=>?_⟩
  ·simp only[ch,cT D,c_ D,cE D,bS,cy,hw];have cj:=bc (n:=b - 1) (by omega) (by omega);have dM:=bc (n:=min (b - 1) c.2.2.2.1[i].2 - max a c.2.2.2.1[i].1) (by omega) (by omega);have hi:=bc (n:=min (b - 1) c.2.2.2.1[i].2 - max a c.2.2.2.1[i].1+1) (by omega) (by omega);have KG:=bc (n:=n - mo a b c.2.2.2.1[i]) (by omega) (by omega);simp only[cj,as0,as1,dM,hi];rw[show max (min (b - 1) c.2.2.2.1[i].2 - max a c.2.2.2.1[i].1+1) 0=mo a b c.2.2.2.1[i] from Int.max_comm _ _,KG];rfl
  grind
 simp
def jH(t:sc)(m:Int):Int:=if m>=t.2.2.2.2.1 then t.2.2.2.2.2.1 else min t.2.2.2.1 ((max 0 (m - t.1)+t.2.1 - 1) / t.2.1*t.2.2.1)
abbrev wy(x:sc×Int):Prop:=qm x.1=true/\-100000<=x.2/\x.2<=20000
abbrev qq:aF:=⟨.ar Rk bp,bp,wy,λx=>jH x.1 x.2⟩
theorem CO{t:sc}:qm t=true<->(0<=t.1/\t.1<=9999)/\(1<=t.2.1/\t.2.1<=9999)/\(1<=t.2.2.2.2.1/\t.2.2.2.2.1<=9999)/\(0<=t.2.2.1/\t.2.2.1<=100000)/\(0<=t.2.2.2.1/\t.2.2.2.1<=100000)/\(0<=t.2.2.2.2.2.1/\t.2.2.2.2.2.1<=100000)/\(0<=t.2.2.2.2.2.2/\t.2.2.2.2.2.2<=100000):=by
 grind [qm,ra]
theorem RD{t:sc}{m:Int}(h:wy (t,m)):0<=(max 0 (m - t.1)+t.2.1 - 1) / t.2.1/\(max 0 (m - t.1)+t.2.1 - 1) / t.2.1<=30000/\0<=(max 0 (m - t.1)+t.2.1 - 1) / t.2.1*t.2.2.1/\(max 0 (m - t.1)+t.2.1 - 1) / t.2.1*t.2.2.1<=3000000000:=by
 obtain⟨E,M,ai⟩:=h;obtain⟨cd,a2,a3,a4,a5,hF,hG⟩:=(CO (t:=t)).1 E;have cm:0<=(max 0 (m - t.1)+t.2.1 - 1) / t.2.1:=Int.ediv_nonneg (by omega) (by omega);have eX:(max 0 (m - t.1)+t.2.1 - 1) / t.2.1<=max 0 (m - t.1)+t.2.1 - 1:=Int.ediv_le_self _ (by omega);have kx:(max 0 (m - t.1)+t.2.1 - 1) / t.2.1<=30000:=by omega
 refine⟨cm,kx,Int.mul_nonneg cm a4.1,?_⟩;calc (max 0 (m - t.1)+t.2.1 - 1) / t.2.1*t.2.2.1<=30000*100000:=Int.mul_le_mul kx a4.2 a4.1 (by omega)
  _=3000000000:=by decide
theorem KH{t:sc}{m:Int}(h:wy (t,m)):0<=jH t m/\jH t m<=100000:=by
 grind [RD,CO,jH]
theorem as4(x):aR (aa_ x) (qq.sh x):=bg λh=>by
 obtain⟨t,m⟩:=x;have hu:=RD h;obtain⟨E,M,ai⟩:=h;obtain⟨cd,a2,a3,a4,a5,hF,hG⟩:=(CO (t:=t)).1 E;have dM:=bc (n:=max 0 (m - t.1)+t.2.1) (by omega) (by omega);grind [bc,aa_,jH,acR,bb]
theorem as5(x):aR (abt x) (qq.sh x):=bg λh=>by
 obtain⟨t,m⟩:=x;have hu:=RD h;obtain⟨E,M,ai⟩:=h;obtain⟨cd,a2,a3,a4,a5,hF,hG⟩:=(CO (t:=t)).1 E;have dM:=bc (n:=max 0 (m - t.1)+t.2.1) (by omega) (by omega);grind [bc,abt,jH,acR,bb]
def eb(c:aW)(w:z1')(u:Int):List bY:=if fO (ct c w u)=true then ct c w u else []
def jb(l:List bY)(minute:Int):Int×Int:=l.foldl (λb e=>if e.2<=minute then (if ey e.1=2 then (-1,e.2) else (i_ e.1,e.2)) else b) (-1,0)
abbrev as6(x:aW×z1'×Int×Int):Prop:=cA x.1=0/\j' x.1 x.2.1
theorem acU{c:aW}(h:hC c)(w:z1')(u:Int):(eb c w u).length<=12:=by
 grind [eb,Aa]
theorem of_eq{c:aW}{w:z1'}{u:Int}(h:cA c=0)(M:j' c w):CM.sh (c,w,u)=mpure (eb c w u,fO (ct c w u)):=by
 refine (bJ ⟨h,M⟩ _).trans (congrArg mpure ?_);grind [eb]
abbrev xS:aF:=⟨.ar hk (.ar dV (.ar bp bp)),.ar bp bp,as6,λx=>jb (eb x.1 x.2.1 x.2.2.1) x.2.2.2⟩
theorem as7(x):aR (abK CM.sh x) (xS.sh x):=bg λh=>by
 obtain⟨c,w,u,t⟩:=x;obtain⟨E,M⟩:=h;have aA:=ja E;have af:=acU aA w u;unfold abK cR aL b1 aG aQ bj a7 ay a6;rw[of_eq E M];show _=mpure (jb (eb c w u) t);generalize eb c w u=l at *
 simp only[aH];rw[db l (λi b=>(t,b.1,b.2,l,(i:Int),())) (λe b=>.next (if e.2<=t then (if ey e.1=2 then (-1,e.2) else (i_ e.1,e.2)) else b)) (λb=>.next (b.1,b.2,())) (-1,0) ?_ ?_ ?_]
 ·rw[cU,aH];rfl
 ·rfl
 ·intro i D b;have hw:=bc (n:=i+1) (by omega) (by omega);simp only[ch,cT D,c_ D,cE D,bS,cy,ajl];by_cases he:l[i].2<=t
  ·by_cases ah:ey l[i].1=2<;>simp_all
  ·simp only[he,ajq,aH,cp,hw];rfl
 simp
def tp(c:aW)(w:z1')(minute:Int):Int:=((dA 0 9).foldl (λn u=>if (jb (eb c w u) minute).1>=0 then n+1 else n) (0:Int))
abbrev KI:aF:=⟨.ar hk (.ar dV bp),bp,λx=>cA x.1=0/\j' x.1 x.2.1,λx=>tp x.1 x.2.1 x.2.2⟩
theorem as8(x):aR (abL xS.sh x) (KI.sh x):=bg λh=>by
 obtain⟨c,w,t⟩:=x;obtain⟨E,M⟩:=h;unfold abL b1 aG aQ bj a7 ay;rw[d' (dA 0 9) (λi n=>(w,t,n,(i:Int),c,())) (λu n=>.next (if (jb (eb c w u) t).1>=0 then n+1 else n)) (λn=>.next (n,())) (λi n=>0<=n/\n<=(i:Int)) 0 ?_ ?_ ?_ ?_]
 ·rw[cU,aH];rfl
 ·rfl
 ·omega
 ·intro i D n aC;have D:=by simpa [dA]using D
  have hw:=bc (n:=i+1) (by omega) (by omega);have ft:=bc (n:=n+1) (by omega) (by omega);refine⟨?_,λbl da=>?_⟩
  ·simp  [pB];rw[show xS.sh (c,w,i,t)=mpure (jb (eb c w i) t) from bJ ⟨E,M⟩ _];simp;grind [aH,cp]
  grind
 ·simp_all[dA]
theorem acV(c:aW)(w:z1')(t:Int):0<=tp c w t/\tp c w t<=10:=by
 have key:∀ (l:z1') (n:Int),0<=n->0<=l.foldl (λn u=>if (jb (eb c w u) t).1>=0 then n+1 else n) n/\l.foldl (λn u=>if (jb (eb c w u) t).1>=0 then n+1 else n) n<=n+l.length:=by
  intro l;induction l<;>grind
 grind [dA,tp]
def re(l:List bY):List (bY×bY):=l.zip (l.drop 1)
def xT(cl:z3')(ha:Int)(l:List bY):Option Int:=((re l).find? λp=>jm p.1.1 == ha&&ey p.1.1 == 1).map λp=>ly cl p.1.2 p.2.2
def hD(c:aW)(w:z1')(ha:Int):Option Int:=(dA 0 9).findSome? λu=>xT c.2.2.2.1 ha (eb c w u)
abbrev Gr:aF:=⟨.ar hk (.ar dV bp),bp,λx=>cA x.1=0/\j' x.1 x.2.1,λx=>(hD x.1 x.2.1 x.2.2).getD (-1)⟩
theorem as9{l:List bY}{i:Nat}(h:i+1<(fv h6 l).length):(fv h6 l)[i].2<=(fv h6 l)[i+1].2:=by
 have:=List.pairwise_iff_getElem.1 (asu l) i (i+1) (by omega) h (by omega);omega
theorem KJ{c:aW}(aA:hC c){w:z1'}(M:j' c w){u:Int}{e:bY}(he:e∈ct c w u):-30<=e.2/\e.2<=10029:=by
 obtain⟨E,_,ai⟩:=Gp he;have aY:=(M.at aA E).2.2;have a_:=(z_.1 (aA.z' E)).2.2.1;omega
theorem Gs{c:aW}{w:z1'}{u:Int}{e:bY}(he:e∈eb c w u):e∈ct c w u:=by
 grind [eb]
theorem as_{c:aW}{w:z1'}{u:Int}{i:Nat}(h:i+1<(eb c w u).length):(eb c w u)[i].2<=(eb c w u)[i+1].2:=by
 have key:∀ l,eb c w u=l->∀ (h:i+1<l.length),l[i].2<=l[i+1].2:=by
  intro l af h;unfold eb at af;split at af
  ·subst af;exact as9 h
  grind
 grind
theorem RE{c:aW}(aA:hC c){w:z1'}(M:j' c w){u:Int}{i:Nat}(h:i+1<(eb c w u).length):CN (c,(eb c w u)[i].2,(eb c w u)[i+1].2):=by
 have ai:=KJ aA M (Gs (ajj (by omega:i<(eb c w u).length)));have bf:=KJ aA M (Gs (ajj h));exact⟨aA.RC,show -100<=(eb c w u)[i].2 by omega,as_ h,show (eb c w u)[i+1].2<=11000 by omega⟩
theorem acW{ag bet eK rho:Type}{p:ag->Option eK}{d:eK->rho}{fin:bet->rho}:∀ (l:List ag) (b:bet),e' (λx b=>(p x).elim (.next b) λy=>.done (d y)) fin l b=(l.findSome? p).elim (fin b) d
 | [],b=>rfl
 | x::l,b=>by
  simp  [e',List.findSome?_cons];cases p x with
  | some y=>rfl
  | none=>exact acW l b
theorem acX{l:List bY}{i:Nat}(h:i<(re l).length):∃ M:i+1<l.length,(re l)[i]=(l[i],l[i+1]):=by
 grind [re]
theorem as'(l:List bY):(re l).length=l.length - 1:=by grind [re]
theorem ata(x):aR (ab0 qp.sh CM.sh x) (Gr.sh x):=bg λh=>by
 obtain⟨c,w,ha⟩:=x;obtain⟨E,M⟩:=h;change cA c=0 at E;have aA:=ja E;unfold ab0 bU cR aL b1 aG aQ aB bj b_ e9 a7 ay a6 bT fY;rw[db (dA 0 9) (λi (_)=>(w,ha,(i:Int),c,())) (λu b=>(xT c.2.2.2.1 ha (eb c w u)).elim (.next b) λm=>.done (.done m)) (λ_=>.next ()) () ?_ ?_ ?_]
 ·rw[acW];show _=mpure ((hD c w ha).getD (-1));unfold hD;cases (dA 0 9).findSome? λu=>xT c.2.2.2.1 ha (eb c w u)<;>simp
 ·rfl
 ·intro i D b;have D:=by simpa [dA]using D
  have hw:=bc (n:=i+1) (by omega) (by omega);have an:decide ((i:Int)<=9)=true:=by grind
  simp  [an,pB];rw[of_eq E M,aH];have af:=acU aA w i;have hU:=λk=>@RE c aA w M i k;rw[db (re (eb c w i)) (λk (_)=>(w,ha,(i:Int),(eb c w i),(k:Int),c,())) (λp u=>if (jm p.1.1 == ha&&ey p.1.1 == 1)=true then .done (.done (.done (.done (ly c.2.2.2.1 p.1.2 p.2.2)))) else .next u) (λ_=>.next (w,ha,i,c,())) () ?_ ?_ ?_]
  ·rw[CE];unfold xT;cases (re (eb c w i)).find? λp=>jm p.1.1 == ha&&ey p.1.1 == 1<;>simp[hw]
  ·rfl
  ·intro k ah u;obtain⟨sk,Gm⟩:=acX ah;have acw:k<(eb c w i).length:=by omega
   have hw:=bc (n:=k+1) (by omega) (by omega);have an:decide (k+1<((eb c w i).length:Int))=true:=by grind
   have cL:(0)<=(k:Int)+1/\k+1<((eb c w i).length):=⟨by omega,by omega⟩
   have em:qp.sh (c,(eb c w i)[k].2,(eb c w i)[k+1].2)=mpure (ly c.2.2.2.1 (eb c w i)[k].2 (eb c w i)[k+1].2):=bJ (hU k sk) _;by_cases ax:(eb c w i)[k].1.1=ha
   ·by_cases aU:(eb c w i)[k].1.2.2.2.1=1<;>simp_all
   simp_all
  grind [bc,as',aH]
 ·simp_all[dA]
theorem atb{a b:Int}{s:Int×Int}(h:b<=s.1):mo a b s=0:=by unfold mo;omega
def uS:z3'->Prop
 | []=>True
 | s::r=>s.1<=s.2/\(∀ t∈r,s.2<t.1)/\uS r
theorem RF:∀ (cl:z3') (a b n:Int),cl.foldl (λn s=>n - mo a b s) n=n - (cl.map (mo a b)).sum
 | [],a,b,n=>by simp
 | s::r,a,b,n=>by simp;rw[RF r];omega
theorem acY:∀ (cl:z3') (a b:Int),uS cl->a<=b->(cl.map (mo a b)).sum<=b - a
 | [],a,b,_,h=>by grind
 | s::r,a,b,⟨E,M,ai⟩,h=>by
  by_cases V:s.2+1<=b
  ·have aP:=acY r (max a (s.2+1)) b ai (by omega);grind [mo,List.map_congr_left]
  ·have e:∀ l:z3',(∀ t∈l,b<=t.1)->(l.map (mo a b)).sum=0:=by
    intro l;induction l with
    | nil=>simp
    | cons t l aP=>
     grind [atb]
   grind [mo]
theorem acZ:∀ (cl:z3'),(∀ i,(h:i+1<cl.length)->cl[i].2<cl[i+1].1)->(∀ s∈cl,s.1<=s.2)->uS cl
 | [],_,_=>trivial
 | s::r,h,M=>by
  have U:=acZ r (λi D=>by have:=h (i+1) (by grind);grind) λt aT=>M t (by grind);refine⟨M s (by simp),?_,U⟩;cases r with
  | nil=>simp
  | cons t r=>
   have aZ:=h 0 (by simp);simp at aZ;intro u hu;rcases List.mem_cons.1 hu with rfl | hu
   ·omega
   ·have:=U.2.1 u hu;grind
theorem hC.atc{c:aW}(h:hC c):uS c.2.2.2.1:=by
 have hc:=h.jV;unfold CC at hc;rw[aKu]at hc;refine acZ _ (λi D=>?_) λs az=>(h.RC.2 s az).2.1;have:=hc (i+1) (by grind);grind [ks]
theorem atd{cl:z3'}{a b:Int}(h:uS cl)(Gl:a<=b):0<=ly cl a b:=by
 simp_all[ly,RF,acY]
theorem ac0:∀ (cl:z3') (a b:Int),0<=(cl.map (mo a b)).sum
 | [],_,_=>by simp
 | s::r,a,b=>by
  have:=ac0 r a b;grind [mo]
theorem ate{cl:z3'}{a b:Int}:ly cl a b<=b - a:=by
 unfold ly;rw[RF];have:=ac0 cl a b;omega
theorem atf{cl:z3'}{ha:Int}{l:List bY}{m:Int}(h:xT cl ha l=some m):∃ i,∃ D:i+1<l.length,l[i].1.1=ha/\ey l[i].1=1/\m=ly cl l[i].2 l[i+1].2:=by
 unfold xT at h;rw[aKt]at h;obtain⟨p,aq,rfl⟩:=h;obtain⟨i,D,rfl⟩:=List.mem_iff_getElem.1 (aKn aq);obtain⟨ea,e⟩:=acX D;grind
theorem wz{c:aW}(aA:hC c){w:z1'}(M:j' c w){ha m:Int}(h:hD c w ha=some m):0<=m/\m<=11000:=by
 obtain⟨u,_,hu⟩:=List.exists_of_findSome?_eq_some h;obtain⟨i,D,_,_,rfl⟩:=atf hu;have aq:=RE aA M D;have hm:=atd aA.atc aq.2.2.1;have bf:=KJ aA M (Gs (ajj D));have b2:=@ate c.2.2.2.1 (eb c w u)[i].2 (eb c w u)[i+1].2;grind
def wA(c:aW)(w:z1')(atg:Int):Int:=(dv c).foldl (λn s=>if (ey s=1/\i_ s=atg)/\(hD c w (jm s)).isSome=true then n+jH c.2.2.2.2 ((hD c w (jm s)).getD 0) else n) 0
abbrev KK:aF:=⟨.ar hk (.ar dV bp),bp,λx=>cA x.1=0/\j' x.1 x.2.1,λx=>wA x.1 x.2.1 x.2.2⟩
theorem ac1{c:aW}{w:z1'}{ha:Int}(h:cA c=0)(M:j' c w):Gr.sh (c,w,ha)=mpure ((hD c w ha).getD (-1)):=bJ ⟨h,M⟩ _
theorem ath(x):aR (abJ qq.sh xP.sh Gr.sh x) (KK.sh x):=bg λh=>by
 obtain⟨c,w,g⟩:=x;obtain⟨E,M⟩:=h;change cA c=0 at E;have aA:=ja E;have af:=aA.CL;unfold abJ e_ bU cR aL b1 aG aB bj a7 ay a6 bT fY;rw[show xP.sh c=mpure (dv c) from bJ aA.fB _,aH];rw[d' (dv c) (λi n=>(w,g,dv c,n,(i:Int),c,())) (λs n=>.next (if (ey s=1/\i_ s=g)/\(hD c w (jm s)).isSome=true then n+jH c.2.2.2.2 ((hD c w (jm s)).getD 0) else n)) (λn=>.next (n,())) (λi n=>0<=n/\n<=100000*i) 0 ?_ ?_ ?_ ?_]
 ·rw[cU,aH];rfl
 ·rfl
 ·omega
 ·intro i D n aC;have hw:=bc (n:=i+1) (by omega) (by omega);have RG:∀ m,hD c w (jm (dv c)[i])=some m->wy (c.2.2.2.2,m):=λm hm=>⟨aA.xR,by have:=wz aA M hm;omega,by have:=wz aA M hm;omega⟩
  refine⟨?_,λbl da=>?_⟩
  ·simp only[c_ D,ac1 E M];by_cases ax:(dv c)[i].2.2.2.1=1
   ·by_cases aU:(dv c)[i].2.2.2.2.2=g
    ·cases dt:hD c w (dv c)[i].1 with
     | none=>
      simp_all
     | some m=>
      have V:=wz aA M dt;have aq:=KH (RG m dt);have ft:=bc (n:=n+jH c.2.2.2.2 m) (by omega) (by omega);simp;rw[show qq.sh (c.2.2.2.2,m)=mpure (jH c.2.2.2.2 m) from bJ (RG m dt) _];simp_all
    simp_all
   simp_all
  ·simp  at da;subst da;split
   ·rename_i hc;obtain⟨m,hm⟩:=Option.isSome_iff_exists.1 hc.2;have:=KH (RG m hm);grind
   omega
 simp
def qs(c:aW)(ha:Int):Bool:=(dv c).any λs=>jm s == ha&&ey s == 1
abbrev KL:aF:=⟨.ar hk bp,dm,λx=>jw x.1,λx=>qs x.1 x.2⟩
theorem ati(x):aR (abZ xP.sh x) (KL.sh x):=bg λh=>by
 obtain⟨c,n⟩:=x;unfold abZ bU dn aL aQ aB bj b_ a7 ay hy;rw[show xP.sh c=mpure (dv c) from bJ h _,aH];have af:=asJ c;rw[db (dv c) (λi (_)=>(n,dv c,(i:Int),())) (λs b=>if (jm s == n&&ey s == 1)=true then .done (.done true) else .next b) (λ_=>.next ()) () ?_ ?_ ?_]
 ·rw[n2];show _=mpure (qs c n);unfold qs;cases (dv c).any λs=>jm s == n&&ey s == 1<;>simp
 ·rfl
 ·intro i D b;have hw:=bc (n:=i+1) (by omega) (by omega);by_cases ax:(dv c)[i].1=n
  ·by_cases aU:(dv c)[i].2.2.2.1=1<;>simp_all
  simp_all
 simp
def so(c:aW)(w:z1'):Bool:=(List.range w.length).all λi=>cg (w.getD i 0) (c.1.getD i (0,0)).1 (c.1.getD i (0,0)).2
def iF(c:aW)(w:z1'):Bool:=decide (w.length=c.1.length)&&so c w&&(dA 0 9).all λu=>fO (ct c w u)
theorem RH{c:aW}(aA:hC c){w:z1'}(af:w.length=c.1.length)(h:so c w=true):j' c w:=by
 refine⟨af,λn aC=>?_⟩;obtain⟨i,D,rfl⟩:=List.mem_iff_getElem.1 aC;unfold so at h;rw[aKu]at h;have E:=h i (by grind);rw[uO D,uO (by omega),ra]at E;have:=aA.clk _ (ajj (by omega:i<c.1.length));omega
abbrev KM:aF:=⟨.ar hk dV,dm,λx=>cA x.1=0/\x.2.length<=3,λx=>iF x.1 x.2⟩
theorem atj(x):aR (ab3 cS.sh CM.sh x) (KM.sh x):=bg λh=>by
 obtain⟨c,w⟩:=x;obtain⟨h,ai⟩:=h;change w.length<=3 at ai;have aA:=ja h;unfold ab3 dn aL bN aG aQ aB bj b_ a7 ay hy hO a6 bT kJ;show _=mpure (iF c w);unfold iF;simp only[ch];by_cases af:w.length=c.1.length
 ·rw[db (List.range w.length) (λi (_)=>(w,(i:Int),c,())) (λi b=>if (!cg (w.getD i 0) (c.1.getD i (0,0)).1 (c.1.getD i (0,0)).2)=true then .done (.done false) else .next b) (λ_=>.next (w,c,())) () ?_ ?_ ?_]
  ·rw[j9   _ _ (λ_=>rfl)];have RI:((List.range w.length).all λi=>cg (w.getD i 0) (c.1.getD i (0,0)).1 (c.1.getD i (0,0)).2)=so c w:=rfl;rw[RI];cases iG:so c w with
   | false=>simp
   | true=>
    have M:=RH aA af iG;simp only[if_true,aH,cp];rw[db (dA 0 9) (λi (_)=>(w,(i:Int),c,())) (λu b=>if (!fO (ct c w u))=true then .done (.done false) else .next b) (λ_=>.next ()) () ?_ ?_ ?_]
    ·rw[j9   _ _ (λ_=>rfl)];cases (dA 0 9).all λu=>fO (ct c w u)<;>simp[af]
    ·rfl
    ·intro i D b;have D:=by simpa [dA]using D
     have hw:=bc (n:=i+1) (by omega) (by omega);have an:decide ((i:Int)<=9)=true:=by grind
     simp only[an,if_true,pB,aK7];rw[of_eq h M];simp only[aH,cy,hw];exact lu (mk:=λ(_)=>(w,((i+1):Int),c,()))
    ·intro b;rfl
  ·rfl
  ·intro i D b;have D:i<w.length:=by grind
   have ea:i<c.1.length:=by omega
   have hw:=bc (n:=i+1) (by omega) (by omega);simp only[cT D,cE D,cE ea,bS,cy,hw,aF.sh,rE,h1,eV,aH,aJ6];exact lu (mk:=λ(_)=>(w,((i+1):Int),c,()))
  simp
 grind
def jI:z3'->Nat
 | []=>1
 | s::r=>(s.2 - s.1+1).toNat*jI r
def l1(c:aW):z3'->z1'->List (z1')
 | [],w=>if iF c w=true then [w] else []
 | s::r,w=>(dA s.1 s.2).flatMap λn=>l1 c r (w++[n])
theorem RJ{ag bet:Type}(f:ag->List bet)(k:Nat):∀ (l:List ag),(∀ x∈l,(f x).length<=k)->(l.flatMap f).length<=l.length*k
 | [],_=>by simp
 | x::l,h=>by
  simp only[aKN];have:=RJ f k l λy bh=>h y (by grind);grind
theorem Gt(c:aW):∀ (r:z3') (w:z1'),(l1 c r w).length<=jI r
 | [],w=>by grind [l1,jI]
 | s::r,w=>by
  unfold l1 jI;have:=RJ (λn=>l1 c r (w++[n])) (jI r) (dA s.1 s.2) λn _=>Gt c r _;grind [uD]
abbrev atk(f:Nat)(x:aW×z1'):Prop:=cA x.1=0/\x.2.length<=x.1.1.length/\x.1.1.length<x.2.length+f/\jI (x.1.1.drop x.2.length)<=60
abbrev xU(f:Nat):aF:=⟨.ar hk dV,.slice dV,atk f,λx=>l1 x.1 (x.1.1.drop x.2.length) x.2⟩
theorem atl(x):¬((xU 0).sh x).et:=λh=>by have E:=h.2.1;have M:=h.2.2.1;omega
theorem RL{ag bet:Type}(f:ag->List bet):∀ (l:List ag) (b:List bet),l.foldl (λb x=>b++f x) b=b++l.flatMap f
 | [],b=>by simp
 | x::l,b=>by simp only[aKd,aKG];rw[RL f l,aK1]
theorem atm(f:Nat)(x):aR (abY (xU f).sh KM.sh x) ((xU (f+1)).sh x):=bg λh=>by
 obtain⟨c,w⟩:=x;obtain⟨E,M,ai,bf⟩:=h;change cA c=0 at E;change w.length<=c.1.length at M;have aA:=ja E;have aC:=aA.dI;unfold abY aL bN aG aQ aB bj a7 ay dN cM a6 bT;simp only[ch];by_cases af:w.length=c.1.length
 ·rw[show KM.sh (c,w)=mpure (iF c w) from bJ ⟨E,show w.length<=3 by omega⟩ _,aH];grind [l1]
 ·have cF:w.length<c.1.length:=by omega
  rw[if_neg (by grind),bb (show (0)<=(w.length:Int)/\w.length<(c.1.length:Int) by omega)];rw[aJ9 cF]at bf ⊢;simp only[ajr,uO cF];have az:=aA.clk _ (ajj cF);generalize oL:c.1[w.length]=s at *
  unfold jI at bf;have ah:=by
   have:1<=(s.2 - s.1+1).toNat:=by omega
   exact aKa (by simpa using ajo (jI (c.1.drop (w.length+1))) this) bf
  have Ab:∀ n,(xU f).sh (c,[]++w++[n])=mpure (l1 c (c.1.drop (w.length+1)) (w++[n])):=by
   intro n;refine (bJ ⟨E,?_,?_,?_⟩ _).trans (congrArg mpure ?_)<;>grind
  rw[d' (dA s.1 s.2) (λi bo=>(w,s.1+i,c,bo,s,())) (λn bo=>.next (bo++l1 c (c.1.drop (w.length+1)) (w++[n]))) (λbo=>.next (bo,())) (λi bo=>bo.length<=i*jI (c.1.drop (w.length+1))) [] ?_ ?_ ?_ ?_]
  ·rw[cU,aH,RL];rfl
  ·simp
  ·simp
  ·intro i D bo au;rw[uD]at D;have hw:=bc (n:=s.1+i+1) (by omega) (by omega);have hle:=Gt c (c.1.drop (w.length+1)) (w++[s.1+i]);have ac2:bo.length+(l1 c (c.1.drop (w.length+1)) (w++[s.1+i])).length<=60:=by
    have:(i+1)*jI (c.1.drop (w.length+1))<=(s.2 - s.1+1).toNat*jI (c.1.drop (w.length+1)):=ajo _ (by omega);grind
   refine⟨?_,λbl da=>?_⟩
   ·simp only[Ab,eV,pB];rw[bb (ez (by grind)),bb (ez (by grind)),bb (ez (by grind))];simp;grind
   grind [pB]
  grind [uD,aH]
abbrev dr(c:aW):List (z1'):=l1 c c.1 []
def atn(c:aW):Prop:=cA c=0->jI c.1<=60
def gx(c:aW):Prop:=Kw c/\atn c
theorem gx.fB{c:aW}(h:gx c):jw c:=by
 obtain⟨⟨E,M,ai,bf⟩,_⟩:=h;exact⟨by omega,by omega,by omega,by omega⟩
def dF(c:aW)(b:Bool):List (z1')×Int:=if cA c≠0 then ([],cA c) else if b=false then ([],1) else if dr c=[] then ([],3) else (dr c,0)
abbrev qt:aF:=⟨.ar hk dm,.ar (.slice dV) bp,λx=>gx x.1,λx=>dF x.1 x.2⟩
theorem RM(x):aR (abF gR.sh (xU 5).sh x) (qt.sh x):=bg λh=>by
 obtain⟨c,b⟩:=x;unfold abF aG aB;show _=mpure (dF c b);unfold dF;rw[show gR.sh c=mpure (cA c) from bJ h.fB _];simp;by_cases hc:cA c=0
 ·simp  [hc];have aA:=ja hc;have:=aA.dI;cases b with
  | false=>rfl
  | true=>
   rw[show (xU 5).sh (c,[])=mpure (dr c) from bJ ⟨hc,aKr _,show c.1.length<0+5 by omega,h.2 hc⟩ _];by_cases aT:dr c=[]<;>simp_all
 grind
theorem RN(c:aW):∀ (r:z3') (w x:z1'),x∈l1 c r w->iF c x=true
 | [],w,x,h=>by
  grind [l1]
 | s::r,w,x,h=>by
  unfold l1 at h;rw[aLl]at h;obtain⟨n,_,aC⟩:=h;exact RN c r _ x aC
theorem CP{c:aW}(h:cA c=0){w:z1'}(hw:iF c w=true):j' c w:=by
 grind [iF,RH,ja]
theorem KN{c:aW}{w:z1'}(hw:iF c w=true){u:Int}(hu:0<=u/\u<=9):fO (ct c w u)=true:=by
 grind [iF,r']
theorem rf{c:aW}{b:Bool}{w:z1'}(h:w∈(dF c b).1):cA c=0/\w∈dr c/\iF c w=true/\j' c w:=by
 grind [dF,RN,CP]
theorem CQ{c:aW}{b:Bool}(h:gx c):(dF c b).1.length<=60:=by
 unfold dF;split
 ·simp
 ·have hc:cA c=0:=by omega
  split
  ·simp
  ·split
   ·simp
   ·exact aKa (Gt c _ _) (h.2 hc)
def Ac:Option (Int×Int)->Int->Int×Int
 | none,n=>(n,n)
 | some s,n=>(min s.1 n,max s.2 n)
def xV(l:z1'):Option (Int×Int):=l.foldl (λo n=>some (Ac o n)) none
def sq(l:z1'):Int×Int:=(xV l).getD (0,0)
theorem KO{ag A rho:Type}{body:A->G (bq A rho)}{s0:A}(l:List ag)(qu:ag->Int)(mk:Nat->Int×Int->A)(fin:Int×Int->rho)(mW:s0=mk 0 (0,0))
  (az:∀ i (h:i<l.length) s,body (mk i s)=mpure (.next (mk (i+1) (if i=0 then (qu l[i],qu l[i]) else (min s.1 (qu l[i]),max s.2 (qu l[i]))))))
  (aw:∀ s,body (mk l.length s)=mpure (.done (fin s))):dG body s0=mpure (fin (sq (l.map qu))):=by
 rw[d' l (λi o=>mk i (o.getD (0,0))) (λy o=>.next (some (Ac o (qu y)))) (λo=>fin (o.getD (0,0))) (λi o=>o=none<->i=0) none mW (by simp) ?_ ?_]
 ·rw[cU];unfold sq xV;rw[aLA]
 ·intro i D o au;refine⟨?_,λbl da=>?_⟩
  ·rw[az i D];cases o with
   | none=>rw[if_pos (au.1 rfl)];rfl
   | some s=>rw[if_neg (λh=>by grind)];rfl
  grind
 grind
theorem KP(s:Int×Int)(n:Int)(i:Nat):z6.sh (s,n,decide ((i:Int)=0))=mpure (if i=0 then (n,n) else (min s.1 n,max s.2 n)):=by
 show mpure (if decide ((i:Int)=0)=true then (n,n) else (min s.1 n,max s.2 n))=_;simp
theorem Gu{c:aW}{b:Bool}(h:gx c):qt.sh (c,b)=mpure (dF c b):=bJ h _
theorem CR(a b c:Int):cS.sh (a,b,c)=mpure (cg a b c):=rfl
def h7(c:aW)(ha:Int):z1'×Int:=if (dF c (qs c ha)).2≠0 then ([],(dF c (qs c ha)).2) else if (dF c (qs c ha)).1.filterMap (λw=>hD c w ha)=[] then ([],3) else ((dF c (qs c ha)).1.filterMap (λw=>hD c w ha),0)
abbrev CS:aF:=⟨.ar hk bp,.ar dV bp,λx=>gx x.1,λx=>h7 x.1 x.2⟩
theorem ac3{ag bet:Type}{g:ag->Option bet}:∀ (l:List ag) (b:List bet),l.foldl (λb x=>b++(g x).toList) b=b++l.filterMap g
 | [],b=>by simp
 | x::l,b=>by
  simp only[aKd];rw[ac3 l];grind
theorem ato(x):aR (abI qt.sh KL.sh Gr.sh x) (CS.sh x):=bg λh=>by
 obtain⟨c,n⟩:=x;unfold abI cR aL b1 aG aQ aB bj a7 ay cM a6 bT eS fY;show _=mpure (h7 c n);unfold h7;rw[show KL.sh (c,n)=mpure (qs c n) from bJ h.fB _];simp only[h1,eV,Gu h,bS];have af:=CQ (b:=qs c n) h;have V:∀ w∈(dF c (qs c n)).1,cA c=0/\j' c w:=λw hw=>⟨(rf hw).1,(rf hw).2.2.2⟩
 generalize dF c (qs c n)=ec at *
 by_cases he:ec.2=0
 ·simp only[he,ajq];rw[d' ec.1 (λi bo=>(n,ec.1,(i:Int),c,bo,())) (λw bo=>.next (bo++(hD c w n).toList)) (λbo=>.next (bo,())) (λi bo=>bo.length<=i) [] ?_ (by simp) ?_ ?_]
  ·rw[cU,aH,cp,ac3  ];by_cases bD:ec.1.filterMap (λw=>hD c w n)=[]
   ·grind
   ·simp[bD]
  ·rfl
  ·intro i D bo au;have hw:=bc (n:=i+1) (by omega) (by omega);obtain⟨E,M⟩:=V _ (ajj D);refine⟨?_,λbl da=>?_⟩
   ·simp only[ch,cT D,if_true,c_ D,cE D,bS,ac1 E M,h1,eV];cases dt:hD c ec.1[i] n with
    | none=>
     simp_all
    | some m=>
     have:=wz (ja E) M dt;rw[if_pos (by grind),bb (ez (by grind)),aH];simp_all
   grind
  simp
 grind
theorem ac4{c:aW}{n:Int}(h:gx c):(h7 c n).1.length<=60:=by
 unfold h7;have af:=CQ (b:=qs c n) h;grind
theorem atp{c:aW}{n m:Int}(hm:m∈(h7 c n).1):cA c=0/\∃ w,j' c w/\hD c w n=some m:=by
 unfold h7 at hm;split at hm
 ·grind
 ·split at hm
  ·grind
  ·rw[List.mem_filterMap]at hm;obtain⟨w,hw,he⟩:=hm;obtain⟨E,_,_,M⟩:=rf hw;grind
def Ad(c:aW)(n:Int):(Int×Int)×Int:=(sq (h7 c n).1,(h7 c n).2)
abbrev xW:aF:=⟨.ar hk bp,.ar mn bp,λx=>gx x.1,λx=>Ad x.1 x.2⟩
theorem atq(x):aR (abe z6.sh CS.sh x) (xW.sh x):=bg λh=>by
 obtain⟨c,n⟩:=x;unfold abe bU dn aL aQ bj a7 ay bT;show _=mpure (Ad c n);unfold Ad;rw[show CS.sh (c,n)=mpure (h7 c n) from bJ h _];simp only[aH];have af:=ac4 (n:=n) h;generalize h7 c n=ec at *
 rw[KO ec.1 (λm=>m) (λi s=>(ec.1,ec.2,(i:Int),(0,0),s,())) (λs=>.next (ec.2,(0,0),s,())) ?_ ?_ ?_]
 ·simp
 ·rfl
 ·intro i D s;have hw:=bc (n:=i+1) (by omega) (by omega);simp only[ch,cT D,c_ D,cE D,cy,hw,eV];rw[KP];simp
 simp
def Ae(c:aW)(n:Int):(Int×Int)×Int:=(sq ((h7 c n).1.map λm=>jH c.2.2.2.2 m),(h7 c n).2)
abbrev xX:aF:=⟨.ar hk bp,.ar mn bp,λx=>gx x.1,λx=>Ae x.1 x.2⟩
theorem atr(x):aR (abf qq.sh z6.sh CS.sh x) (xX.sh x):=bg λh=>by
 obtain⟨c,n⟩:=x;unfold abf bU dn aL aQ bj a7 ay bT fY;show _=mpure (Ae c n);unfold Ae;rw[show CS.sh (c,n)=mpure (h7 c n) from bJ h _];simp only[aH];have af:=ac4 (n:=n) h;have V:∀ m∈(h7 c n).1,wy (c.2.2.2.2,m):=by
  intro m hm;obtain⟨E,w,M,ai⟩:=atp hm;have:=wz (ja E) M ai;exact⟨(ja E).xR,show -100000<=m by omega,show m<=20000 by omega⟩
 generalize h7 c n=ec at *
 rw[KO ec.1 (λm=>jH c.2.2.2.2 m) (λi s=>(ec.1,ec.2,(i:Int),c,(0,0),s,())) (λs=>.next (ec.2,(0,0),s,())) ?_ ?_ ?_]
 ·simp
 ·rfl
 ·intro i D s;have hw:=bc (n:=i+1) (by omega) (by omega);simp only[ch,cT D,c_ D,cE D,cy,hw];rw[show qq.sh (c.2.2.2.2,ec.1[i])=mpure (jH c.2.2.2.2 ec.1[i]) from bJ (V _ (ajj D)) _];rw[KP];simp
 simp
def xY(c:aW)(g:Int):(Int×Int)×Int:=(sq ((dF c (cg g 0 99)).1.map λw=>wA c w g),(dF c (cg g 0 99)).2)
abbrev xZ:aF:=⟨.ar hk bp,.ar mn bp,λx=>gx x.1,λx=>xY x.1 x.2⟩
theorem ats(x):aR (abg qt.sh cS.sh z6.sh KK.sh x) (xZ.sh x):=bg λh=>by
 obtain⟨c,g⟩:=x;unfold abg bU dn aL aQ bj a7 ay bT eS fY;show _=mpure (xY c g);unfold xY;rw[CR];simp only[eV,Gu h];have af:=CQ (b:=cg g 0 99) h;have V:∀ w∈(dF c (cg g 0 99)).1,KK.sh (c,w,g)=mpure (wA c w g):=λw hw=>bJ ⟨(rf hw).1,(rf hw).2.2.2⟩ _;generalize dF c (cg g 0 99)=ec at *
 rw[KO ec.1 (λw=>wA c w g) (λi s=>(g,ec.1,ec.2,(i:Int),c,(0,0),s,())) (λs=>.next (ec.2,(0,0),s,())) ?_ ?_ ?_]
 ·simp
 ·rfl
 ·intro i D s;have hw:=bc (n:=i+1) (by omega) (by omega);simp only[ch,cT D,c_ D,cE D,cy,hw,V _ (ajj D),eV];rw[KP];simp
 simp
def x0(c:aW)(t:Int):(Int×Int)×Int:=(sq ((dF c (cg t 0 9999)).1.map λw=>tp c w t*c.2.2.2.2.2.2.2.2.2.2),(dF c (cg t 0 9999)).2)
abbrev x1:aF:=⟨.ar hk bp,.ar mn bp,λx=>gx x.1,λx=>x0 x.1 x.2⟩
theorem att(x):aR (abi qt.sh cS.sh z6.sh KI.sh x) (x1.sh x):=bg λh=>by
 obtain⟨c,t⟩:=x;unfold abi bU dn aL aQ bj a7 ay bT eS fY;show _=mpure (x0 c t);unfold x0;rw[CR];simp only[eV,Gu h];have af:=CQ (b:=cg t 0 9999) h;have V:∀ w∈(dF c (cg t 0 9999)).1,cA c=0/\KI.sh (c,w,t)=mpure (tp c w t):=λw hw=>⟨(rf hw).1,bJ ⟨(rf hw).1,(rf hw).2.2.2⟩ _⟩
 generalize dF c (cg t 0 9999)=ec at *
 rw[KO ec.1 (λw=>tp c w t*c.2.2.2.2.2.2.2.2.2.2) (λi s=>(t,ec.1,ec.2,(i:Int),c,(0,0),s,())) (λs=>.next (ec.2,(0,0),s,())) ?_ ?_ ?_]
 ·simp
 ·rfl
 ·intro i D s;have hw:=bc (n:=i+1) (by omega) (by omega);obtain⟨E,M⟩:=V _ (ajj D);have au:=acV c ec.1[i] t;have aq:=(CO.1 (ja E).xR).2.2.2.2.2.2;have lW:=Int.mul_nonneg au.1 aq.1;have b_:=Int.mul_le_mul au.2 aq.2 aq.1 (by omega);have ft:=bc (n:=tp c ec.1[i] t*c.2.2.2.2.2.2.2.2.2.2) (by omega) (by omega);simp only[ch,cT D,c_ D,cE D,cy,hw,M,eV,ft];rw[KP];simp
 simp
def sr(u t:Int):Bool:=cg u 0 9&&cg t 0 9999
def KQ(c:aW)(u t:Int):z1':=(dF c (sr u t)).1.map λw=>(jb (eb c w u) t).1
def n5(c:aW)(u t:Int):z1'×Int:=((dA (-1) 99).filter λg=>(KQ c u t).contains g,(dF c (sr u t)).2)
abbrev x2:aF:=⟨.ar hk (.ar bp bp),.ar dV bp,λx=>gx x.1,λx=>n5 x.1 x.2.1 x.2.2⟩
theorem atu(x):aR (abh i'.sh qt.sh cS.sh xS.sh x) (x2.sh x):=bg λh=>by
 obtain⟨c,u,t⟩:=x;unfold abh dn aL b1 bN aG aQ bj a7 ay cM bT eS;show _=mpure (n5 c u t);unfold n5 KQ;rw[CR,CR];simp only[h1,eV,Gu h,bS];rw[bb (λh=>⟨⟨h,trivial⟩,trivial,trivial⟩),bb (by simp)];rw[show (cg u 0 9&&cg t 0 9999)=sr u t from rfl];have af:=CQ (b:=sr u t) h;have V:∀ w∈(dF c (sr u t)).1,xS.sh (c,w,u,t)=mpure (jb (eb c w u) t):=λw hw=>bJ ⟨(rf hw).1,(rf hw).2.2.2⟩ _;generalize dF c (sr u t)=ec at *
 rw[d' ec.1 (λi bo=>(u,t,ec.1,ec.2,(i:Int),c,bo,[],())) (λw bo=>.next (bo++[(jb (eb c w u) t).1])) (λbo=>.next (ec.2,bo,[],())) (λi bo=>bo.length=i) [] ?_ rfl ?_ ?_]
 ·rw[cU,oG,aH,cp];have gH:(ec.1.map λw=>(jb (eb c w u) t).1).length<=60:=by grind
  generalize (ec.1.map λw=>(jb (eb c w u) t).1)=pZ at *
  rw[d' (dA (-1) 99) (λi bo=>(ec.2,-1+(i:Int),pZ,bo,())) (λg bo=>.next (if pZ.contains g=true then bo++[g] else bo)) (λbo=>.next (ec.2,bo,())) (λi bo=>bo.length<=i) [] ?_ (by simp) ?_ ?_]
  ·rw[cU,Ck,aKw,aH,cp]
  ·rfl
  ·intro i D bo au;have D:=by simpa [dA]using D
   have hw:=bc (n:=-1+i+1) (by omega) (by omega);have an:decide (-1+(i:Int)<=99)=true:=by grind
   refine⟨?_,λbl da=>?_⟩
   ·simp only[pB];rw[show i'.sh (pZ,-1+i)=mpure (pZ.contains (-1+i)) from bJ (show pZ.length<2 ^ 63 by omega) _];have e:-1+((i+1))=-1+(i:Int)+1:=by omega
    cases pZ.contains (-1+i) with
    | true=>
     simp only[if_true];rw[bb (ez (by grind)),aH];simp_all
    | false=>
     simp_all
   grind
  ·have:(dA (-1) 99).length=101:=by decide
   simp_all
 ·rfl
 ·intro i D bo au;have hw:=bc (n:=i+1) (by omega) (by omega);refine⟨?_,λbl da=>?_⟩
  ·simp only[ch,cT D,c_ D,cE D,bS,cy,hw,V _ (ajj D),h1,eV];rw[bb (ez (by grind))];rfl
  grind
 simp
def x3(c:aW)(w:z1')(u t:Int):Bool:=decide ((jb (eb c w u) t).1>=0)&&decide (ly c.2.2.2.1 (jb (eb c w u) t).2 t>=c.2.2.2.2.2.2.2.2.1)
def ka(c:aW)(l:List (z1'))(u t:Int):Nat:=(l.filter λw=>x3 c w u t).length
def nF(c:aW)(t:Int):z1'×z1'×Int:=
 if (dF c (cg t 0 9999)).2≠0 then ([],[],(dF c (cg t 0 9999)).2)
 else ((dA 0 9).filter (λu=>decide (ka c (dF c (cg t 0 9999)).1 u t=(dF c (cg t 0 9999)).1.length)),(dA 0 9).filter (λu=>decide (ka c (dF c (cg t 0 9999)).1 u t > 0)),0)
abbrev x4:aF:=⟨.ar hk bp,.ar dV (.ar dV bp),λx=>gx x.1,λx=>nF x.1 x.2⟩
theorem RO:∀ (l:List bY) (t:Int) (b:Int×Int),(∀ e∈l,(0<=i_ e.1))->(l.foldl (λb e=>if e.2<=t then (if ey e.1=2 then (-1,e.2) else (i_ e.1,e.2)) else b) b=b\/∃ e∈l,e.2<=t/\l.foldl (λb e=>if e.2<=t then (if ey e.1=2 then (-1,e.2) else (i_ e.1,e.2)) else b) b=(if ey e.1=2 then (-1,e.2) else (i_ e.1,e.2)))
 | [],t,b,_=>.inl rfl
 | x::l,t,b,h=>by
  by_cases al:x.2<=t
  ·rcases RO l t (if ey x.1=2 then (-1,x.2) else (i_ x.1,x.2)) λe he=>h e (by grind) with E | ⟨e,he,E,M⟩<;>grind
  ·rcases RO l t b λe he=>h e (by grind) with E | ⟨e,he,E,M⟩<;>grind
theorem ac5{c:aW}(aA:hC c){w:z1'}(M:j' c w){u t:Int}(aT:t<=9999)(h:(jb (eb c w u) t).1>=0):CN (c,(jb (eb c w u) t).2,t):=by
 rcases RO (eb c w u) t (-1,0) (λe he=>((z_.1 (aA.z' (Gp (Gs he)).1)).2.2.2.2.1).1) with E | ⟨e,he,E,ai⟩
 ·unfold jb at h;grind
 ·have:=KJ aA M (Gs he);have aU:(jb (eb c w u) t).2=e.2:=by
   unfold jb;grind
  exact⟨aA.RC,by grind,by grind,show t<=11000 by omega⟩
theorem atv(x):aR (abk qt.sh cS.sh xS.sh qp.sh x) (x4.sh x):=bg λh=>by
 obtain⟨c,t⟩:=x;unfold abk cR aL b1 aG aQ aB bj a7 ay cM a6 bT eS fY;show _=mpure (nF c t);unfold nF;rw[CR];simp only[h1,eV,Gu h,bS];have af:=CQ (b:=cg t 0 9999) h;have V:∀ w∈(dF c (cg t 0 9999)).1,cA c=0/\j' c w/\t<=9999:=by
  intro w hw;refine⟨(rf hw).1,(rf hw).2.2.2,?_⟩;cases D:cg t 0 9999 with
  | true=>exact (ra.1 D).2
  | false=>
   unfold dF at hw;grind
 generalize dF c (cg t 0 9999)=ec at *
 by_cases he:ec.2=0
 ·simp only[he,ajq];rw[d' (dA 0 9) (λi b=>(t,ec.1,(i:Int),c,b.1,b.2,())) (λu b=>.next (if decide (ka c ec.1 u t=ec.1.length)=true then b.1++[u] else b.1,if decide (ka c ec.1 u t > 0)=true then b.2++[u] else b.2)) (λb=>.next (b.1,b.2,())) (λi b=>b.1.length<=i/\b.2.length<=i) ([],[]) ?_ (by simp) ?_ ?_]
  ·rw[cU,aH];have key:∀ (p q:Int->Bool) (l:z1') (a b:z1'),l.foldl (λz u=>(if p u=true then z.1++[u] else z.1,if q u=true then z.2++[u] else z.2)) (a,b)=(a++l.filter p,b++l.filter q):=by
    intro p q l;induction l with
    | nil=>simp
    | cons u l aP=>
     simp;grind
   rw[key (λu=>decide (ka c ec.1 u t=ec.1.length)) (λu=>decide (ka c ec.1 u t > 0))];simp
  ·rfl
  ·intro i D b jz;have D:=by simpa [dA]using D
   have hw:=bc (n:=i+1) (by omega) (by omega);have an:decide ((i:Int)<=9)=true:=by grind
   refine⟨?_,λbl da=>?_⟩
   ·simp only[an,pB,aK7];rw[d' ec.1 (λk (n:Nat)=>(t,ec.1,(i:Int),(n:Int),(k:Int),c,b.1,b.2,())) (λw n=>.next (if x3 c w i t=true then n+1 else n)) (λn=>.next (t,ec.1,i,n,c,b.1,b.2,())) (λk n=>n<=k) 0 ?_ (by simp) ?_ ?_]
    ·rw[cU];have key:∀ (l:List (z1')) (n:Nat),l.foldl (λn w=>if x3 c w i t=true then n+1 else n) n=n+ka c l i t:=by
      intro l;induction l with
      | nil=>intro n;rfl
      | cons w l aP=>
       intro n;simp;rw[aP];unfold ka;grind
     rw[key,Nat.zero_add,aH,cp];simp only[ch];have dO:bW (Add.add b.1.length (Add.add 0 1)):=ez (by grind);have jd:bW (Add.add b.2.length (Add.add 0 1)):=ez (by grind);have d1:decide ((ka c ec.1 i t:Int) > 0)=decide (ka c ec.1 i t > 0):=by simp
     have d2:decide ((ka c ec.1 i t)=(ec.1.length:Int))=decide (ka c ec.1 i t=ec.1.length):=by grind
     rw[d1];cases E:decide (ka c ec.1 i t > 0)<;>cases M:decide (ka c ec.1 i t=ec.1.length)<;>
      simp only[if_true,ajh,ajq,bb dO,bb jd,aH,cp,d2,M,cy,hw]<;>rfl
    ·rfl
    ·intro k ah n aC;have hw:=bc (n:=k+1) (by omega) (by omega);have ft:=bc (n:=n+1) (by omega) (by omega);obtain⟨E,M,ai⟩:=V _ (ajj ah);have atw:xS.sh (c,ec.1[k],i,t)=mpure (jb (eb c ec.1[k] i) t):=bJ ⟨E,M⟩ _;refine⟨?_,λbl da=>?_⟩
     ·simp only[ch,cT ah,c_ ah,cE ah,cy,atw,h1,eV];unfold x3;by_cases Gv:(jb (eb c ec.1[k] i) t).1>=0
      ·have sZ:qp.sh (c,(jb (eb c ec.1[k] i) t).2,t)=mpure (ly c.2.2.2.1 (jb (eb c ec.1[k] i) t).2 t):=bJ (ac5 (ja E) M ai Gv) _;simp only[sZ,h1,eV,Gv,aKP,aKO,aLS,bS,aK0];by_cases hm:ly c.2.2.2.1 (jb (eb c ec.1[k] i) t).2 t>=c.2.2.2.2.2.2.2.2.1
       ·simp_all
       ·simp only[hm,aKe,ajh,ajq,aH,cp,hw];rfl
      ·simp only[Gv,aKe,aLB,ajh,false_implies,bS,aKH,ajq,aH,cp,hw];rfl
     grind
    simp
   grind
  ·have:(dA 0 9).length=10:=by decide
   simp_all
 grind
abbrev l2(z:jD):aW:=(z.1,z.2.1,z.2.2.1,z.2.2.2.1,z.2.2.2.2.1,z.cz,z.er,z.fD,z.hj,z.il,z.iX)
abbrev RP(z:jD):List bC:=z.gw
abbrev ac6(z:jD):List (Option gr):=z.k2
abbrev Gw(c:aW)(l:List bC)(t:List (Option gr)):jD:=(c.1,c.2.1,c.2.2.1,c.2.2.2.1,c.2.2.2.2.1,c.2.2.2.2.2.1,c.2.2.2.2.2.2.1,c.2.2.2.2.2.2.2.1,c.2.2.2.2.2.2.2.2.1,c.2.2.2.2.2.2.2.2.2.1,c.2.2.2.2.2.2.2.2.2.2,l,t,())
def wB(l:List bC)(w:z1')(u:Int):List bY:=(l.filter λs=>decide (ql s=u)).map λs=>(s,q_ s+w.getD (na s).toNat 0)
theorem atx{l:List bC}{w:z1'}{i:Nat}(h:i<l.length)(u:Int):wB (l.take (i+1)) w u=if l[i].2.2.2.2.1=u then wB (l.take i) w u++[(l[i],q_ l[i]+w.getD (na l[i]).toNat 0)] else wB (l.take i) w u:=by
 unfold wB;rw[aLw,aKp h,aLL,aKX,aLs];grind
theorem ac7(l:List bC)(w:z1')(u:Int):(wB l w u).length<=l.length:=by
 unfold wB;grind
abbrev oM(c:aW)(w:z1'):List (List bY):=[ct c w 0,ct c w 1,ct c w 2,ct c w 3,ct c w 4,ct c w 5,ct c w 6,ct c w 7,ct c w 8,ct c w 9]
def uT(c:aW)(w:z1'):Bool:=(dA 0 9).all λu=>fO (ct c w u)
theorem aty(c:aW)(w:z1'):uT c w=(fO (ct c w 0)&&(fO (ct c w 1)&&(fO (ct c w 2)&&(fO (ct c w 3)&&(fO (ct c w 4)&&(fO (ct c w 5)&&(fO (ct c w 6)&&(fO (ct c w 7)&&(fO (ct c w 8)&&fO (ct c w 9)))))))))):=by
 unfold uT;rw[show dA 0 9=[0,1,2,3,4,5,6,7,8,9] from by decide];simp
abbrev atz(x:z1'×jD):Prop:=cA (l2 x.2)=0/\j' (l2 x.2) x.1/\RP x.2=dv (l2 x.2)
def wC(x:z1'×jD):G (Option gr×Bool×jD):=eL (atz x) (if uT (l2 x.2) x.1=true then (some (x.1,oM (l2 x.2) x.1),true,x.2) else (none,false,x.2))
theorem atA{bG rho:Type}{body:Int×Int×Int×bG->G (bq (Int×Int×Int×bG) rho)}(l:List bY){a n:Int}{z:bG}(bad uU:rho)
  (V:∀ i,i<l.length->body (a,n,(i:Int),z)=mpure (if (!oK l i)=true then .done bad else .next (a,n,((i+1:Nat):Int),z)))
  (he:body (a,n,(l.length:Int),z)=mpure (.done uU)):dG body (a,n,0,z)=mpure (if fO l=true then uU else bad):=by
 rw[db (List.range l.length) (λi (_:Unit)=>(a,n,(i:Int),z)) (λi b=>if (!oK l i)=true then .done bad else .next b) (λ_=>uU) () ?_ ?_ ?_]
 ·rw[j9 (q:=oK l) _ _ (λ_=>rfl)];rfl
 ·rfl
 ·intro i D b;have D:i<l.length:=by grind
  rw[V i D,aJ6];cases oK l i<;>rfl
 grind
theorem ac8{X:Type}{l:List bY}(af:l.length<=12){i:Nat}(D:i<l.length){k:Int}(ah:k=1+((i % 2:Nat):Int))(aN B:G X):Rj l l[i] i k aN B=if (!oK l i)=true then aN else B:=by
 unfold Rj;have xj:=acO l i;rw[Bool.or_comm,uO D]at xj;have ax:(decide (l[i].1.2.2.2.1≠k)||decide ((i:Int) > 0)&&decide (l[i].2=(List.getD l (Int.toNat (IntKind.wrap .i64 ((i:Int) - 1))) ((0,0,0,0,0,0),0)).2))=!oK l i:=by
  rw[<-xj,ah];rcases Nat.eq_zero_or_pos i with aZ | aZ
  ·simp_all
  ·rw[bc (n:=(i:Int) - 1) (by omega) (by omega),show ((i:Int) - 1).toNat=i - 1 from by omega]
 rw[ax];have b2:decide ((i:Int) > 0)=true->(0<=IntKind.wrap .i64 ((i:Int) - 1)/\IntKind.wrap .i64 ((i:Int) - 1)<Int.ofNat (List.length l)):=λh=>by
  have h:=aKv h;rw[bc (n:=(i:Int) - 1) (by omega) (by omega),ch];omega
 simp_all
theorem atB{l:List bY}(h:l.length<=12):Cy (sj.sh,l,())=mpure (fv h6 l,()):=bJ ⟨h,rfl⟩ _
theorem atC{l:List bC}{w:z1'}{c:aW}(af:l.length<=12)(az:∀ s∈l,nb c.1.length s=true)(hw:j' c w){i:Nat}(D:i<l.length):0<=l[i].2.2.2.2.1/\l[i].2.2.2.2.1<=9/\(0<=l[i].2.1/\l[i].2.1<(w.length:Int))/\IntKind.wrap .i64 (l[i].2.2.1+w.getD l[i].2.1.toNat 0)=l[i].2.2.1+w.getD l[i].2.1.toNat 0:=by
 have h:=z_.1 (az _ (ajj D));have E:na l[i]<(w.length:Int):=by rw[hw.1];omega
 have M:=hw.2 _ (zP (d:=0) h.2.1.1 E);have ai:=h.2.2.1;have bf:=h.2.2.2.1;exact⟨bf.1,bf.2,⟨h.2.1.1,E⟩,bc (by grind) (by grind)⟩
abbrev ml(f:Nat->List bY)(c:jD):pE:=(f 0,f 1,f 2,f 3,f 4,f 5,f 6,f 7,f 8,f 9,c)
theorem RQ{f g:Nat->List bY}(h:∀ u,u<10->f u=g u)(c:jD):ml f c=ml g c:=by
 simp only[ml,h 0 (by decide),h 1 (by decide),h 2 (by decide),h 3 (by decide),h 4 (by decide),h 5 (by decide),h 6 (by decide),h 7 (by decide),h 8 (by decide),h 9 (by decide)]
theorem RR(f:Nat->List bY)(c:jD):∀ k,k<10->n3 k (ml f c)=f k
 | 0,_ | 1,_ | 2,_ | 3,_ | 4,_ | 5,_ | 6,_ | 7,_ | 8,_ | 9,_=>rfl
 | k+10,h=>by omega
theorem ac9(f:Nat->List bY)(c:jD)(v:List bY):∀ k,k<10->Kt k v (ml f c)=ml (λj=>if j=k then v else f j) c
 | 0,_ | 1,_ | 2,_ | 3,_ | 4,_ | 5,_ | 6,_ | 7,_ | 8,_ | 9,_=>rfl
 | k+10,h=>by omega
theorem ac_{X:Type}(f:Nat->G X){v:Int}{u:Nat}(h:v=(u:Int)):∀ {n:Nat},u<=n->Kv f v n=f u
 | 0,hu=>by
  obtain rfl:u=0:=by omega
  rfl
 | n+1,hu=>by
  unfold Kv;simp only[mY,ch,h];by_cases e:u=n+1
  ·rw[if_pos (by omega),e]
  ·rw[if_neg (by omega)];exact ac_ f rfl (by omega)
theorem atD{c:aW}{w:z1'}(nu:∀ u,(ct c w u).length<=12){z:jD}{g:Nat->List bY}{k:Nat}(ah:k<10)(aA:g k=ct c w k) :
  dG (Ku k) (Int.ofNat k,Int.ofNat (List.length (ct c w k)),0,w,ml g z)=mpure (if fO (ct c w k)=true then .next (Int.ofNat k,w,ml g z) else .done (.done (none,false,z))):=by
 have ax:n3 k (ml g z)=ct c w k:=(RR g z k ah).trans aA;refine atA (ct c w k) _ _ (λi D=>?_) ?_
 ·have hw:=bc (n:=(i:Int)+1) (by omega) (by have:=nu k;omega);unfold Ku;simp only[ch,cT D,if_true,ax,cE D,c_ D,bS];rcases Nat.mod_two_eq_zero_or_one i with hm | hm
  ·have an:decide (Int.tmod (i:Int) 2=1)=false:=by rw[RB,hm];rfl
   simp only[an,ajh,ajq,HP,aH,cp];rw[bb (by decide),ax];refine (ac8 (nu k) D (by rw[hm];rfl) _ _).trans ?_;simp only[cy,hw];cases oK (ct c w k) i<;>rfl
  ·have an:decide (Int.tmod (i:Int) 2=1)=true:=by rw[RB,hm];rfl
   simp only[an,if_true,HP,aH,cp];rw[bb (by decide),ax];refine (ac8 (nu k) D (by rw[hm];rfl) _ _).trans ?_;simp only[cy,hw];cases oK (ct c w k) i<;>rfl
 ·unfold Ku;simp
theorem ac'{c:aW}{w:z1'}(hlen:∀ u,(qo c w u).length<=12)(nu:∀ u,(ct c w u).length<=12){z:jD}:∀ n k,k+n=10->
  Gc Cy sj.sh n k (w,ml (λu=>if u<k then ct c w u else qo c w u) z)=mpure (if ((List.range' k n).all λu=>fO (ct c w u))=true then .next (w,ml (λu=>ct c w u) z) else .done (none,false,z))
 | 0,k,h=>by
  unfold Gc;rw[RQ (g:=λu=>ct c w u) λu hu=>if_pos (by omega)];rfl
 | n+1,k,h=>by
  have ah:k<10:=by omega
  have az:Cy (sj.sh,qo c w k,())=mpure (ct c w k,()):=atB (hlen k);have hw:=bc (n:=(k:Int)+1) (by omega) (by omega);have aU:Kt k (ct c w k) (ml (λu=>if u<k then ct c w u else qo c w u) z)=ml (λu=>if u<k+1 then ct c w u else qo c w u) z:=by
   rw[ac9 _ _ _ _ ah];exact RQ (λu hu=>by
    by_cases e:u=k
    ·subst e;simp
    ·by_cases aU:u<k
     ·simp[e,aU,show u<k+1 by omega]
     ·simp[e,aU,show ¬u<k+1 by omega]) _
  unfold Gc;dsimp only;rw[bb (by simp only[ch];omega),RR _ _ _ ah,if_neg (Nat.lt_irrefl k),az,aH];simp only[aU];rw[atD nu ah (if_pos (aKM k)),aH,aLT,aLK];cases fO (ct c w k) with
  | false=>rfl
  | true=>
   simp only[if_true,aKO,cp];rw[bb (by simp only[ch,cy,hw];omega)];exact ac' hlen nu n (k+1) (by omega)
theorem RS(x):aR (acf uI.sh Cy sj.sh x) (wC x):=bg λh=>by
 obtain⟨w,z⟩:=x;obtain⟨E,M,ai⟩:=h;change cA (l2 z)=0 at E;change j' (l2 z) w at M;change z.gw=dv (l2 z) at ai;show _=mpure (if uT (l2 z) w=true then (some (w,oM (l2 z) w),true,z) else (none,false,z));generalize vV:l2 z=c at *
 have aA:=ja E;have af:=aA.CL;have rL:∀ s∈dv c,nb c.1.length s=true:=λs az=>aA.z' az;have aC:=aA.dI;have hlen:∀ u,(qo c w u).length<=12:=λu=>aKa (ac7 (dv c) w u) af;have nu:∀ u,(ct c w u).length<=12:=λu=>Aa aA w u;have rh:∀ u,wB z.gw w u=qo c w u:=λu=>by rw[ai];rfl
 rw[<-ai]at af rL;clear ai;unfold acf aL b1 aG aQ aB a7 ay a6;rw[show uI.sh w=mpure w from bJ (show w.length<=3000000 by have:=M.1;omega) _];simp only[aH,cp,bS];refine (congrArg (λm=>ao m _) (db z.gw (λi (_:Unit)=>(w,z.gw,(z.gw.length:Int),(i:Int),w,ml (λu=>wB (z.gw.take i) w u) z)) (λ_ b=>.next b) (λ_=>.next (w,ml (λu=>qo c w u) z)) () ?_ ?_ ?_)).trans ?_
 ·simp only[ch,List.take_zero];rfl
 ·intro i D b;obtain⟨aY,a_,b7,hg⟩:=atC (c:=c) af rL M D;have hw:=bc (n:=(i:Int)+1) (by omega) (by omega);have jz:∀ u,bW (Add.add (wB (z.gw.take i) w u).length (Add.add 0 1)):=λu=>ez (by have:=ac7 (z.gw.take i) w u;rw[aLk]at this;simp only[mY];omega);obtain⟨u,hu⟩:∃ u:Nat,z.gw[i].2.2.2.2.1=(u:Int):=⟨z.gw[i].2.2.2.2.1.toNat,by omega⟩
  have atE:u<=9:=by omega
  simp only[ch,cT D,if_true,c_ D,cE D,bS];rw[bb (show (0<=z.gw[i].2.2.2.2.1/\z.gw[i].2.2.2.2.1<((10:Nat):Int)) from⟨aY,by omega⟩),ac_ _ hu atE];unfold ace;simp only[c_ D,ch,RR _ _ u (show u<10 by omega),ac9 _ _ _ u (show u<10 by omega)];rw[bb trivial,bb (by omega),bb b7,bb (jz _),bb trivial,bb (by omega),aH,cp];simp only[cy,hw,hg];refine congrArg (λq=>mpure (bq.next (w,z.gw,(z.gw.length:Int),((i:Int)+1),w,q))) ?_;refine RQ (λj aI=>?_) _;rw[atx D,hu];by_cases e:j=u
  ·subst e;rw[if_pos rfl,if_pos rfl,<-hu]
  ·rw[if_neg e,if_neg (by omega)]
 ·intro b;simp only[aKE,rh];simp
 ·rw[cU,aH,cp];have bO:=ac' (c:=c) (w:=w) hlen nu (z:=z) 10 0 rfl;rw[bb (by decide)];rw[show (λu:Nat=>if u<0 then ct c w u else qo c w u)=λu:Nat=>qo c w u from funext λu=>if_neg (Nat.not_lt_zero u)]at bO;rw[bO,aH];have ax:((List.range' 0 10).all λu=>fO (ct c w u))=uT c w:=by
   rw[aty];simp[List.range']
  rw[ax];cases uT c w<;>rfl
abbrev kt(c:aW)(w:z1'):Option gr:=some (w,oM c w)
abbrev atF(f:Nat)(x:z1'×jD):Prop:=cA (l2 x.2)=0/\RP x.2=dv (l2 x.2)/\x.1.length<=(l2 x.2).1.length/\(l2 x.2).1.length<x.1.length+f/\so (l2 x.2) x.1=true/\(ac6 x.2).length+jI ((l2 x.2).1.drop x.1.length)<=60
def Af(f:Nat)(x:z1'×jD):G jD:=eL (atF f x) (Gw (l2 x.2) (RP x.2) (ac6 x.2++(l1 (l2 x.2) ((l2 x.2).1.drop x.1.length) x.1).map (kt (l2 x.2))))
theorem atG(x):¬(Af 0 x).et:=λh=>by have E:=h.2.2.1;have M:=h.2.2.2.1;omega
theorem atH{c:aW}{w:z1'}{n:Int}:so c (w++[n])=(so c w&&cg n (c.1.getD w.length (0,0)).1 (c.1.getD w.length (0,0)).2):=by
 unfold so;grind
theorem atI{c:aW}{w:z1'}(af:w.length=c.1.length)(h:so c w=true):iF c w=uT c w:=by
 unfold iF uT;grind
set_option maxHeartbeats 1000000 in
theorem atJ(f:Nat)(x):aR (ach (Af f) wC x) (Af (f+1) x):=bg λh=>by
 obtain⟨w,a0,cd,a2,a3,a4,a5,hF,hG,jn,a9,iK,l,t,u⟩:=x;obtain⟨E,M,ai,bf,b2,d_⟩:=h;change cA (a0,cd,a2,a3,a4,a5,hF,hG,jn,a9,iK)=0 at E;change l=dv (a0,cd,a2,a3,a4,a5,hF,hG,jn,a9,iK) at M;change w.length<=a0.length at ai;change a0.length<w.length+(f+1) at bf;change so (a0,cd,a2,a3,a4,a5,hF,hG,jn,a9,iK) w=true at b2;change t.length+jI (a0.drop w.length)<=60 at d_;show _=mpure (Gw (a0,cd,a2,a3,a4,a5,hF,hG,jn,a9,iK) l (t++(l1 (a0,cd,a2,a3,a4,a5,hF,hG,jn,a9,iK) (a0.drop w.length) w).map (kt (a0,cd,a2,a3,a4,a5,hF,hG,jn,a9,iK))));have aA:=ja E;have aC:a0.length<=3:=aA.dI;unfold ach aL b1 bN aG aQ aB hU ay cM a6;simp only[Prod.cz,Prod.er,Prod.fD,Prod.hj,Prod.il,Prod.iX,Prod.gw,Prod.k2,Prod.nC,Prod.pD,Prod.sd,Prod.se,Prod.wq,Prod.zV,Prod.wu,ch,bS];by_cases af:w.length=a0.length
 ·rw[if_pos (by simp only[ajl];omega)];have atK:j' (a0,cd,a2,a3,a4,a5,hF,hG,jn,a9,iK) w:=RH aA af b2;have au:wC (w,a0,cd,a2,a3,a4,a5,hF,hG,jn,a9,iK,l,t,())=mpure (if uT (a0,cd,a2,a3,a4,a5,hF,hG,jn,a9,iK) w=true then (kt (a0,cd,a2,a3,a4,a5,hF,hG,jn,a9,iK) w,true,a0,cd,a2,a3,a4,a5,hF,hG,jn,a9,iK,l,t,()) else (none,false,a0,cd,a2,a3,a4,a5,hF,hG,jn,a9,iK,l,t,())):=bJ ⟨E,atK,M⟩ _;rw[au,aH,af,List.drop_length];unfold l1;rw[atI af b2];cases ah:uT (a0,cd,a2,a3,a4,a5,hF,hG,jn,a9,iK) w with
  | true=>
   rw[if_pos rfl,if_pos rfl,bb (ez (by simp only[mY];omega)),aH,cp];rfl
  | false=>
   simp only[ajh,ajq,aH,cp,List.map_nil,aKg]
 ·have cF:w.length<a0.length:=by omega
  rw[if_neg (by simp only[ajl];omega),bb (show (0:Int)<=(w.length:Int)/\(w.length:Int)<(a0.length:Int) by omega)];rw[aJ9 cF]at d_ ⊢;simp only[ajr,uO cF];have az:=aA.clk _ (ajj cF);change -30<=a0[w.length].1/\a0[w.length].1<=a0[w.length].2/\a0[w.length].2<=30 at az;have oL:a0.getD w.length (0,0)=a0[w.length]:=uO cF;generalize a0[w.length]=s at *
  unfold jI at d_;have Ab:∀ n (ts:List (Option gr)),s.1<=n->n<=s.2->ts.length+jI (a0.drop (w.length+1))<=60->Af f (w++[n],a0,cd,a2,a3,a4,a5,hF,hG,jn,a9,iK,l,ts,())=mpure (Gw (a0,cd,a2,a3,a4,a5,hF,hG,jn,a9,iK) l (ts++(l1 (a0,cd,a2,a3,a4,a5,hF,hG,jn,a9,iK) (a0.drop (w.length+1)) (w++[n])).map (kt (a0,cd,a2,a3,a4,a5,hF,hG,jn,a9,iK)))):=by
   intro n ts aY a_ b7;refine (bJ ⟨E,M,?_,?_,?_,?_⟩ _).trans (congrArg mpure ?_)
   ·show Gw (a0,cd,a2,a3,a4,a5,hF,hG,jn,a9,iK) l (ts++(l1 (a0,cd,a2,a3,a4,a5,hF,hG,jn,a9,iK) (a0.drop (w++[n]).length) (w++[n])).map (kt (a0,cd,a2,a3,a4,a5,hF,hG,jn,a9,iK)))=_;rw[aKx,aLu]
   ·show (w++[n]).length<=a0.length;simp;omega
   ·show a0.length<(w++[n]).length+f;simp;omega
   ·show so (a0,cd,a2,a3,a4,a5,hF,hG,jn,a9,iK) (w++[n])=true;rw[atH,b2];show (true&&cg n (a0.getD w.length (0,0)).1 (a0.getD w.length (0,0)).2)=true;rw[oL,aKO];exact ra.2 ⟨aY,a_⟩
   ·show ts.length+jI (a0.drop (w++[n]).length)<=60;rw[aKx,aLu];exact b7
  rw[d' (dA s.1 s.2) (λi (ts:List (Option gr))=>(w,(w.length:Int),s.1+(i:Int),a0,cd,a2,a3,a4,a5,hF,hG,jn,a9,iK,l,ts,())) (λn ts=>.next (ts++(l1 (a0,cd,a2,a3,a4,a5,hF,hG,jn,a9,iK) (a0.drop (w.length+1)) (w++[n])).map (kt (a0,cd,a2,a3,a4,a5,hF,hG,jn,a9,iK)))) (λts=>(a0,cd,a2,a3,a4,a5,hF,hG,jn,a9,iK,l,ts,())) (λi ts=>ts.length<=t.length+i*jI (a0.drop (w.length+1))) t ?_ ?_ ?_ ?_]
  ·rw[cU,RL (f:=λn=>(l1 (a0,cd,a2,a3,a4,a5,hF,hG,jn,a9,iK) (a0.drop (w.length+1)) (w++[n])).map (kt (a0,cd,a2,a3,a4,a5,hF,hG,jn,a9,iK)))];rw[<-aLW];rfl
  ·rw[Int.natCast_zero,Int.add_zero]
  ·simp
  ·intro i D ts au;rw[uD]at D;have hw:=bc (n:=s.1+(i:Int)+1) (by omega) (by omega);have an:decide (s.1+(i:Int)<=s.2)=true:=by simpa using (by omega:s.1+(i:Int)<=s.2)
   have hle:=Gt (a0,cd,a2,a3,a4,a5,hF,hG,jn,a9,iK) (a0.drop (w.length+1)) (w++[s.1+(i:Int)]);have ac2:ts.length+jI (a0.drop (w.length+1))<=60:=by
    have:(i+1)*jI (a0.drop (w.length+1))<=(s.2 - s.1+1).toNat*jI (a0.drop (w.length+1)):=ajo _ (by omega);rw[Nat.succ_mul]at this;omega
   refine⟨?_,λbl da=>?_⟩
   ·simp only[ajr,oL,an,if_true,cy,hw,pB,aKE];rw[bb (by omega),bb ⟨by omega,by omega,trivial,by omega⟩,bb ⟨by simp only[mY];omega,ez (by simp only[mY];omega)⟩,Ab _ ts (by omega) (by omega) ac2,aH];simp only[bq.ls];rw[show s.1+((i+1:Nat):Int)=s.1+(i:Int)+1 from by omega]
   ·simp only[bq.next.injEq,pB]at da;subst da;rw[aKx,aKD,Nat.succ_mul];omega
  ·intro ts au;rw[uD];have an:decide (s.1+(((s.2 - s.1+1).toNat:Nat):Int)<=s.2)=false:=by simpa using (by omega:s.2<s.1+(((s.2 - s.1+1).toNat:Nat):Int))
   simp only[ajr,oL,an,ajh,ajq,aH];rw[bb (by omega)]
abbrev wD:aW:=([],[],[],[],0,0,0,0,0,0,0)
abbrev CT:aF:=⟨.ar hA (.bV hk),dm,λx=>∃ c:aW,x.2=some c/\c.2.2.1.length<2 ^ 63,λx=>(x.2.getD wD).2.2.1.contains (jm x.1)⟩
theorem RT(x):aR (abP i'.sh x) (CT.sh x):=bg λh=>by
 obtain⟨s,o⟩:=x;obtain⟨c,hc,h⟩:=h;subst hc;unfold abP;simp only[aju];rw[show i'.sh (c.2.2.1,s.1)=mpure (c.2.2.1.contains s.1) from bJ h _,aH]
abbrev wF(c:aW):hz:=(c,dv c,(dr c).map (kt c))
def Gx(c:aW)(f:Option hz->G Bool):Bool:=(f (some (c,dv c,[]))).val false
def uV(c:aW)(b:Bool):Option hz×Int:=if cA c≠0 then (none,cA c) else if b=false then (none,1) else if dr c=[] then (none,3) else (some (wF c),0)
abbrev x5:aF:=⟨.ar hk (.fn (.bV uF) .bool),.ar (.bV uF) bp,λx=>gx x.1/\(cA x.1=0->∃ b,x.2 (some (x.1,dv x.1,[]))=mpure b),λx=>uV x.1 (Gx x.1 x.2)⟩
theorem atL{c:aW}(aA:hC c):KF ((λs=>CT.sh (s,some c)),fN c.2.1,())=mpure ((0,(dv c).length),dv c++List.replicate ((fN c.2.1).length - (dv c).length) k5,()):=by
 have ab:∀ s,CT.sh (s,some c)=mpure (c.2.2.1.contains s.1):=λs=>bJ ⟨c,rfl,by have:=aA.jM;omega⟩ _;have e:((fN c.2.1).filter λs=>!(CT.sh (s,some c)).val false)=dv c:=by
  unfold dv;simp_all
 have:=Rv c.2.1;refine (bJ ⟨show (fN c.2.1).length<2 ^ 63 by omega,λs _=>⟨_,ab s⟩⟩ _).trans (congrArg mpure ?_);grind
set_option maxHeartbeats 1000000 in
theorem atM(x):aR (abl gR.sh KD KF (Af 5) CT.sh x) (x5.sh x):=bg λh=>by
 obtain⟨c,f⟩:=x;obtain⟨h,aw⟩:=h;change gx c at h;change cA c=0->∃ b,f (some (c,dv c,[]))=mpure b at aw;unfold abl b1 aG aB hU ay;show _=mpure (uV c (Gx c f));unfold uV;rw[show gR.sh c=mpure (cA c) from bJ h.fB _];simp only[aH,ajl];by_cases hc:cA c=0
 ·simp only[hc,ne_eq,not_true_eq_false,ajq];have aA:=ja hc;obtain⟨b,V⟩:=aw hc;have E:=aA.dI;have hid:=KE aA.kB;rw[show KD (c.2.1,())=mpure (true,fN c.2.1,()) from bJ ⟨hid,(xQ _).2 aA.CG⟩ _,aH];simp only[bS];rw[atL aA,aH];have uR:List.drop 0 (List.take (dv c).length (dv c++List.replicate ((fN c.2.1).length - (dv c).length) k5))=dv c:=by
   rw[List.drop_zero,List.take_left]
  simp only[uR];unfold Gx;simp only[V,eV,aH];cases b with
  | false=>simp
  | true=>
   simp only[aKo,ajh,ajq,aH,cp,reduceCtorEq];simp only[Prod.cz,Prod.er,Prod.fD,Prod.hj,Prod.il,Prod.iX,Prod.gw,Prod.k2,Prod.nC,Prod.pD,Prod.sd,Prod.se,Prod.wq,Prod.zV,Prod.wu,uR];have oL:Af 5 ([],c.1,c.2.1,c.2.2.1,c.2.2.2.1,c.2.2.2.2.1,c.2.2.2.2.2.1,c.2.2.2.2.2.2.1,c.2.2.2.2.2.2.2.1,c.2.2.2.2.2.2.2.2.1,c.2.2.2.2.2.2.2.2.2.1,c.2.2.2.2.2.2.2.2.2.2,dv c,[],())=mpure (Gw c (dv c) ((dr c).map (kt c))):=bJ ⟨hc,rfl,aKr _,show c.1.length<0+5 by omega,rfl,show 0+jI c.1<=60 by have:=h.2 hc;omega⟩ _;rw[oL,aH];simp only[ch,aKD];by_cases aT:dr c=[]
   ·simp[aT]
   ·have:¬((dr c).length:Int)=0:=λe=>aT (aKC (by omega));simp only[this,aT,ajq]
 ·simp only[hc,ne_eq,not_false_eq_true,if_true]
def CU(l:List (Option gr))(f:Option gr->G (Int×Bool)):Option (Int×Int):=xV (l.filterMap λt=>if ((f t).val (0,false)).2=true then some ((f t).val (0,false)).1 else none)
abbrev CV:aF:=⟨.ar (.bV uF) (.fn (.bV zX) (.ar bp .bool)),.ar mn .bool,λx=>∃ b:hz,x.1=some b/\b.2.2.length<=60/\∀ t∈b.2.2,∃ r,x.2 t=mpure r,λx=>((CU (x.1.getD (wD,[],[])).2.2 x.2).getD (0,0),(CU (x.1.getD (wD,[],[])).2.2 x.2).isSome)⟩
theorem ada{ag bet eK:Type}(g:ag->Option bet)(h:eK->bet->eK):∀ (l:List ag) (b:eK),l.foldl (λb x=>(g x).elim b λy=>h b y) b=(l.filterMap g).foldl h b
 | [],b=>rfl
 | x::l,b=>by
  simp;rw[ada g h l];grind
theorem atN(x):aR (abv x) (CV.sh x):=bg λh=>by
 obtain⟨o,f⟩:=x;obtain⟨b,V,af,aw⟩:=h;subst V;unfold abv aL b1 bN aG aQ aB a7 ou ay a6;simp only[aKf,bS,aju];change ∀ t∈b.2.2,∃ r,f t=mpure r at aw;generalize b.2.2=l at *
 rw[db l (λi o=>(f,o.isSome,l,(l.length:Int),(i:Int),o.getD (0,0),())) (λt o=>.next ((if ((f t).val (0,false)).2=true then some ((f t).val (0,false)).1 else none).elim o λn=>some (Ac o n))) (λo=>.next (o.isSome,o.getD (0,0),())) none ?_ ?_ ?_]
 ·rw[cU,ada (λt=>if ((f t).val (0,false)).2=true then some ((f t).val (0,false)).1 else none) (λo n=>some (Ac o n)),aH];rfl
 ·rfl
 ·intro i D o;have hw:=bc (n:=i+1) (by omega) (by omega);obtain⟨r,U⟩:=aw _ (ajj D);simp only[ch,cT D,c_ D,cE D,U,bq.ls];obtain⟨n,cv⟩:=r;cases cv with
  | false=>simp_all
  | true=>
   cases o with
   | none=>simp  [hw];rfl
   | some s=>
    simp  [hw,aju];rw[acS,acT];rfl
 simp
section
variable {ag:Type}
def adb(x:Nat×List (Int×ag)×(Nat×(z1'->Prop)×z1'×Bool)×Unit):G ((Nat×(z1'->Prop)×z1'×Bool)×Unit):=
 ao (mpure ()) λy=>dG (λ(A:Nat×(Nat×(z1'->Prop)×z1'×Bool)×(Option (Int×ag)×List (Int×ag))×Unit)=>
 ao (I0 A.2.2.1.2) λy=>if Option.isSome y=true then ao (ad (Option.isSome (po A.2.2.1.1 A.2.2.1.2 y)=true) (mpure ())) λb8
 =>ao (ad (A.1=A.2.1.1/\A.2.1.2.2.2=false/\∃ (T:z1'),A.2.1.2.1 (A.2.1.2.2.1++Option.getD (Option.map (λx=>x.1) (po
 A.2.2.1.1 A.2.2.1.2 y)) 0::T)) (any λx=>True)) λdZ=>if (!dZ)=true then ao (mpure ((A.2.1.1,A.2.1.2.1,A.2.1.2.2.1++
 [Option.getD (Option.map (λx=>x.1) (po A.2.2.1.1 A.2.2.1.2 y)) 0],!dZ),())) λr=>mpure (bq.done r) else mpure (bq.next (A.1,(A.2.1.1,A.2.1.2.1,A.2.1.2.2.1++[Option.getD (Option.map (λx=>x.1) (po A.2.2.1.1 A.2.2.1.2 y)) 0],!dZ),(po A.2.2.1.1 A.2.2.1.2 y,E6 A.2.2.1.2 y),())) else ao (mpure (A.2.1,())) λr=>mpure (bq.done r)) (x.1,x.2.2.1,(none,x.2.1),())
theorem ade{bet:Type}:∀ (l:List bet) (i:Nat) (h:i<l.length),(l[i]::l.eraseIdx i).Perm l
 | x::l,0,_=>.refl _
 | x::l,i+1,h=>by
  simp only[List.getElem_cons_succ,List.eraseIdx_cons_succ];exact (List.Perm.swap x _ _).trans ((ade l i (by grind)).cons x)
theorem adf(l:Nat)(m:List (Int×ag)):dj (adb (l,m,(l,k3 (some m),[],false),())) λy=>y.1.2.2.2=false->k3 (some m) y.1.2.2.1:=by
 unfold adb;rw[aH];refine D0 (λA=>∃ p c cK,A=(l,(l,k3 (some m),p,false),(c,cK),())/\(m.map (·.1)).Perm (p++cK.map (·.1))) (λA=>A.2.2.1.2.length) ?_ _ ⟨[],none,m,rfl,.refl _⟩;rintro A ⟨p,c,cK,rfl,aq⟩;simp only;rw[hp];refine⟨trivial,λy bh=>?_⟩;cases y with
 | none=>
  have U:cK=[]:=bh;subst U;simp only[aLN,ajh,ajq,aH];refine eY.2 λ_=>wv.2 (by grind)
 | some i=>
  have D:i<cK.length:=bh;have aC:po c cK (some i)=some cK[i]:=aKp D;have U:E6 cK (some i)=cK.eraseIdx i:=rfl;have Gy:(m.map (·.1)).Perm (p++cK[i].1::(cK.eraseIdx i).map (·.1)):=aq.trans (List.Perm.append_left p ((ade cK i D).symm.map (·.1)));simp only[aKf,if_true,aC,U,bS,aH,aLc,aju];rw[hp,l_];refine⟨⟨trivial,trivial,(cK.eraseIdx i).map (·.1),wv.2 Gy⟩,⟨true,trivial⟩,λb _=>?_⟩;cases b with
  | false=>
   simp only[aKF,if_true,aH];exact eY.2 λh=>by cases h
  | true=>
   simp only[aKo,ajh,ajq];refine eY.2 ⟨⟨p++[cK[i].1],some cK[i],cK.eraseIdx i,rfl,by grind⟩,?_⟩;grind
end
theorem atO(l:Nat)(m:z3'):dj (Rh (l,m,(l,k3 (some m),[],false),())) λy=>y.1.2.2.2=false->k3 (some m) y.1.2.2.1:=adf l m
theorem atP(l:Nat)(m:List (Int×bC)):dj (Ri (l,m,(l,k3 (some m),[],false),())) λy=>y.1.2.2.2=false->k3 (some m) y.1.2.2.1:=adf l m
def ea(cl:z3'):List bY->List bY
 | a::b::r=>(a.1,ly cl a.2 b.2)::ea cl r
 | _=>[]
def Gz(c:aW)(gX:List (List bY)):Prop:=gX.length=10/\∀ l∈gX,l.length<=12/\∀ i,(h:i+1<l.length)->CN (c,l[i].2,l[i+1].2)
def tq(c:aW)(gX:List (List bY)):List bY:=gX.flatMap (ea c.2.2.2.1)
def uW(x:Option (Option gr)×Option (Option hz))(L:List bY):Prop:=∃ t b,x.1=some (some t)/\x.2=some (some b)/\Gz b.1 t.2/\L=tq b.1 t.2
theorem atQ{cl:z3'}{l:List bY}{i:Nat}(h:i+1<l.length):ea cl (l.drop i)=(l[i].1,ly cl l[i].2 l[i+1].2)::ea cl (l.drop (i+2)):=by
 rw[aJ9 (by omega:i<l.length),aJ9 h];rfl
theorem atS{cl:z3'}{l:List bY}{i:Nat}(h:¬i+1<l.length):ea cl (l.drop i)=[]:=by
 have:(l.drop i).length<=1:=by grind
 match h:l.drop i with
 | []=>rfl
 | [_]=>rfl
 | _::_::_=>grind
set_option maxHeartbeats 1000000 in
theorem atT(fS:Nat)(t:gr)(b:hz)(h:Gz b.1 t.2):dj (Ks qp.sh (fS,some t,some b,(fS,uW (some (some t),some (some b)),[],false),())) λy=>y.1.2.2.2=false->uW (some (some t),some (some b)) y.1.2.2.1:=by
 obtain⟨E,M⟩:=h;have JH:∀ L,uW (some (some t),some (some b)) L<->L=tq b.1 t.2:=λL=>⟨λ⟨dL,bl,ax,aU,_,e⟩=>by cases ax;cases aU;exact e,λe=>⟨t,b,rfl,rfl,⟨E,M⟩,e⟩⟩
 generalize uW (some (some t),some (some b))=S at *
 unfold Ks e_ cR aL b1 aG aQ b_ e9 a7 hU ay a6 bT fY;simp only[aKf,bS,aju];refine D0 (λA=>∃ (u:Nat),u<=10/\A=(fS,some b,t.2,(u:Int),(fS,S,(t.2.take u).flatMap (ea b.1.2.2.2.1),false),())) (λA=>(10 - A.2.2.2.1).toNat) ?_ _ ⟨0,by omega,rfl⟩;rintro A ⟨u,hu,rfl⟩;by_cases Jk:u<10
 ·have an:decide ((u:Int)<10)=true:=by simpa using (by omega:(u:Int)<10)
  have ux:u<t.2.length:=by omega
  have atU:=bc (n:=(u:Int)+1) (by omega) (by omega);have hm:=ajj ux;obtain⟨ai,bf⟩:=M _ hm;simp only[an,if_true,c_ ux];rw[bb (show (0:Int)<=(u:Int)/\(u:Int)<Int.ofNat 10 by rw[ch];omega)];have gl:tq b.1 t.2=(t.2.take u).flatMap (ea b.1.2.2.2.1)++(ea b.1.2.2.2.1 t.2[u]++(t.2.drop (u+1)).flatMap (ea b.1.2.2.2.1)):=by
   unfold tq;conv=>lhs;rw[<-aLr u t.2,aJ9 ux]
   simp only[aLH,aKG]
  generalize atV:t.2[u]=k7 at *
  generalize (t.2.drop (u+1)).flatMap (ea b.1.2.2.2.1)=R at *
  generalize iT:(t.2.take u).flatMap (ea b.1.2.2.2.1)=P at *
  have atW:(t.2.take (u+1)).flatMap (ea b.1.2.2.2.1)=P++ea b.1.2.2.2.1 k7:=by
   rw[aLw,aKp ux,aLL,aLH,iT,atV];simp
  rw[hp];refine (D0 (p:=λz=>match z with | .next z=>z=(fS,some b,t.2,(u:Int),(fS,S,P++ea b.1.2.2.2.1 k7,false),()) | .done z=>(match z with | .next _=>False | .done y=>y.1.2.2.2=true)) (λA=>∃ (i:Nat) (Q:List bY),i<=k7.length+1/\Q++ea b.1.2.2.2.1 (k7.drop i)=ea b.1.2.2.2.1 k7/\A=(fS,some b,k7,(i:Int),t.2,(u:Int),(fS,S,P++Q,false),())) (λA=>(20 - A.2.2.2.1).toNat) ?_ _ ⟨0,[],by omega,by simp,by simp⟩).mono λz bD=>?_
  ·rintro A ⟨i,Q,rS,v_,rfl⟩;have hw:=bc (n:=(i:Int)+1) (by omega) (by omega);have ft:=bc (n:=(i:Int)+2) (by omega) (by omega);by_cases D:i+1<k7.length
   ·have adg:i<k7.length:=by omega
    have an:decide ((i:Int)+1<(k7.length:Int))=true:=by simpa using (by omega:(i:Int)+1<(k7.length:Int))
    have cL:(0:Int)<=(i:Int)+1/\(i:Int)+1<(k7.length:Int):=⟨by omega,by omega⟩
    have jF:k7.getD ((i:Int)+1).toNat ((0,0,0,0,0,0),0)=k7[i+1]:=by
     rw[show ((i:Int)+1).toNat=i+1 from by omega,uO D]
    have em:qp.sh (b.1,k7[i].2,k7[i+1].2)=mpure (ly b.1.2.2.2.1 k7[i].2 k7[i+1].2):=bJ (bf i D) _;simp only[Prod.cz,Prod.er,ch,cy,hw,an,if_true,c_ adg,cE adg,cL,jF,aKf,aju,em,h1,eV,aKH,bS,aKP];rw[hp,l_];have dt:=atQ (cl:=b.1.2.2.2.1) D;refine⟨⟨trivial,trivial,ea b.1.2.2.2.1 (k7.drop (i+2))++R,(JH _).2 ?_⟩,⟨true,trivial⟩,λy _=>?_⟩
    ·rw[gl,<-v_,dt];simp
    ·cases y with
     | false=>
      simp only[aKF,if_true,aH];exact eY.2 rfl
     | true=>
      simp only[aKo,ajh,ajq,ft];refine eY.2 ⟨⟨i+2,Q++[(k7[i].1,ly b.1.2.2.2.1 k7[i].2 k7[i+1].2)],by omega,?_,?_⟩,?_⟩
      ·rw[<-v_,dt];simp
      ·rw[aK1];rfl
      ·show (20 - ((i:Int)+2)).toNat<(20 - (i:Int)).toNat;omega
   ·have an:decide ((i:Int)+1<(k7.length:Int))=false:=by simpa using (by omega:(k7.length:Int)<=(i:Int)+1)
    simp only[ch,cy,hw,an,ajh,ajq,aH];refine eY.2 ?_;rw[atS D,aKg]at v_;show (fS,some b,t.2,(u:Int),(fS,S,P++Q,false),())=_;rw[v_]
  ·cases z with
   | next z=>
    have bD:z=_:=bD;subst bD;simp only[cp,cy,atU];refine eY.2 ⟨⟨u+1,by omega,?_⟩,?_⟩
    ·rw[atW];rfl
    ·show (10 - ((u:Int)+1)).toNat<(10 - (u:Int)).toNat;omega
   | done z=>
    cases z with
    | next z=>exact absurd bD id
    | done y=>
     have bD:y.1.2.2.2=true:=bD;simp only[tl];refine eY.2 λh=>?_;rw[bD]at h;cases h
 ·have Qi:u=10:=by omega
  subst Qi;simp only[show decide (((10:Nat):Int)<10)=false from by decide,ajh,ajq,aH];refine eY.2 λ_=>(JH _).2 ?_;show (t.2.take 10).flatMap _=_;rw[<-E,aKE];rfl
abbrev CW:aF:=⟨.ar (.bV uF) (.bV zX),.cO (.ar hA bp),λ_=>True,λx=>uW (some x.2,some x.1)⟩
theorem atX(x):aR (arS uW x) (CW.sh x):=bg λ_=>rfl
end Go.Fer.H
namespace Go.Fer.H
theorem CX{ag bet:Type}{f:ag->bet}:∀ {l:List ag},(l.map f).Nodup->∀ {a b:ag},a∈l->b∈l->f a=f b->a=b
 | [],_,a,b,br,_,_=>by grind
 | x::l,aC,a,b,br,V,e=>by
  rw[aKq,List.nodup_cons]at aC;rcases List.mem_cons.1 br with E | E<;>rcases List.mem_cons.1 V with M | M
  ·grind
  ·grind
  ·grind
  ·exact CX aC.2 E M e
theorem atY{l m:z1'}(h:l.Perm m):l.sum=m.sum:=by
 induction h with
 | nil=>rfl
 | cons x _ aP=>grind
 | swap x y l=>grind
 | trans _ _ E M=>omega
theorem RU{l:List bY}(h:fO l=true){i:Nat}(D:i<l.length):ey l[i].1=1+((i % 2:Nat):Int)/\(0<i->l[i].2≠(l.getD (i - 1) bO).2):=by
 unfold fO at h;rw[aKu]at h;have:=h i (by grind);unfold oK at this;grind
theorem adh(cl:z3'):∀ l:List bY,(∀ i,(h:i<l.length)->ey l[i].1=1+((i % 2:Nat):Int))->ea cl l=((re l).filter λp=>ey p.1.1 == 1).map λp=>(p.1.1,ly cl p.1.2 p.2.2)
 | [],_=>rfl
 | [_],_=>rfl
 | [a,b],h=>by
  have br:ey a.1=1:=h 0 (by simp);simp[ea,re,br]
 | a::b::c::r,h=>by
  have br:ey a.1=1:=h 0 (by simp);have V:ey b.1=2:=h 1 (by simp);have aP:=adh cl (c::r) λi D=>by
   have:=h (i+2) (by grind);grind
  have e:re (a::b::c::r)=(a,b)::(b,c)::re (c::r):=rfl;rw[e,aLi (by grind),aLj (by grind),aKq,<-aP];rfl
abbrev oN(c:aW)(w:z1'):List bY:=tq c (oM c w)
theorem KR(c:aW)(w:z1'):oN c w=(dA 0 9).flatMap λu=>ea c.2.2.2.1 (ct c w u):=by
 rfl
theorem RV{c:aW}{w:z1'}(hw:iF c w=true){u:Int}(hu:0<=u/\u<=9):eb c w u=ct c w u:=by
 unfold eb;rw[if_pos (KN hw hu)]
theorem atZ{cl:z3'}{l:List bY}(h:fO l=true)(ha:Int):xT cl ha l=((ea cl l).find? λp=>p.1.1 == ha).map (·.2):=by
 rw[adh cl l λi D=>(RU h D).1];unfold xT;rw[List.find?_map,List.find?_filter,Option.map_map];refine congrArg _ (congrArg (λf=>(re l).find? f) ?_);grind
theorem adi{ag bet:Type}{f g:ag->Option bet}:∀ {l:List ag},(∀ x∈l,f x=g x)->l.findSome? f=l.findSome? g
 | [],_=>rfl
 | x::l,h=>by
  rw[List.findSome?_cons,List.findSome?_cons,h x (by simp),adi λy bh=>h y (by grind)]
theorem RW{c:aW}{w:z1'}(hw:iF c w=true)(ha:Int):hD c w ha=((oN c w).find? λp=>p.1.1 == ha).map (·.2):=by
 unfold hD;rw[KR,List.find?_flatMap,List.map_findSome?];refine adi λu hu=>?_;have hu:=r'.1 hu;rw[RV hw hu,atZ (KN hw hu)];rfl
theorem adj{c:aW}(aA:hC c){w:z1'}(hw:iF c w=true):Gz c (oM c w):=by
 have M:=CP aA.Rz hw;have key:∀ u:Int,0<=u/\u<=9->(ct c w u).length<=12/\∀ i,(h:i+1<(ct c w u).length)->CN (c,(ct c w u)[i].2,(ct c w u)[i+1].2):=by
  intro u hu;have:=RV hw hu;refine⟨Aa aA w u,?_⟩;have k:=λi=>@RE c aA w M u i;simp only[this]at k;exact k
 refine⟨rfl,λl af=>?_⟩;simp only[oM,aKU,aLF,or_false]at af;rcases af with rfl | rfl | rfl | rfl | rfl | rfl | rfl | rfl | rfl | rfl<;>exact key _ (by omega)
theorem adk{cl:z3'}:∀ {l:List bY} {p:bY},p∈ea cl l->∃ i,∃ h:i+1<l.length,i % 2=0/\p=(l[i].1,ly cl l[i].2 l[i+1].2)
 | [],_,h=>by simp[ea]at h
 | [_],_,h=>by simp[ea]at h
 | a::b::r,p,h=>by
  unfold ea at h;rcases List.mem_cons.1 h with rfl | h
  ·exact⟨0,by simp,rfl,rfl⟩
  ·obtain⟨i,D,M,e⟩:=adk h;exact⟨i+2,by grind,by omega,e⟩
theorem adl(cl:z3'):∀ l:List bY,((ea cl l).map (·.1)).Sublist (l.map (·.1))
 | []=>.slnil
 | [_]=>List.nil_sublist _
 | a::b::r=>by
  unfold ea;simp only[aKq];exact ((adl cl r).cons _).cons_cons _
theorem adm(l:List bC):((fN l).map (·.1)).Nodup:=by
 unfold fN;have key:∀ L:z1',L.Nodup->((L.filterMap λid=>l.find? λs=>s.1 == id).map (·.1)).Nodup/\∀ k∈(L.filterMap λid=>l.find? λs=>s.1 == id).map (·.1),k∈L:=by
  grind
 refine (key _ ?_).1;unfold dA;show List.Pairwise _ _;rw[aLx];exact (aK3).imp λh=>by omega
theorem RX(c:aW):((dv c).map (·.1)).Nodup:=by
 unfold dv;exact (adm c.2.1).sublist (List.filter_sublist.map _)
theorem RY{c:aW}{a b:bC}(br:a∈dv c)(V:b∈dv c)(h:a.1=b.1):a=b:=by
 exact CX (RX c) br V h
theorem adn(c:aW)(w:z1')(u:Int):((ct c w u).map (·.1)).Perm ((dv c).filter λs=>decide (ql s=u)):=by
 unfold ct qo;refine ((Gi h6 _).map _).trans ?_;rw[List.map_map];exact List.Perm.of_eq (List.map_id' _)
theorem ado{c:aW}{w:z1'}{p:bY}(h:p∈oN c w):∃ u,0<=u/\u<=9/\∃ i,∃ D:i+1<(ct c w u).length,i % 2=0/\p=((ct c w u)[i].1,ly c.2.2.2.1 (ct c w u)[i].2 (ct c w u)[i+1].2):=by
 rw[KR,aLl]at h;obtain⟨u,hu,aq⟩:=h;obtain⟨i,D,M,e⟩:=adk aq;exact⟨u,(r'.1 hu).1,(r'.1 hu).2,i,D,M,e⟩
theorem CY{c:aW}{w:z1'}{p:bY}(h:p∈oN c w):p.1∈dv c:=by
 obtain⟨u,_,_,i,D,_,rfl⟩:=ado h;exact (Gp (ajj (by omega:i<(ct c w u).length))).1
theorem at0{c:aW}{w:z1'}(hw:iF c w=true){p:bY}(h:p∈oN c w):ey p.1=1:=by
 obtain⟨u,E,M,i,D,ai,rfl⟩:=ado h;have:=(RU (KN hw ⟨E,M⟩) (by omega:i<(ct c w u).length)).1;grind
theorem RZ(c:aW)(w:z1'):((oN c w).map (·.1)).Nodup:=by
 have hc:(dv c).Nodup:=by
  have:=RX c;exact List.Pairwise.of_map _ (λa b h e=>h (by rw[e])) this
 have hu:∀ u,((ea c.2.2.2.1 (ct c w u)).map (·.1)).Nodup/\∀ s∈(ea c.2.2.2.1 (ct c w u)).map (·.1),ql s=u:=by
  intro u;have az:=adl c.2.2.2.1 (ct c w u);have aq:=adn c w u;grind
 rw[KR,aLW];have key:∀ L:z1',L.Nodup->(L.flatMap λu=>(ea c.2.2.2.1 (ct c w u)).map (·.1)).Nodup/\∀ s∈(L.flatMap λu=>(ea c.2.2.2.1 (ct c w u)).map (·.1)),ql s∈L:=by
  grind
 refine (key _ ?_).1;unfold dA;show List.Pairwise _ _;rw[aLx];exact (aK3).imp λh=>by omega
theorem adp{ag:Type}(qu:ag->Int):∀ (l:List ag) (n:Int),l.foldl (λn x=>n+qu x) n=n+(l.map qu).sum
 | [],n=>by simp
 | x::l,n=>by simp only[aKd,aKq,List.sum_cons];rw[adp qu l];omega
theorem at1{ag:Type}{f g:ag->Int}{l:List ag}(h:∀ x∈l,f x=g x):(l.map f).sum=(l.map g).sum:=by rw[aKA h]
theorem at2{psiq:bY->Int}:∀ (C:List bC) (H:List bY),(C.map (·.1)).Nodup->(H.map (·.1)).Nodup->(∀ p∈H,p.1∈C)->(C.map λs=>(((H.find? λp=>p.1.1 == s.1).map psiq).getD 0)).sum=(H.map psiq).sum:=by
 intro C H jj oo s5;have e:(H.map psiq).sum=((C.filterMap λs=>H.find? λp=>p.1.1 == s.1).map psiq).sum:=by
  refine atY (List.Perm.map psiq ?_);have at3:H.Nodup:=List.Pairwise.of_map _ (λa b h e=>h (by rw[e])) oo;refine (aK4 at3 ?_).2 λp=>?_
  ·have:∀ C:List bC,(C.map (·.1)).Nodup->(C.filterMap λs=>H.find? λp=>p.1.1 == s.1).Nodup/\∀ q∈(C.filterMap λs=>H.find? λp=>p.1.1 == s.1),q.1.1∈C.map (·.1):=by
    grind
   grind
  ·rw[List.mem_filterMap];constructor
   ·intro aq;refine⟨p.1,s5 p aq,?_⟩;have hex:(H.find? λq=>q.1.1 == p.1.1).isSome=true:=List.find?_isSome.2 ⟨p,aq,by simp⟩;obtain⟨q,bM⟩:=Option.isSome_iff_exists.1 hex;have GA:q.1.1=p.1.1:=by grind
    have x6:=aKn bM;have at4:q.1=p.1:=CX jj (s5 q x6) (s5 p aq) GA;have:q=p:=CX oo x6 aq at4;grind
   grind
 rw[e];have:∀ C:List bC,(C.map λs=>(((H.find? λp=>p.1.1 == s.1).map psiq).getD 0)).sum=((C.filterMap λs=>H.find? λp=>p.1.1 == s.1).map psiq).sum:=by
  intro C;induction C with
  | nil=>rfl
  | cons s C aP=>
   grind
 grind
def x7(c:aW)(g:Int)(p:bY):Int:=if i_ p.1=g then jH c.2.2.2.2 p.2 else 0
theorem at5{c:aW}{w:z1'}(hw:iF c w=true)(g:Int):wA c w g=((oN c w).map (x7 c g)).sum:=by
 rw[<-at2 (psiq:=x7 c g) (dv c) (oN c w) (RX c) (RZ c w) λp aq=>CY aq];unfold wA;have e:(λ(n:Int) (s:bC)=>if (ey s=1/\i_ s=g)/\(hD c w (jm s)).isSome=true then n+jH c.2.2.2.2 ((hD c w (jm s)).getD 0) else n)=λn s=>n+(if (ey s=1/\i_ s=g)/\(hD c w (jm s)).isSome=true then jH c.2.2.2.2 ((hD c w (jm s)).getD 0) else 0):=by
  grind
 rw[e,adp,aK7];refine at1 λs az=>?_;rw[RW hw];cases aw:(oN c w).find? λp=>p.1.1 == jm s with
 | none=>simp
 | some p=>
  have aq:=aKn aw;have E:p.1.1=s.1:=by grind
  have M:p.1=s:=RY (CY aq) az E;have ai:=at0 hw aq;rw[M]at ai;simp only[aLc,aju,aKf,aLg,ai,aK0,x7,M]
theorem Ag(c:aW)(b:Bool):((dF c b).2≠0/\(dF c b).1=[]/\uV c b=(none,(dF c b).2))\/(dF c b=(dr c,0)/\cA c=0/\b=true/\uV c b=(some (wF c),0)):=by
 unfold dF uV;grind
theorem R0{ag bet:Type}{f g:ag->Option bet}:∀ {l:List ag},(∀ x∈l,f x=g x)->l.filterMap f=l.filterMap g
 | [],_=>rfl
 | x::l,h=>by
  rw[List.filterMap_cons,List.filterMap_cons,h x (by simp),R0 λy bh=>h y (by grind)]
theorem adq:sq []=(0,0):=rfl
theorem at6{ag:Type}(L:List ag)(P:ag->Option gr)(f:Option gr->G (Int×Bool))(v:ag->Int×Bool)(h:∀ w∈L,f (P w)=mpure (v w)):CU (L.map P) f=xV (L.filterMap λw=>if (v w).2=true then some (v w).1 else none):=by
 unfold CU;rw[List.filterMap_map];refine congrArg xV (R0 λw hw=>?_);simp_all
theorem adr{ag:Type}(qu:ag->Int)(L:List ag):(L.filterMap λw=>if ((qu w,true):Int×Bool).2=true then some ((qu w,true):Int×Bool).1 else none)=L.map qu:=by
 simp
theorem R1{c:aW}(af:(dr c).length<=60){f:Option gr->G (Int×Bool)}{v:z1'->Int×Bool}(h:∀ w∈dr c,f (kt c w)=mpure (v w)):CV.sh (some (wF c),f)=mpure ((xV ((dr c).filterMap λw=>if (v w).2=true then some (v w).1 else none)).getD (0,0),(xV ((dr c).filterMap λw=>if (v w).2=true then some (v w).1 else none)).isSome):=by
 refine (bJ ⟨wF c,rfl,show ((dr c).map (kt c)).length<=60 by grind,λt aT=>?_⟩ _).trans (congrArg mpure ?_)
 ·show ((CU ((dr c).map (kt c)) f).getD (0,0),(CU ((dr c).map (kt c)) f).isSome)=_;rw[at6 _ _ f v h]
 grind
theorem at7:∀ {l:z1'},(xV l).isSome=!l.isEmpty:=by
 intro l;have key:∀ (l:z1') (o:Option (Int×Int)),o.isSome=true->(l.foldl (λo n=>some (Ac o n)) o).isSome=true:=by
  intro l;induction l<;>grind
 cases l with
 | nil=>rfl
 | cons n l=>exact key l _ rfl
theorem GB{c:aW}{f:Option hz->G Bool}{b:Bool}(h:gx c)(aw:cA c=0->f (some (c,dv c,[]))=mpure b):x5.sh (c,f)=mpure (uV c b):=by
 refine (bJ ⟨h,λhc=>⟨b,aw hc⟩⟩ _).trans (congrArg mpure ?_);show uV c (Gx c f)=uV c b;unfold uV Gx;simp_all
theorem GC{c:aW}(h:gx c)(hc:cA c=0):(dr c).length<=60:=aKa (Gt c _ _) (h.2 hc)
theorem wG{c:aW}{w:z1'}(h:w∈dr c):iF c w=true:=RN c _ _ _ h
abbrev CZ:aF:=⟨.ar hA (.bV bp),dm,λx=>∃ k:Int,x.2=some k/\True,λx=>decide (jm x.1=x.2.getD 0)&&decide (ey x.1=1)⟩
theorem aua(x):aR (arX x) (CZ.sh x):=bg λ_=>rfl
abbrev R2:aF:=⟨.ar (.bV uF) (.bV bp),dm,λx=>∃ (b:hz) (k:Int),x.2=some k/\x.1=some b/\b.2.1.length<2 ^ 63,λx=>(x.1.getD (wD,[],[])).2.1.any λs=>jm s == x.2.getD 0&&ey s == 1⟩
theorem aub(x):aR (abQ (kr hA).sh CZ.sh x) (R2.sh x):=bg λh=>by
 obtain⟨o,k⟩:=x;obtain⟨b,_,_,V,h⟩:=h;subst V;unfold abQ;simp only[aKf,bS,aju];have ab:∀ s,CZ.sh (s,some (k.getD 0))=mpure (decide (jm s=k.getD 0)&&decide (ey s=1)):=λs=>bJ ⟨_,rfl,trivial⟩ _;rw[show (kr hA).sh (b.2.1,λs=>CZ.sh (s,some (k.getD 0)))=mpure (b.2.1.any λs=>(CZ.sh (s,some (k.getD 0))).val false) from bJ ⟨h,λs _=>⟨_,ab s⟩⟩ _,aH];refine congrArg mpure ?_;refine congrArg (λp=>b.2.1.any p) ?_;funext s;rw[ab,eV];rfl
theorem ads{f:Int->G Int}{n:Int}:∀ (L:List bY),(∀ p∈L,p.1.1=n->∃ v,f p.2=mpure v)->
  kY (λ(A:Int×(Int->G Int)×Int×Bool×Unit) (y:bC×Int)=>ao (if decide (y.1.1=A.1)=true then ao (A.2.1 y.2) λy=>mpure (dQ.ret,y,true,()) else mpure
 (dQ.normal,A.2.2.1,A.2.2.2.1,())) λp=>mpure (p.1,A.1,A.2.1,p.2.1,p.2.2.1,())) L (n,f,0,false,())=(L.find? λp=>p.1.1 == n).elim (mpure (dQ.normal,n,f,0,false,())) λp=>mpure (dQ.ret,n,f,(f p.2).val 0,true,())
 | [],_=>rfl
 | p::L,h=>by
  unfold kY;by_cases aq:p.1.1=n
  ·obtain⟨v,ab⟩:=h p (by simp) aq;simp_all
  ·have aP:=ads L λq bM=>h q (by grind);simp_all
abbrev R3:aF:=⟨.ar (.bV zX) (.ar (.bV (.bV uF)) (.ar (.bV bp) (.bV (.fn bp bp)))),.ar bp .bool,λx=>∃ (t:gr) (b:hz) (n:Int) (f:Int->G Int),x=(some t,some (some b),some n,some f)/\Gz b.1 t.2/\∀ p∈tq b.1 t.2,p.1.1=n->∃ v,f p.2=mpure v,λx=>((tq ((x.2.1.getD none).getD (wD,[],[])).1 (x.1.getD ([],[])).2).find? λp=>p.1.1 == x.2.2.1.getD 0).elim (0,false) λp=>(((x.2.2.2.getD λ_=>eu) p.2).val 0,true)⟩
theorem auc(x):aR (abR CW.sh x) (R3.sh x):=uB λh=>by
 obtain⟨t,b,n,f,rfl,E,M⟩:=h;unfold abR aG;simp only[aju];rw[show CW.sh (some b,some t)=mpure (uW (some (some t),some (some b))) from rfl,aH,hp];refine⟨⟨_,t,b,rfl,rfl,E,rfl⟩,λL kF=>?_⟩;obtain⟨dL,bl,ax,aU,_,rfl⟩:=kF;cases ax;cases aU;rw[ads     _ M];cases (tq b.1 t.2).find? λp=>p.1.1 == n with
 | none=>simp;exact eY.2 rfl
 | some p=>simp;exact eY.2 rfl
abbrev C0:aF:=⟨.ar hk (.ar bp (.fn bp bp)),.ar mn bp,λx=>gx x.1/\∀ w∈dr x.1,∀ m,cA x.1=0->hD x.1 w x.2.1=some m->∃ v,x.2.2 m=mpure v,λx=>(sq ((h7 x.1 x.2.1).1.map λm=>(x.2.2 m).val 0),(h7 x.1 x.2.1).2)⟩
theorem aud(x):aR (abq x5.sh CV.sh R2.sh R3.sh x) (C0.sh x):=bg λh=>by
 obtain⟨c,n,f⟩:=x;obtain⟨h,aw⟩:=h;unfold abq aG;show _=mpure (sq ((h7 c n).1.map λm=>(f m).val 0),(h7 c n).2);unfold h7;rw[GB (b:=qs c n) h λhc=>bJ ⟨(c,dv c,[]),n,rfl,rfl,by have:=(ja hc).CL;grind⟩ _];rcases Ag c (qs c n) with⟨E,M,ai⟩ | ⟨E,M,ai,bf⟩
 ·rw[ai];simp only[aH];rw[if_pos (by grind),if_pos E];rfl
 ·rw[E,bf];simp only[aH];have aA:=ja M;rw[R1   (GC h M) λw hw=>?_,aH]
  ·have e:((dr c).filterMap λw=>if ((hD c w n).elim ((0,false)) λm=>((f m).val 0,true)).2=true then some ((hD c w n).elim ((0,false)) λm=>((f m).val 0,true)).1 else none)=((dr c).filterMap λw=>hD c w n).map λm=>(f m).val 0:=by
    rw[List.map_filterMap];refine R0 λw _=>?_;cases hD c w n<;>rfl
   rw[e,at7];generalize (dr c).filterMap (λw=>hD c w n)=l;cases l<;>rfl
  ·have aT:=wG hw;have EO:=RW aT n;refine (bJ ⟨(w,oM c w),wF c,n,f,rfl,adj aA aT,λp aq aue=>?_⟩ _).trans (congrArg mpure ?_)
   ·show ((oN c w).find? λp=>p.1.1 == n).elim (0,false) (λp=>((f p.2).val 0,true))=_;rw[EO];cases (oN c w).find? λp=>p.1.1 == n<;>rfl
   ·have hex:((oN c w).find? λq=>q.1.1 == n).isSome=true:=List.find?_isSome.2 ⟨p,aq,by grind⟩;obtain⟨q,bM⟩:=Option.isSome_iff_exists.1 hex;have GA:q.1.1=n:=by grind
    have x6:=aKn bM;have az:=RY (CY x6) (CY aq) (GA.trans aue.symm);have:=CX (RZ c w) x6 aq az;grind
abbrev Ah:aF:=⟨bp,bp,λ_=>True,λx=>x⟩
theorem auf(x):aR (arR x) (Ah.sh x):=bg λ_=>rfl
theorem aug(x):aR (aa9 C0.sh Ah.sh x) (xW.sh x):=bg λh=>by
 obtain⟨c,n⟩:=x;unfold aa9;rw[show C0.sh (c,n,Ah.sh)=mpure (sq ((h7 c n).1.map λm=>(Ah.sh m).val 0),(h7 c n).2) from bJ ⟨h,λ_ _ m _ _=>⟨m,rfl⟩⟩ _];simp;unfold Ad;have:((h7 c n).1.map λm=>(Ah.sh m).val 0)=(h7 c n).1:=by
  have:(λm=>(Ah.sh m).val 0)=λm=>m:=by
   funext m;exact eV
  simp_all
 grind
abbrev Ai:aF:=⟨.ar bp (.bV hk),bp,λx=>∃ c:aW,x.2=some c/\wy (c.2.2.2.2,x.1),λx=>jH (x.2.getD wD).2.2.2.2 x.1⟩
theorem auh(x):aR (abr qq.sh x) (Ai.sh x):=bg λh=>by
 obtain⟨m,q⟩:=x;obtain⟨c,hc,h⟩:=h;subst hc;unfold abr;simp only[aju];rw[show qq.sh (c.2.2.2.2,m)=mpure (jH c.2.2.2.2 m) from bJ h _,aH]
theorem adt{c:aW}(aA:hC c){w:z1'}(hw:iF c w=true){n m:Int}(hm:hD c w n=some m):Ai.sh (m,some c)=mpure (jH c.2.2.2.2 m):=by
 have:=wz aA (CP aA.Rz hw) hm;exact bJ ⟨c,rfl,aA.xR,show -100000<=m by omega,show m<=20000 by omega⟩ _
theorem aui{c:aW}{n m:Int}(hm:m∈(h7 c n).1):cA c=0/\∃ w,iF c w=true/\w∈dr c/\hD c w n=some m:=by
 unfold h7 at hm;split at hm
 ·grind
 ·split at hm
  ·grind
  ·rw[List.mem_filterMap]at hm;obtain⟨w,hw,he⟩:=hm;obtain⟨E,M,ai,_⟩:=rf hw;grind
theorem auj(x):aR (aa8 C0.sh Ai.sh x) (xX.sh x):=bg λh=>by
 obtain⟨c,n⟩:=x;unfold aa8;rw[show C0.sh (c,n,λm=>Ai.sh (m,some c))=mpure (sq ((h7 c n).1.map λm=>(Ai.sh (m,some c)).val 0),(h7 c n).2) from bJ ⟨h,λw hw m hc hm=>⟨_,adt (ja hc) (wG hw) hm⟩⟩ _];simp;unfold Ae;have:((h7 c n).1.map λm=>(Ai.sh (m,some c)).val 0)=(h7 c n).1.map λm=>jH c.2.2.2.2 m:=by
  refine aKA λm hm=>?_;obtain⟨hc,w,hw,_,he⟩:=aui hm;rw[adt (ja hc) hw he,eV]
 grind
abbrev R4:aF:=⟨.ar (.bV uF) (.bV bp),dm,λx=>∃ k:Int,x.2=some k/\True,λx=>cg (x.2.getD 0) 0 99⟩
theorem auk(x):aR (abz Cu.sh x) (R4.sh x):=bg λ_=>by
 unfold abz;rw[show Cu.sh (x.2.getD 0)=mpure (cg (x.2.getD 0) 0 99) from rfl,aH]
abbrev R5:aF:=⟨.ar (.bV zX) (.ar (.bV (.bV uF)) (.ar (.bV bp) (.bV hk))),.ar bp .bool,λx=>∃ (t:gr) (b:hz) (n:Int) (c:aW),x=(some t,some (some b),some n,some c)/\Gz b.1 t.2/\(tq b.1 t.2).length<=1000/\∀ p∈tq b.1 t.2,wy (c.2.2.2.2,p.2),λx=>(((tq ((x.2.1.getD none).getD (wD,[],[])).1 (x.1.getD ([],[])).2).map (x7 (x.2.2.2.getD wD) (x.2.2.1.getD 0))).sum,true)⟩
theorem R6{c:aW}{n:Int}:∀ (L:List bY) (a:Int),(∀ p∈L,wy (c.2.2.2.2,p.2))->0<=a->a+100000*(L.length:Int)<=1000000000->
  kY (λ(A:Int×aW×Int×Unit) (y:bC×Int)=>ao (if decide (y.1.2.2.2.2.2=A.1)=true then ad (qq.sh (A.2.1.2.2.2.2,y.2)).et (mpure (dQ.normal,IntKind.wrap
 .i64 (Add.add A.2.2.1 (G.val (qq.sh (A.2.1.2.2.2.2,y.2)) 0)),())) else mpure (dQ.normal,A.2.2.1,())) λp=>mpure (p.1,A.1,A.2.1,p.2.1,())) L (n,c,a,())=mpure (dQ.normal,n,c,a+(L.map (x7 c n)).sum,())
 | [],a,_,_,_=>by simp[kY]
 | p::L,a,h,aZ,E=>by
  unfold kY;simp  at E;by_cases aq:p.1.2.2.2.2.2=n
  ·have V:=KH (h p (by simp));have ab:qq.sh (c.2.2.2.2,p.2)=mpure (jH c.2.2.2.2 p.2):=bJ (h p (by simp)) _;have hw:=bc (n:=a+jH c.2.2.2.2 p.2) (by omega) (by omega);have aP:=R6   (n:=n) L (a+jH c.2.2.2.2 p.2) (λq bM=>h q (by grind)) (by omega) (by omega);simp only[aq,aKP,if_true,ab,h1,eV,bS,cy,aH];simp only[cy]at aP;rw[aKq];rw[show x7 c n p=jH c.2.2.2.2 p.2 from if_pos aq];grind
  ·have aP:=R6   (n:=n) L a (λq bM=>h q (by grind)) aZ (by omega);simp only[aq,aKe,ajh,ajq,aH];rw[aP,aKq,List.sum_cons];rw[show x7 c n p=0 from if_neg aq,aK7]
theorem aul(x):aR (abB qq.sh CW.sh x) (R5.sh x):=uB λh=>by
 obtain⟨t,b,n,c,rfl,E,M,ai⟩:=h;unfold abB e_ aG bT fY;simp only[aju];rw[show CW.sh (some b,some t)=mpure (uW (some (some t),some (some b))) from rfl,aH,hp];refine⟨⟨_,t,b,rfl,rfl,E,rfl⟩,λL kF=>?_⟩;obtain⟨dL,bl,ax,aU,_,rfl⟩:=kF;cases ax;cases aU;rw[R6 _ 0 ai (by omega) (by omega)];simp;exact eY.2 rfl
theorem adu(cl:z3'):∀ l:List bY,(ea cl l).length<=l.length
 | []=>by simp[ea]
 | [_]=>by simp[ea]
 | a::b::r=>by unfold ea;simp;have:=adu cl r;omega
theorem aum{c:aW}(aA:hC c)(w:z1'):(oN c w).length<=1000:=by
 rw[KR];have:=RJ (λu=>ea c.2.2.2.1 (ct c w u)) 12 (dA 0 9) λu _=>aKa (adu _ _) (Aa aA w u);rw[show (dA 0 9).length=10 from by decide]at this;omega
theorem aun{c:aW}(aA:hC c){w:z1'}(hw:iF c w=true){p:bY}(aq:p∈oN c w):wy (c.2.2.2.2,p.2):=by
 have hex:((oN c w).find? λq=>q.1.1 == p.1.1).isSome=true:=List.find?_isSome.2 ⟨p,aq,by simp⟩;obtain⟨q,bM⟩:=Option.isSome_iff_exists.1 hex;have GA:q.1.1=p.1.1:=by grind
 have x6:=aKn bM;have:=CX (RZ c w) x6 aq (RY (CY x6) (CY aq) GA);have ab:hD c w p.1.1=some p.2:=by rw[RW hw,bM,this];rfl
 have:=wz aA (CP aA.Rz hw) ab;exact⟨aA.xR,show -100000<=p.2 by omega,show p.2<=20000 by omega⟩
theorem auo(x):aR (abb x5.sh CV.sh R4.sh R5.sh x) (xZ.sh x):=bg λh=>by
 obtain⟨c,g⟩:=x;unfold abb aG;show _=mpure (xY c g);unfold xY;rw[GB (b:=cg g 0 99) h λhc=>bJ ⟨g,rfl,trivial⟩ _];rcases Ag c (cg g 0 99) with⟨E,M,ai⟩ | ⟨E,M,ai,bf⟩
 ·rw[M];simp  [adq];grind
 ·rw[E,bf];simp;have aA:=ja M;rw[R1   (GC h M) λw hw=>?_,aH,adr]
  ·rfl
  ·have aT:=wG hw;refine (bJ ⟨(w,oM c w),wF c,g,c,rfl,adj aA aT,aum aA w,λp aq=>aun aA aT aq⟩ _).trans (congrArg mpure ?_);show (((oN c w).map (x7 c g)).sum,true)=_;rw[at5 aT]
def n6(t:Int):List bY->bY×Bool->bY×Bool
 | [],b=>b
 | e::l,b=>n6 t l (if e.2<=t then (e,decide (ey e.1=1)) else b)
def iq(l:List bY)(t:Int):bY×Bool:=n6 t l (bO,false)
theorem adv{t:Int}{e:bY}{l:List bY}{b:bY×Bool}(h:e.2<=t):n6 t (e::l) b=n6 t l (e,decide (ey e.1=1)):=by rw[n6,if_pos h]
theorem adw{t:Int}{e:bY}{l:List bY}{b:bY×Bool}(h:¬e.2<=t):n6 t (e::l) b=n6 t l b:=by rw[n6,if_neg h]
theorem adx(t:Int):∀ (l:List bY) (b:bY×Bool),l.foldl (λb e=>if e.2<=t then (e,decide (ey e.1=1)) else b) b=n6 t l b
 | [],_=>rfl
 | e::l,b=>adx t l _
theorem aup(l:List bY)(t:Int)(h:∀ e∈l,ey e.1=1\/ey e.1=2):jb l t=(if (iq l t).2=true then i_ (iq l t).1.1 else -1,(iq l t).1.2):=by
 have key:∀ (l:List bY) (b:bY×Bool),(∀ e∈l,ey e.1=1\/ey e.1=2)->l.foldl (λb e=>if e.2<=t then (if ey e.1=2 then (-1,e.2) else (i_ e.1,e.2)) else b) (if b.2=true then i_ b.1.1 else -1,b.1.2)=(if (n6 t l b).2=true then i_ (n6 t l b).1.1 else -1,(n6 t l b).1.2):=by
  intro l;induction l with
  | nil=>intro b _;rfl
  | cons e l aP=>
   intro b h;rw[aKd];by_cases he:e.2<=t
   ·rw[adv he,<-aP (e,decide (ey e.1=1)) λx al=>h x (by grind),if_pos he];grind
   ·rw[adw he,if_neg he];grind
 exact key l (bO,false) h
theorem ady(l:List bY)(t:Int):iq l t=(bO,false)\/((iq l t).1∈l/\(iq l t).1.2<=t/\(iq l t).2=decide (ey (iq l t).1.1=1)):=by
 have key:∀ (l:List bY) (b:bY×Bool),n6 t l b=b\/((n6 t l b).1∈l/\(n6 t l b).1.2<=t/\(n6 t l b).2=decide (ey (n6 t l b).1.1=1)):=by
  intro l;induction l with
  | nil=>intro b;exact .inl rfl
  | cons e l aP=>
   intro b;by_cases he:e.2<=t
   ·rw[adv he];grind
   ·rw[adw he];grind
 exact key l (bO,false)
abbrev R7(t:gr):Prop:=t.2.length=10/\∀ l∈t.2,l.length<=12
abbrev Aj:aF:=⟨.ar (.bV zX) (.ar bp bp),.ar Gd .bool,λx=>∃ t:gr,x.1=some t/\R7 t/\0<=x.2.1/\x.2.1<=9,λx=>iq ((x.1.getD ([],[])).2.getD x.2.1.toNat []) x.2.2⟩
theorem auq(x):aR (abo x) (Aj.sh x):=bg λh=>by
 obtain⟨o,u,m⟩:=x;obtain⟨t,E,⟨M,ai⟩,bf,b2⟩:=h;change o=some t at E;change 0<=u at bf;change u<=9 at b2;subst E;unfold abo bU aL b1 aG aQ aB a7 ay a6;show _=mpure (iq (t.2.getD u.toNat []) m);simp only[aKf,bS,aju];rw[bb (show (0:Int)<=u/\u<Int.ofNat 10 by grind)];have hm:t.2.getD u.toNat []∈t.2:=zP bf (by omega);have af:=ai _ hm;generalize t.2.getD u.toNat []=l at *
 rw[db l (λi (b:bY×Bool)=>(m,b.2,l,(l.length:Int),(i:Int),bO,b.1,())) (λe b=>.next (if e.2<=m then (e,decide (ey e.1=1)) else b)) (λb=>.next (b.2,bO,b.1,())) (bO,false) ?_ ?_ ?_]
 ·rw[cU,aH,adx];rfl
 ·rfl
 ·intro i D b;have hw:=bc (n:=(i:Int)+1) (by omega) (by omega);simp only[Prod.cz,Prod.er,ch,cT D,if_true,c_ D,cE D,bS,cy,hw,bq.ls,ajl];by_cases he:l[i].2<=m
  ·simp_all
  ·simp only[he,ajq,aH,cp,hw];rfl
 simp
theorem adz(c:aW)(w:z1'){u:Int}(aZ:0<=u)(h:u<=9):(oM c w).getD u.toNat []=ct c w u:=by
 have hu:u=0\/u=1\/u=2\/u=3\/u=4\/u=5\/u=6\/u=7\/u=8\/u=9:=by omega
 rcases hu with rfl | rfl | rfl | rfl | rfl | rfl | rfl | rfl | rfl | rfl<;>rfl
theorem adA{c:aW}(aA:hC c)(w:z1'):R7 (w,oM c w):=by
 refine⟨rfl,λl af=>?_⟩;simp only[oM,aKU,aLF,or_false]at af;rcases af with rfl | rfl | rfl | rfl | rfl | rfl | rfl | rfl | rfl | rfl<;>exact Aa aA w _
theorem adB{c:aW}(aA:hC c)(w:z1'){u t:Int}(aZ:0<=u)(h:u<=9):Aj.sh (kt c w,u,t)=mpure (iq (ct c w u) t):=by
 refine (bJ ⟨_,rfl,adA aA w,aZ,h⟩ _).trans (congrArg mpure ?_);show iq ((oM c w).getD u.toNat []) t=_;rw[adz c w aZ h]
theorem aur{c:aW}(aA:hC c){w:z1'}{u:Int}{e:bY}(he:e∈ct c w u):ey e.1=1\/ey e.1=2/\i_ e.1=0:=(z_.1 (aA.z' (Gp he).1)).2.2.2.2.2
theorem R8{c:aW}(aA:hC c){w:z1'}{u:Int}{e:bY}(he:e∈ct c w u):0<=i_ e.1/\i_ e.1<=99:=(z_.1 (aA.z' (Gp he).1)).2.2.2.2.1
theorem KS{c:aW}(aA:hC c){w:z1'}(hw:iF c w=true){u:Int}(hu:0<=u/\u<=9)(t:Int):jb (eb c w u) t=(if (iq (ct c w u) t).2=true then i_ (iq (ct c w u) t).1.1 else -1,(iq (ct c w u) t).1.2)/\(decide ((jb (eb c w u) t).1>=0)=(iq (ct c w u) t).2):=by
 have e:=aup (ct c w u) t λe he=>(aur aA he).imp id And.left;rw[RV hw hu];refine⟨e,?_⟩;rw[e];cases V:(iq (ct c w u) t).2 with
 | false=>simp
 | true=>
  simp only[if_true,ajl];rcases ady (ct c w u) t with h | ⟨h,_⟩
  ·grind
  ·exact (R8 aA h).1
abbrev C2:aF:=⟨.ar (.bV uF) (.bV bp),dm,λx=>∃ k:Int,x.2=some k/\True,λx=>cg (x.2.getD 0) 0 9999⟩
theorem adC(x):aR (abu zZ.sh x) (C2.sh x):=bg λ_=>by
 unfold abu;rw[show zZ.sh (x.2.getD 0)=mpure (cg (x.2.getD 0) 0 9999) from rfl,aH]
theorem aus(x):aR (arV zZ.sh x) (C2.sh x):=adC x
def GD(t:gr)(m p:Int):Int:=(dA 0 9).foldl (λn u=>if (iq (t.2.getD u.toNat []) m).2=true then n+p else n) 0
abbrev R9:aF:=⟨.ar (.bV zX) (.ar (.bV bp) (.bV hk)),.ar bp .bool,λx=>∃ (t:gr) (m:Int) (c:aW),x=(some t,some m,some c)/\R7 t/\0<=c.2.2.2.2.2.2.2.2.2.2/\c.2.2.2.2.2.2.2.2.2.2<=100000,λx=>(GD (x.1.getD ([],[])) (x.2.1.getD 0) (x.2.2.getD wD).2.2.2.2.2.2.2.2.2.2,true)⟩
theorem aut(x):aR (abw Aj.sh x) (R9.sh x):=bg λh=>by
 obtain⟨t,m,c,rfl,E,M,ai⟩:=h;unfold abw e_ b1 bN aG bj a7 ay;simp only[aju];show _=mpure (GD t m c.2.2.2.2.2.2.2.2.2.2,true);rw[d' (dA 0 9) (λi (n:Int)=>(some t,m,c,n,(i:Int),())) (λu n=>.next (if (iq (t.2.getD u.toNat []) m).2=true then n+c.2.2.2.2.2.2.2.2.2.2 else n)) (λn=>.next (n,())) (λi n=>0<=n/\n<=100000*(i:Int)) 0 ?_ ?_ ?_ ?_]
 ·rw[cU,aH];rfl
 ·rfl
 ·omega
 ·intro i D n aC;have D:i<10:=by simpa [dA]using D
  have hw:=bc (n:=(i:Int)+1) (by omega) (by omega);have ft:=bc (n:=n+c.2.2.2.2.2.2.2.2.2.2) (by omega) (by omega);have an:decide ((i:Int)<10)=true:=by grind
  refine⟨?_,λbl da=>?_⟩
  ·simp only[an,if_true,pB,aK7];rw[show Aj.sh (some t,(i:Int),m)=mpure (iq (t.2.getD ((i:Int)).toNat []) m) from bJ ⟨t,rfl,E,by simp,by grind⟩ _];simp only[aH,cy,hw,ft,bq.ls];by_cases ah:(iq (t.2.getD ((i:Int)).toNat []) m).2=true
   ·simp only[ah,if_true,aH,cp,hw];rfl
   ·simp only[ah,ajh,ajq,aH,cp,hw];rfl
  grind
 ·intro n aC;have:(dA 0 9).length=10:=by decide
  simp[this]
theorem auu{c:aW}(aA:hC c){w:z1'}(hw:iF c w=true)(m:Int):GD (w,oM c w) m c.2.2.2.2.2.2.2.2.2.2=tp c w m*c.2.2.2.2.2.2.2.2.2.2:=by
 unfold GD tp;have key:∀ (L:z1') (n:Int),(∀ u∈L,0<=u/\u<=9)->L.foldl (λn u=>if (iq ((oM c w).getD u.toNat []) m).2=true then n+c.2.2.2.2.2.2.2.2.2.2 else n) (n*c.2.2.2.2.2.2.2.2.2.2)=(L.foldl (λn u=>if (jb (eb c w u) m).1>=0 then n+1 else n) n)*c.2.2.2.2.2.2.2.2.2.2:=by
  intro L;induction L with
  | nil=>simp
  | cons u L aP=>
   intro n h;have hu:=h u (by simp);obtain⟨_,M⟩:=KS aA hw hu m;simp only[aKd];rw[adz c w hu.1 hu.2];grind
 have:=key (dA 0 9) 0 λu hu=>r'.1 hu;grind
theorem auv(x):aR (aa' x5.sh CV.sh C2.sh R9.sh x) (x1.sh x):=bg λh=>by
 obtain⟨c,t⟩:=x;change gx c at h;unfold aa' aG;show _=mpure (x0 c t);unfold x0;rw[GB (b:=cg t 0 9999) h λhc=>bJ ⟨t,rfl,trivial⟩ _];rcases Ag c (cg t 0 9999) with⟨E,M,ai⟩ | ⟨E,M,ai,bf⟩
 ·rw[M,ai];simp only[aH,List.map_nil,adq];grind
 ·rw[E,bf];simp only[aH];rw[if_neg (by simp)];have aA:=ja M;have aq:=(CO.1 aA.xR).2.2.2.2.2.2;rw[R1 (v:=λw=>(tp c w t*c.2.2.2.2.2.2.2.2.2.2,true)) (GC h M) λw hw=>?_,aH,adr]
  ·rfl
  ·refine (bJ ⟨(w,oM c w),t,c,rfl,adA aA w,aq.1,aq.2⟩ _).trans (congrArg mpure ?_);show (GD (w,oM c w) t c.2.2.2.2.2.2.2.2.2.2,true)=_;rw[auu aA (wG hw)]
theorem adD(p:Int×Int)(m:z3')(k v:Int):gq (p::m) k v=if decide (k=p.1)=true then (p.1,v)::m else p::gq m k v:=rfl
theorem R_(k v:Int):∀ m:z3',((m.map (·.1)).Nodup->((gq m k v).map (·.1)).Nodup)/\∀ x,x∈(gq m k v).map (·.1)<->x∈m.map (·.1)\/x=k
 | []=>by
  rw[show gq [] k v=[(k,v)] from rfl];simp
 | p::m=>by
  obtain⟨E,M⟩:=R_ k v m;grind [adD]
theorem adE(k v:Int){B:Int}:∀ m:z3',(∀ p∈m,0<=p.2/\p.2<=B)->0<=v/\v<=B->∀ p∈gq m k v,0<=p.2/\p.2<=B
 | [],_,ab,p,aq=>by
  rw[show gq [] k v=[(k,v)] from rfl]at aq;grind
 | q::m,h,ab,p,aq=>by
  rw[adD]at aq;split at aq
  ·grind
  ·rcases List.mem_cons.1 aq with rfl | aq
   ·grind
   ·exact adE k v m (λx al=>h x (by grind)) ab p aq
def n7(c:aW)(w:z1')(u t:Int):Int:=if (iq (ct c w u) t).2=true then i_ (iq (ct c w u) t).1.1 else -1
def Ak(m:z3')(k:Int):Int:=Option.getD (Option.map (λx=>x.2) (List.find? (λp=>decide (k=p.1)) m)) 0
structure C3(L:z1')(i:Nat)(m:z3'):Prop where
 n1:(m.map (·.1)).Nodup
 mem:∀ x,x∈m.map (·.1)<->x∈L
 val:∀ p∈m,0<=p.2/\p.2<=(i:Int)
theorem C3.add{L:z1'}{i:Nat}{m:z3'}(h:C3 L i m)(k:Int)(D:i<=60):IntKind.wrap .i64 (Ak m k+1)=Ak m k+1/\C3 (L++[k]) (i+1) (gq m k (Ak m k+1)):=by
 have V:0<=Ak m k/\Ak m k<=i:=by
  unfold Ak;cases aw:m.find? λp=>decide (k=p.1) with
  | none=>simp
  | some p=>exact h.val p (aKn aw)
 refine⟨bc (by omega) (by omega),(R_ _ _ _).1 h.n1,λx=>?_,adE _ _ _ (λp aq=>by have:=h.val p aq;omega) (by omega)⟩;rw[(R_ _ _ _).2,h.mem];simp
theorem auw{c:aW}(aA:hC c){w:z1'}(hw:iF c w=true){u:Int}(hu:0<=u/\u<=9):((ct c w u).filter λe=>ey e.1 == 1).length<=11:=by
 have af:=Aa aA w u;by_cases aI2:(ct c w u).length=12
 ·have E:=(RU (KN hw hu) (by omega:1<(ct c w u).length)).1;have hm:=ajj (by omega:1<(ct c w u).length);have:((ct c w u).filter λe=>ey e.1 == 1).length<(ct c w u).length:=by
   refine List.length_filter_lt_length_iff_exists.2 ⟨_,hm,by grind⟩
  omega
 grind
theorem auy(c:aW)(w w':z1')(u:Int):(((ct c w u).filter λe=>ey e.1 == 1).map (·.1)).Perm (((ct c w' u).filter λe=>ey e.1 == 1).map (·.1)):=by
 have e:∀ w,((ct c w u).filter λe=>ey e.1 == 1).map (·.1)=((ct c w u).map (·.1)).filter λs=>ey s == 1:=λw=>by rw[List.filter_map];rfl
 grind [adn]
theorem R'(c:aW)(w:z1')(u t:Int):n7 c w u t=-1\/∃ s∈((ct c w u).filter λe=>ey e.1 == 1).map (·.1),n7 c w u t=i_ s:=by
 grind [n7,ady]
theorem auz{c:aW}(aA:hC c){u t:Int}(hu:0<=u/\u<=9){K:z1'}(aC:K.Nodup)(lp:∀ x∈K,x∈(dr c).map λw=>n7 c w u t):K.length<=12:=by
 cases be:dr c with
 | nil=>
  cases K with
  | nil=>simp
  | cons x K=>have:=lp x (by simp);grind
 | cons ei T=>
  have Cg:iF c ei=true:=wG (by grind);have s5:K ⊆ -1::(((ct c ei u).filter λe=>ey e.1 == 1).map (·.1)).map i_:=by
   intro x al;obtain⟨w,hw,rfl⟩:=List.mem_map.1 (lp x al);rcases R' c w u t with h | ⟨s,az,h⟩
   ·grind
   ·rw[h];exact ajp _ (aLG ((auy c w ei u).mem_iff.1 az))
  have:=aC.length_le_of_subset s5;grind [auw]
abbrev Sa:aF:=⟨.ar (.bV uF) (.ar (.bV bp) (.bV bp)),dm,λx=>∃ a b:Int,x.2=(some a,some b),λx=>sr (x.2.1.getD 0) (x.2.2.getD 0)⟩
theorem auA(x):aR (abm cS.sh zZ.sh x) (Sa.sh x):=bg λ_=>by
 unfold abm b3;rw[CR,aH,show zZ.sh (x.2.2.getD 0)=mpure (cg (x.2.2.getD 0) 0 9999) from rfl,oF,aH,xF];rfl
theorem adF{c:aW}(aA:hC c){w:z1'}(hw:iF c w=true){u:Int}(hu:0<=u/\u<=9)(t:Int):(jb (eb c w u) t).1=n7 c w u t:=by rw[(KS aA hw hu t).1];rfl
theorem auB(x):aR (aa6 x5.sh Aj.sh uK.sh KB.sh Sa.sh x) (x2.sh x):=uB λh=>by
 obtain⟨c,u,t⟩:=x;change gx c at h;unfold aa6 bU gC aL b1 bN aG aQ aB a7 ay a6;show dj _ λy=>y=n5 c u t;unfold n5 KQ;rw[GB (b:=sr u t) h λhc=>bJ ⟨u,t,rfl⟩ _];rcases Ag c (sr u t) with⟨E,M,ai⟩ | ⟨E,M,ai,bf⟩
 ·simp_all[eY]
 ·rw[bf];simp only[aH];rw[if_neg (by simp)];have aA:=ja M;have cJ:(0<=u/\u<=9)/\0<=t/\t<=9999:=by
   grind [sr,ra]
  have hu:=cJ.1;have hlen:=GC h M;simp only[aKf,bS];rw[hp];refine (D0 (p:=λz=>∃ m,z=.next (m,())/\C3 ((dr c).map λw=>n7 c w u t) 60 m) (λA=>∃ (i:Nat) (m:z3'),i<=(dr c).length/\A=((dr c).map (kt c),(((dr c).map (kt c)).length:Int),(i:Int),u,t,m,())/\C3 (((dr c).take i).map λw=>n7 c w u t) i m) (λA=>((dr c).length - A.2.2.1).toNat) ?_ _ ⟨0,[],aKr _,rfl,⟨.nil,by simp,by simp⟩⟩).mono ?_
  ·rintro A ⟨i,m,rS,rfl,bF⟩;by_cases D:i<(dr c).length
   ·have ea:i<((dr c).map (kt c)).length:=by grind
    have hw:=bc (n:=i+1) (by omega) (by omega);obtain⟨cd,a2⟩:=bF.add (n7 c (dr c)[i] u t) (by omega);have uR:((dr c).take (i+1)).map (λw=>n7 c w u t)=((dr c).take i).map (λw=>n7 c w u t)++[n7 c (dr c)[i] u t]:=by
     grind [List.take_add_one]
    simp only[ch,cT ea,c_ ea,cE ea,bS,aLm];rw[adB aA _ hu.1 hu.2,aH];have fin:∀ k,k=n7 c (dr c)[i] u t->(∃ (ns:Nat) (eh:z3'),ns<=(dr c).length/\(((dr c).map (kt c),(((dr c).map (kt c)).length:Int),IntKind.wrap .i64 (i+1),u,t,gq m k (IntKind.wrap .i64 (Ak m k+1)),()))=((dr c).map (kt c),(((dr c).map (kt c)).length:Int),(ns:Int),u,t,eh,())/\C3 (((dr c).take ns).map λw=>n7 c w u t) ns eh)/\((dr c).length - IntKind.wrap .i64 (i+1)).toNat<((dr c).length - (i:Int)).toNat:=by
     grind
    cases V:(iq (ct c (dr c)[i] u) t).2 with
    | true=>
     simp only[if_true];rw[aH];exact eY.2 (fin _ (by grind [n7]))
    | false=>
     simp only[ajh,ajq];rw[aH];exact eY.2 (fin (-1) (by grind [n7]))
   ·have auC:i=(dr c).length:=by omega
    subst auC;simp;refine eY.2 ⟨m,rfl,bF.n1,?_,λp aq=>by have:=bF.val p aq;omega⟩;have:=bF.mem;grind
  ·rintro z ⟨m,rfl,bF⟩;rw[cp];rw[show KB.sh m=mpure (k3 (some m)) from rfl,aH];have auD:m.length<=12:=by
    have:=auz aA hu   bF.n1 λx al=>(bF.mem x).1 al;grind
   rw[show uK.sh (k3 (some m))=mpure (fv iE (m.map (·.1))) from (bJ (acy (by omega)) _).trans (congrArg mpure acz),aH];refine eY.2 ?_;have ax:fv iE (m.map (·.1))=(dA (-1) 99).filter λg=>((dr c).map λw=>(jb (eb c w u) t).1).contains g:=by
    have RI:=aKA λw hw=>adF aA (wG hw) hu t;rw[RI];have D:(dA (-1) 99).Pairwise (·<·):=by
     grind [dA,List.pairwise_lt_range]
    refine Cw ((D.filter _).imp λh=>Int.le_of_lt h) ((aK4 bF.n1 ((D.filter _).imp λh=>by omega)).2 λk=>?_);rw[bF.mem,aLM,r'];simp only[aK8];refine⟨λah=>⟨?_,ah⟩,λah=>ah.2⟩;obtain⟨w,hw,rfl⟩:=List.mem_map.1 ah;rcases R' c w u t with h | ⟨s,az,h⟩
    ·omega
    ·obtain⟨e,he,rfl⟩:=List.mem_map.1 az;have:=R8 aA (List.mem_filter.1 he).1;omega
   grind
def Sb(c:aW)(l:List bY)(t:Int):Bool:=(iq l t).2&&decide (ly c.2.2.2.1 (iq l t).1.2 t>=c.2.2.2.2.2.2.2.2.1)
theorem auE{c:aW}(aA:hC c){w:z1'}(hw:iF c w=true){u:Int}(hu:0<=u/\u<=9)(t:Int):Sb c (ct c w u) t=x3 c w u t:=by
 grind [KS,Sb,x3]
theorem auF(x):aR (abj x5.sh Aj.sh qp.sh C2.sh x) (x4.sh x):=bg λh=>by
 obtain⟨c,t⟩:=x;change gx c at h;unfold abj aL b1 aG aQ aB bj a7 ay cM a6 fY;show _=mpure (nF c t);unfold nF;rw[GB (b:=cg t 0 9999) h λhc=>bJ ⟨t,rfl,trivial⟩ _];rcases Ag c (cg t 0 9999) with⟨E,M,ai⟩ | ⟨E,M,ai,bf⟩
 ·simp_all
 ·rw[E,bf];simp only[aH];have aA:=ja M;have aT:=ra.1 ai;have hlen:=GC h M;have be:∀ w∈dr c,iF c w=true:=λw hw=>wG hw;rw[d' (dA 0 9) (λi b=>(some (wF c),(i:Int),c,t,b.1,b.2,())) (λu b=>.next (if decide (ka c (dr c) u t=(dr c).length)=true then b.1++[u] else b.1,if decide (ka c (dr c) u t > 0)=true then b.2++[u] else b.2)) (λb=>.next (b.1,b.2,())) (λi b=>b.1.length<=i/\b.2.length<=i) ([],[]) ?_ (by simp) ?_ ?_]
  ·rw[cU];have key:∀ (p q:Int->Bool) (l:z1') (a b:z1'),l.foldl (λz u=>(if p u=true then z.1++[u] else z.1,if q u=true then z.2++[u] else z.2)) (a,b)=(a++l.filter p,b++l.filter q):=by
    intro p q l;induction l with
    | nil=>simp
    | cons u l aP=>
     simp;grind
   rw[key (λu=>decide (ka c (dr c) u t=(dr c).length)) (λu=>decide (ka c (dr c) u t > 0))];simp
  ·rfl
  ·intro i D b jz;have D:=by simpa [dA]using D
   have hw:=bc (n:=i+1) (by omega) (by omega);have an:decide ((i:Int)<10)=true:=by grind
   refine⟨?_,λbl da=>?_⟩
   ·simp only[an,pB,aK7,aKf,bS];rw[d' (dr c) (λk (n:Nat)=>(some (wF c),(i:Int),(n:Int),(i:Int),(dr c).map (kt c),(((dr c).map (kt c)).length:Int),(k:Int),c,t,b.1,b.2,())) (λw n=>.next (if x3 c w i t=true then n+1 else n)) (λn=>.next (some (wF c),i,n,i,c,t,b.1,b.2,())) (λk n=>n<=k) 0 ?_ (by simp) ?_ ?_]
    ·rw[cU];have key:∀ (l:List (z1')) (n:Nat),l.foldl (λn w=>if x3 c w i t=true then n+1 else n) n=n+ka c l i t:=by
      intro l;induction l with
      | nil=>intro n;rfl
      | cons w l aP=>
       grind [ka]
     rw[key,Nat.zero_add,aH,cp];have HN:((dr c).map (kt c)).length=(dr c).length:=aKD _;simp only[ch];have dO:bW (Add.add b.1.length (Add.add 0 1)):=ez (by grind);have jd:bW (Add.add b.2.length (Add.add 0 1)):=ez (by grind);have d1:decide ((ka c (dr c) i t:Int) > 0)=decide (ka c (dr c) i t > 0):=by simp
     have d2:decide ((ka c (dr c) i t)=((dr c).length:Int))=decide (ka c (dr c) i t=(dr c).length):=by grind
     rw[d1];cases E:decide (ka c (dr c) i t > 0)<;>cases M:decide (ka c (dr c) i t=(dr c).length)<;>
      simp only[if_true,ajh,ajq,bb dO,bb jd,aH,cp,aKf,bS,aju,HN,d2,M,cy,hw]<;>rfl
    ·rfl
    ·intro k ah n aC;have sk:k<((dr c).map (kt c)).length:=by grind
     have hw:=bc (n:=k+1) (by omega) (by omega);have ft:=bc (n:=n+1) (by omega) (by omega);have mL:=be _ (ajj ah);have kM:=CP M mL;have hu:0<=(i:Int)/\(i:Int)<=9:=by omega
     have sZ:=auE aA mL hu t;obtain⟨cj,dM⟩:=KS aA mL hu t;refine⟨?_,λbl da=>?_⟩
     ·simp only[ch,cT sk,c_ sk,cE sk,cy,aLm];rw[adB aA _ hu.1 hu.2,aH,<-sZ];unfold Sb;cases V:(iq (ct c (dr c)[k] i) t).2 with
      | true=>
       have Ii:CN (c,(iq (ct c (dr c)[k] i) t).1.2,t):=by
        have:=ac5 aA kM aT.2 (u:=i)   (by grind);grind
       have auG:qp.sh (c,(iq (ct c (dr c)[k] i) t).1.2,t)=mpure (ly c.2.2.2.1 (iq (ct c (dr c)[k] i) t).1.2 t):=bJ Ii _;simp only[auG,h1,eV,aKO,aLS,bS,aK0];by_cases hm:ly c.2.2.2.1 (iq (ct c (dr c)[k] i) t).1.2 t>=c.2.2.2.2.2.2.2.2.1
       ·simp_all
       ·simp only[hm,aKe,ajh,ajq,aH,cp,hw];rfl
      | false=>
       simp_all
     grind
    simp
   grind
  ·intro b jz;rfl
variable (auH:aW->G Bool) (aI3:Int->G Bool) (auI:Unit->G Bool) (Sc:aW×Int×Int->G (z1'×Int)) (GF:aW->G aW) (aI4:aW×Unit->G (Int×Int×Int×Int×Int×Int×Int×z3'×List bC×z1'×z3'×Unit)) (aI5:z1'×Int->G Bool) (auJ:z1'×z1'->G Bool) (Sd adG:aW×Int->G ((Int×Int)×Int)) (Ra:sc×Int->G Int) (aI6:(Int×Int)×Int×Int->G Bool) (adH:aW×Int->G ((Int×Int)×Int)) (Kq:aW->G (List bC)) (Se:aW×Int->G ((Int×Int)×Int)) (Sf:aW->G Bool) (zW xM:aW->G Int) (adI:aW×Int×Int->G (z1'×Int)) (Sg aI7 aI8 Sh Si Sj:aW×Int->G ((Int×Int)×Int)) (auK:aW×aW->G Bool) (adJ Sk:aW×Int->G (z1'×z1'×Int)) (aI9:Unit->G aW)
def adK(x:aW):G Bool:=
 if cN (aB x.1) 20||cN (aB x.2.1) 40||cN (aB x.2.2.1) 60||cN (aB x.2.2.2.1) 40 then hO else ao (xM x) λy=>aG (y≠0) hy (bj (λA=>letI d:=A.2.2.1;letI c:=aL d.1 A.2.1 (0,0);dn A.2.1 d.1 (a6 A.2.1 d.1 (ay (IntKind.wrap .i64 (A.1*aQ (cu c.2 c.1)),aQ A.2.1,d,()))) (a7 (A.1,()))) (1,0,x,()) (λA=>mpure (cN A.1 60)))
end Go.Fer.H
namespace Go.Fer.H
def mq(c:aW):Bool:=decide (c.1.length > 20)||decide (c.2.1.length > 40)||decide (c.2.2.1.length > 60)||decide (c.2.2.2.1.length > 40)||(decide (cA c=0)&&decide (jI c.1 > 60))
theorem adL:∀ (l:z3') (n:Nat),l.foldl (λn s=>n*(s.2 - s.1+1).toNat) n=n*jI l
 | [],n=>by simp[jI]
 | s::l,n=>by simp  [jI];rw[adL l,Nat.mul_assoc]
abbrev x8:aF:=⟨hk,dm,jw,mq⟩
theorem auL(x):aR (adK gR.sh x) (x8.sh x):=bg λh=>by
 unfold adK cN dn aL aG aQ aB bj a7 ay hy hO a6 cu;show _=mpure (mq x);by_cases az:(decide ((x.1.length) > 20)||decide ((x.2.1.length) > 40)||decide ((x.2.2.1.length) > 60)||decide ((x.2.2.2.1.length) > 40))=true
 ·unfold mq;grind
 ·rw[show gR.sh x=mpure (cA x) from bJ h _,aH];have e:mq x=(decide (cA x=0)&&decide (jI x.1 > 60)):=by
   unfold mq;grind
  by_cases hc:cA x=0
  ·have aA:=ja hc;have aC:=aA.dI;rw[d' x.1 (λi (n:Nat)=>((n:Int),(i:Int),x,())) (λs n=>.next (n*(s.2 - s.1+1).toNat)) (λn=>.next (n,())) (λi n=>n<=61 ^ i) 1 ?_ ?_ ?_ ?_]
   ·rw[cU,adL,aH,cp];grind
   ·rfl
   ·simp
   ·intro i D n j8;have ah:=aA.clk _ (ajj D);have hw:=bc (n:=i+1) (by omega) (by omega);have cj:=bc (n:=x.1[i].2 - x.1[i].1) (by omega) (by omega);have dM:=bc (n:=x.1[i].2 - x.1[i].1+1) (by omega) (by omega);have xh:((n*(x.1[i].2 - x.1[i].1+1).toNat))=n*(x.1[i].2 - x.1[i].1+1):=by
     grind
    have hm:n*(x.1[i].2 - x.1[i].1+1).toNat<=61 ^ (i+1):=by
     exact Nat.mul_le_mul j8 (by omega)
    have JU:n*(x.1[i].2 - x.1[i].1+1).toNat<=61 ^ 4:=aKa hm (aKT (by omega) (by omega));have hi:=bc (n:=n*(x.1[i].2 - x.1[i].1+1)) (by omega) (by omega);simp_all
   simp
  grind
end Go.Fer.H
namespace Go.Fer
abbrev a1:Type:=List UInt8
abbrev bk:Type:=aS×H.aW
abbrev C4:Type:=z2'×List (List (Int×z1'×Int×Int))×Int×Int×z2'×z1'×List lZ×List jQ×List fM×Unit
abbrev C5:Type:=Int×Bool×Option Nat
abbrev mr(l:List (a1×C5))(a:a1)(b:C5):List (a1×C5):=nS (k:=.str) (v:=.ae (.ar (.int .i64) (.ar .bool .e3))) l a b
variable (Sl:bk->G Int) (auM:bk×Unit->G (bk×Unit)) (auN:Unit->G (List (a1×Int×Bool×Option Nat))) (auO:List (a1×Int×Bool×Option Nat)×a1×bk×Unit->G (a1×bk×Unit)) (F5:aS->G Int) (zW:H.aW->G Int) (Sm:H.aW×z7'×z1'->G (H.aW×Int)) (auP:aS->G aS) (auQ:a1×a1->G (List a1)) (auR:a1->G (Int×Bool)) (auS:Nat->z1'×bk×Unit->G (a1×bk×Unit)) (Sn:z7'×z1'×bk×Unit->G (a1×bk×Unit)) (auT:Int->G a1) (auU:List a1×a1->G a1) (auV:List jQ->G (List jQ)) (auW:Int×Int×List jQ×Unit->G ((Nat×Nat)×List jQ×Unit)) (auX:H.aW×H.aW->G Bool) (auY:bL×bL->G Bool) (GG:z1'×z1'->G Bool) (auZ:a1->G (List a1)) (au0:a1->G Int) (au1:Unit->G (List a1×z1'×z1')) (adM:bk×List a1->G Bool) (au2:Int->G a1) (Kj:aS->G aS) (GF:H.aW->G H.aW) (GH:bk->G Int) (adN:aS->G Bool) (Sf:H.aW->G Bool) (Co:z2'×List (List (Int×z1'×Int×Int))×Int×z2'->G Int) (aI_:Unit->G Bool) (aI':a1×z1'->G a1) (Sp:bk->G bk) (Sq:bk×List a1->G (List a1×bk×Int)) (aJa:List a1×Int->G Bool) (Sr:bk×bk->G Bool) (aJb:H.aW->G (List a1)) (xM:H.aW->G Int) (aJc:H.aW×H.aW×Int×Int×Int×Int->G Bool) (Ke:bL×Int×Int×Int->G (Int×Int)) (Kd:bL×Int->G ((Int×Int)×Int)) (GI:aS×Unit->G (C4)) (Cq:z2'×List (List (Int×z1'×Int×Int))×Int×z2'->G Int) (KT:aS×bk×Unit->G (a1×bk×Unit)) (aJd:bk×List a1×Int->G Bool) (Ss:Unit->G Bool) (KU:List a1×List a1->G Bool) (aJe:a1->G a1) (St:a1->G (a1×z1'×Bool)) (aJf:a1->G Bool) (aJg:a1×z1'->G a1) (adG Sd Se adH:H.aW×Int->G ((Int×Int)×Int)) (KV:(Int×Int)×Int->G a1) (Sc:H.aW×Int×Int->G (z1'×Int)) (aJh:z1'×z1'->G Bool) (adJ:H.aW×Int->G (z1'×z1'×Int)) (adO:aS×Int->G (z1'×Int)) (adP adQ:aS->G (Int×Int)) (au3:Unit->G bk) (zT:aS->G Int) (adR:aS×z1'->G (Int×Int)) (au4:z1'×Unit->G (z1'×Unit)) (x9:Int×z1'->G a1) (KW:z1'->G a1) (aJi:z1'×Int->G a1) (aJj:(Int×Int)×Int->G a1) (KX:z1'->G a1) (c0:z2'->G (z2')) (bx:List (List (Int×z1'×Int×Int))->G (List (List (Int×z1'×Int×Int)))) (c2:z2'->G (z2')) (c3:List (Int×z1'×Int×Int)×Unit->G (List (Int×z1'×Int×Int)×Unit)) (c4:z1'->G (z1')) (c5:List lZ->G (List lZ)) (oi:List jQ->G (List jQ)) (qR:z4'->G (z4'))
def adS(x:bk):G Int:=
 ao (zT x.1) λy=>b3 (!(eM y 0)) (xM x.2) 0 λb8=>if eM y 0||eM b8 0 then mpure 120 else mpure 0
def adT(x:bk×List a1):G (List a1×bk×Int):=
 ao (Sl x.1) λy=>aG (y≠0) (mpure ([],((([],[],0,[]),[],[],[],[],0),[],[],[],[],0,0,0,0,0,0,0),y)) (aG (aB x.2 > 40) (mpure ([],((([],[],0,[]),[],[],[],[],0),[],[],[],[],0,0,0,0,0,0,0),2)) (ao (auM (x.1,())) (λy=>ao (auN ()) λb8=>bj (λ(A:List (a1×Int×Bool×Option Nat)×List a1×Int×Int×List a1×Int×Int×Int×Int×Int×Int×Int×Int×Int×bk×Unit)=>letI f:=A.2.2.2;letI e:=f.2.2.2.2;letI g:=e.2.2.2.2;aG (f.1<A.2.2.1) (a6 f.1 A.2.1 (ao (auO (A.1,aL A.2.1 f.1 [],g.2.2.2.1,())) (λy=>cM f.2.1 (ay (A.1,A.2.1,A.2.2.1,aQ f.1,f.2.1++[y.1],f.2.2.1,f.2.2.2.1,e.1,e.2.1,e.2.2.1,e.2.2.2.1,g.1,g.2.1,g.2.2.1,y.2.1,()))))) (a7 (f.2.1,f.2.2.1,f.2.2.2.1,e.1,e.2.1,e.2.2.1,e.2.2.2.1,g.1,g.2.1,g.2.2.1,g.2.2.2.1,()))) (b8,x.2,aB x.2,0,[],0,0,0,0,0,0,0,0,0,y.1,()) λA=>ad True (mpure (A.1,A.2.2.2.2.2.2.2.2.2.2.1,0)))))
def adU(x:bk):G Int:=
 ao (F5 x.1) λy=>b3 (!(eM y 0)) (zW x.2) 0 λb8=>if eM y 0||eM b8 0 then mpure 120 else mpure 0
def adV(x:bk×Unit):G (bk×Unit):=
 letI a:=auP x.1.1;ao (Sm (x.1.2,[],[])) λy=>bT a (mpure ((G.val a (([],[],0,[]),[],[],[],[],0),y.1),()))
def au5(x:Unit):G (List (a1×Int×Bool×Option Nat)):=
 mpure (mr (mr (mr (mr (mr (mr (mr (mr (mr (mr (mr (mr (mr (mr (mr (mr (mr (mr (mr (mr [] [108,101,110,100] (5,false,some 119)) [98,97,99,107] (4,false,some 120)) [118,111,105,100] (1,false,some 121)) [108,97,115,116,115] (1,false,some 122)) [102,101,101] (1,false,some 123)) [111,119,101,115] (1,false,some 124)) [104,101,108,100] (1,false,some 125)) [119,104,101,114,101] (2,false,some 126)) [109,105,115,115,105,110,103] (1,false,some 127)) [116,114,105,97,108] (4,false,some 128)) [102,105,116,115] (3,false,some 129)) [115,116,111,99,107] (2,false,some 130)) [99,111,109,101,115] (3,false,some 131)) [112,105,101,99,101] (4,true,some 132)) [119,105,115,104] (5,true,some 133)) [100,114,111,112] (1,false,some 134)) [99,97,110] (1,false,some 135)) [116,97,107,101,115] (0,true,some 136)) [109,111,115,116] (0,false,some 137)) [101,120,116,114,97] (0,false,some 138))
def adW(x:List (a1×Int×Bool×Option Nat)×a1×bk×Unit):G (a1×bk×Unit):=
 ao (auQ (x.2.1,[32])) λy=>letI j:=aB y;letI i:=eC y [];letI g:=List.drop (Int.toNat 1) (y.take j.toNat);dJ y (bN (!(gC (λp=>bU i p.1) x.1).isSome||decide (cu j 1<((gC (λp=>bU i p.1) x.1).getD (0,false,none)).1)||cN (cu j 1) ((gC (λp=>bU i p.1) x.1).getD (0,false,none)).1&&!((gC (λp=>bU i p.1) x.1).getD (0,false,none)).2.1) (mpure ([63],x.2.2.1,())) (b1 (ad ((0:Int)<=1/\1<=j/\j<=j) (dG (λA=>letI h:=A.2.2;aG (h.1<A.2.1) (a6 h.1 A.1 (ao (auR (aL A.1 h.1 [])) (λy=>bN (!y.2) (b_ ([63],h.2.2.2.1,())) (cM h.2.2.1 (ay (A.1,A.2.1,aQ h.1,h.2.1,h.2.2.1++[y.1],h.2.2.2.1,())))))) (a7 (h.2.1,h.2.2.1,h.2.2.2.1,()))) (g,aB g,0,(gC (λp=>bU i p.1) x.1).getD (0,false,none),[],x.2.2.1,()))) (λA=>ao (ad (∃ (k:Nat),List.Mem k [119,120,121,122,123,124,125,126,127,128,129,130,131,132,133,134,135,136,137,138]/\A.1.2.2=some k) (auS (A.1.2.2.getD 0) (A.2.1,A.2.2.1,()))) λy=>mpure (y.1,y.2.1,()))))
def adX(x:z1'×bk×Unit):G (a1×bk×Unit):=
 letI c:=x.1.getD;letI b:=aB x.1;dJ x.1 (ad ((0:Int)<=1/\1<b) (ad ((0:Int)<=2/\2<b) (ad ((0:Int)<=3/\3<b) (ad ((0:Int)<=4/\4<b) (ao (Sn ([(eC x.1 0,c (Int.toNat 1) 0,c (Int.toNat 2) 0,1,c (Int.toNat 3) 0,c (Int.toNat 4) 0)],[],x.2.1,())) (λy=>mpure (y.1,y.2.1,())))))))
def adY(x:z7'×z1'×bk×Unit):G (a1×bk×Unit):=
 ad True (ao (Sm (x.2.2.1.2,x.1,x.2.1)) (λy=>aG (y.2≠0) (mpure ([110,111],x.2.2.1,())) (ad True (mpure ([111,107],(x.2.2.1.1,y.1),())))))
def adZ(x:z1'×bk×Unit):G (a1×bk×Unit):=
 dJ x.1 (ad ((0:Int)<=1/\1<aB x.1) (ad ((0:Int)<=2/\2<aB x.1) (ad ((0:Int)<=3/\3<aB x.1) (ao (Sn ([(eC x.1 0,x.1.getD (Int.toNat 1) 0,x.1.getD (Int.toNat 2) 0,2,x.1.getD (Int.toNat 3) 0,0)],[],x.2.1,())) (λy=>mpure (y.1,y.2.1,()))))))
def ad0(x:z1'×bk×Unit):G (a1×bk×Unit):=
 ao (Sn ([],x.1,x.2.1,())) λy=>mpure (y.1,y.2.1,())
def ad1(x:z1'×bk×Unit):G (a1×bk×Unit):=
 letI c:=adG (x.2.1.2,eC x.1 0);letI b:=KV (G.val c ((0,0),0));ad True (dJ x.1 (bT c (bT b (mpure (G.val b [],x.2.1,())))))
def ad2(x:(Int×Int)×Int):G a1:=
 ao (x9 (x.2,[x.1.1,x.1.2])) λy=>mpure y
def ad3(x:Int×z1'):G a1:=
 aG (x.1=0) (ao (KW x.2) (λy=>mpure y)) (aG (x.1=3) (mpure [110,111,110,101]) (mpure [110,111]))
def ad4(x:z1'):G a1:=
 aG (aB x=0) (mpure [110,111,110,101]) (bj (λA=>letI c:=A.2.2;aG (c.1<A.2.1) (a6 c.1 A.1 (ao (auT (aL A.1 c.1 0)) (λy=>cM c.2.1 (ay (A.1,A.2.1,aQ c.1,c.2.1++[y],()))))) (a7 (c.2.1,()))) (x,aB x,0,[],()) (λA=>ao (auU (A.1,[32])) λy=>mpure y))
def ad5(x:z1'×bk×Unit):G (a1×bk×Unit):=
 letI c:=Sd (x.2.1.2,eC x.1 0);letI b:=KV (G.val c ((0,0),0));ad True (dJ x.1 (bT c (bT b (mpure (G.val b [],x.2.1,())))))
def ad6(x:z1'×bk×Unit):G (a1×bk×Unit):=
 letI c:=Se (x.2.1.2,eC x.1 0);letI b:=KV (G.val c ((0,0),0));ad True (dJ x.1 (bT c (bT b (mpure (G.val b [],x.2.1,())))))
def ad7(x:z1'×bk×Unit):G (a1×bk×Unit):=
 letI c:=adH (x.2.1.2,eC x.1 0);letI b:=KV (G.val c ((0,0),0));ad True (dJ x.1 (bT c (bT b (mpure (G.val b [],x.2.1,())))))
def ad8(x:z1'×bk×Unit):G (a1×bk×Unit):=
 letI d:=Sc (x.2.1.2,eC x.1 0,x.1.getD (Int.toNat 1) 0);letI c:=G.val d ([],0);letI f:=(!(eM c.2 0))=true;letI e:=aB c.1;ad True (dJ x.1 (ad ((0:Int)<=1/\1<aB x.1) (bT d (ad (f->(f/\True)/\((0:Int)<=0/\0<e)/\True) (if eM c.2 0||decide (eC c.1 (0:Int)>=0) then ao (x9 (c.2,c.1)) λy=>mpure (y,x.2.1,()) else aG (e=1) (mpure ([115,104,111,112],x.2.1,())) (ad ((0:Int)<=1/\1<=e/\e<=e) (ao (KW ((List.take (Int.toNat e) c.1).drop (Int.toNat 1))) (λy=>ad (bW (Add.add (Add.add (Add.add (Add.add (Add.add (Add.add 0 1) 1) 1) 1) 1) y.length)) (mpure ([115,104,111,112,32]++y,x.2.1,()))))))))))
def ad9(x:z1'×bk×Unit):G (a1×bk×Unit):=
 letI c:=adJ (x.2.1.2,eC x.1 0);letI b:=G.val c ([],[],0);ad True (dJ x.1 (bT c (aG (b.2.2≠0) (ao (x9 (b.2.2,[])) (λy=>mpure (y,x.2.1,()))) (ao (KW b.1) (λy=>ad (bW (Add.add y.length (Add.add (Add.add (Add.add 0 1) 1) 1))) (ao (KW b.2.1) (λb8=>ad (bW (Add.add (y++[32,47,32]).length b8.length)) (mpure (y++[32,47,32]++b8,x.2.1,())))))))))
def ad_(x:z1'×bk×Unit):G (a1×bk×Unit):=
 ad True (ao (GI (x.2.1.1,())) (λy=>letI f:=y.2.2.2.2;letI e:=(y.1,y.2.1,y.2.2.1,f.1++[(eC x.1 0,x.1.getD (Int.toNat 1) 0,x.1.getD (Int.toNat 2) 0,x.1.getD (Int.toNat 3) 0)]);letI g:=Kd (e,eC x.1 0);ad True (dJ x.1 (ad ((0:Int)<=1/\1<aB x.1) (ad ((0:Int)<=2/\2<aB x.1) (ad ((0:Int)<=3/\3<aB x.1) (cM f.1 (ad True (ad True (ao (Cq e) (λb8=>aG (b8≠0) (mpure ([110,111],x.2.1,())) (ad True (dJ x.1 (bT g (aG ((G.val g ((0,0),0)).2≠0) (mpure ([108,105,97,114],x.2.1,())) (ad True (mpure ([111,107],((e,f.2.1,f.2.2.1,f.2.2.2.1,f.2.2.2.2.1,y.2.2.2.1),x.2.1.2),()))))))))))))))))))
def ad'(x:z1'×bk×Unit):G (a1×bk×Unit):=
 letI c:=Ke (x.2.1.1.1,eC x.1 0,x.1.getD (Int.toNat 1) 0,x.1.getD (Int.toNat 2) 0);ad True (dJ x.1 (ad ((0:Int)<=1/\1<aB x.1) (ad ((0:Int)<=2/\2<aB x.1) (bT c (aG ((G.val c (0,0)).2≠0) (ao (x9 ((G.val c (0,0)).2,[])) (λy=>mpure (y,x.2.1,()))) (ad (0<=(G.val c (0,0)).1/\(G.val c (0,0)).1<Int.ofNat 4) (mpure (List.getD [[],[115,117,114,101,108,121],[110,101,118,101,114],[112,101,114,104,97,112,115]] (Int.toNat (G.val c (0,0)).1) [],x.2.1,()))))))))
def aea(x:z1'×bk×Unit):G (a1×bk×Unit):=
 letI f:=eC x.1 0;ad True (ao (GI (x.2.1.1,())) (λy=>letI e:=y.2.2.2.2.2;dJ x.1 (aG (f>=aB e.1) (mpure ([110,111],x.2.1,())) (dJ x.1 (a6 f e.1 (ad ((0:Int)<=1/\1<aB x.1) (a6 f e.1 (ao (KT (((y.1,y.2.1,y.2.2.1,y.2.2.2.2.1),List.set e.1 f.toNat (e_ (aL e.1 f 0) (x.1.getD (Int.toNat 1) 0)),e.2.1,e.2.2.1,e.2.2.2.1,y.2.2.2.1),x.2.1,())) (λy=>mpure (y.1,y.2.1,()))))))))))
def aeb(x:aS×bk×Unit):G (a1×bk×Unit):=
 ao (F5 x.1) λy=>aG (y≠0) (mpure ([110,111],x.2.1,())) (ad True (mpure ([111,107],(x.1,x.2.1.2),())))
def aec(x:z1'×bk×Unit):G (a1×bk×Unit):=
 ad True (ao (GI (x.2.1.1,())) (λy=>letI c:=y.2.2.2.2.2;dJ x.1 (ad ((0:Int)<=1/\1<aB x.1) (ad ((0:Int)<=2/\2<aB x.1) (cM c.2.2.2.1 (ao (KT (((y.1,y.2.1,y.2.2.1,y.2.2.2.2.1),c.1,c.2.1,c.2.2.1,c.2.2.2.1++[(eC x.1 0,x.1.getD (Int.toNat 1) 0,x.1.getD (Int.toNat 2) 0)],y.2.2.2.1),x.2.1,())) (λy=>mpure (y.1,y.2.1,()))))))))
def aed(x:z1'×bk×Unit):G (a1×bk×Unit):=
 letI c:=aB x.1;ad True (ao (GI (x.2.1.1,())) (λy=>letI d:=y.2.2.2.2.2;dJ x.1 (ad ((0:Int)<=1/\1<c) (ad ((0:Int)<=2/\2<c) (ad ((0:Int)<=3/\3<c) (ad ((0:Int)<=4/\4<=c/\c<=c) (cM d.2.1 (ao (KT (((y.1,y.2.1,y.2.2.1,y.2.2.2.2.1),d.1,d.2.1++[(eC x.1 0,x.1.getD (Int.toNat 1) 0,x.1.getD (Int.toNat 2) 0,x.1.getD (Int.toNat 3) 0,List.drop (Int.toNat 4) (x.1.take c.toNat))],d.2.2.1,d.2.2.2.1,y.2.2.2.1),x.2.1,())) (λy=>mpure (y.1,y.2.1,()))))))))))
def aee(x:z1'×bk×Unit):G (a1×bk×Unit):=
 letI e:=x.1.getD;letI c:=aB x.1;ad True (ao (GI (x.2.1.1,())) (λy=>letI d:=y.2.2.2.2.2;dJ x.1 (ad ((0:Int)<=1/\1<c) (ad ((0:Int)<=2/\2<c) (ad ((0:Int)<=3/\3<c) (ad ((0:Int)<=4/\4<c) (ad ((0:Int)<=5/\5<=c/\c<=c) (cM d.2.2.1 (ao (KT (((y.1,y.2.1,y.2.2.1,y.2.2.2.2.1),d.1,d.2.1,d.2.2.1++[(List.drop (Int.toNat 5) (x.1.take c.toNat),(eC x.1 0,e (Int.toNat 1) 0),e (Int.toNat 2) 0,e (Int.toNat 3) 0,e (Int.toNat 4) 0)],d.2.2.2.1,y.2.2.2.1),x.2.1,())) (λy=>mpure (y.1,y.2.1,())))))))))))
def aef(x:z1'×bk×Unit):G (a1×bk×Unit):=
 letI f:=eC x.1 0;letI e:=x.2.1.1.2;letI d:=auV e.2.2.1;dJ x.1 (ad True (aG (f>=aB e.2.2.1) (mpure ([110,111],x.2.1,())) (ad True (bT d (dJ x.1 (dJ x.1 (ao (auW (f,aQ f,G.val d [],())) (λy=>ad True (mpure ([111,107],((x.2.1.1.1,e.1,e.2.1,List.drop y.1.1 (y.2.1.take y.1.2),e.2.2.2),x.2.1.2),()))))))))))
def aeg(x:z1'×bk×Unit):G (a1×bk×Unit):=
 letI b:=adO (x.2.1.1,eC x.1 0);ad True (dJ x.1 (bT b (ao (x9 ((G.val b ([],0)).2,(G.val b ([],0)).1)) (λy=>mpure (y,x.2.1,())))))
def aeh(x:z1'×bk×Unit):G (a1×bk×Unit):=
 ao (au4 (x.1,())) λy=>bj (λA=>letI c:=A.2;aG (c.1<A.1) (a6 c.1 c.2.1 (a6 c.1 c.2.1 (ay (A.1,aQ c.1,List.set c.2.1 c.1.toNat (cu (aL c.2.1 c.1 0) 1),c.2.2.1,())))) (a7 (c.2.1,c.2.2.1,()))) (aB y.1,0,y.1,x.2.1,()) λA=>ad True (ao (adR (A.2.1.1,A.1)) (λy=>ao (x9 (y.2,[y.1])) λy=>mpure (y,A.2.1,())))
def aei(x:z1'×bk×Unit):G (a1×bk×Unit):=
 ad True (ao (adP x.2.1.1) (λy=>ao (x9 (y.2,[y.1])) λy=>mpure (y,x.2.1,())))
def aej(x:z1'×bk×Unit):G (a1×bk×Unit):=
 ad True (ao (adQ x.2.1.1) (λy=>ao (x9 (y.2,[y.1])) λy=>mpure (y,x.2.1,())))
def aek(x:bk×bk):G Bool:=
 letI z:=x.2.1.2.2;letI w:=x.1.1.2.2;ao (auX (x.1.2,x.2.2)) λy=>b3 (!(!y)) (auY (x.1.1.1,x.2.1.1)) false λb8=>b3 (!(!y||!b8)) (GG (x.1.1.2.1,x.2.1.2.1)) false λdZ=>bN (!y||!b8||!dZ||eM (aB w.1) (aB z.1)||eM (aB w.2.1) (aB z.2.1)||eM (aB w.2.2.1) (aB z.2.2.1)||eM w.2.2.2 z.2.2.2) hy (bj (λA=>letI cd:=A.2.2.1;letI t:=aL A.2.1.2.2.1 A.1 (0,0,0,0,[]);letI s:=aL cd.2.2.1 A.1 (0,0,0,0,[]);letI o:=eM t.1 s.1||eM t.2.1 s.2.1||eM t.2.2.1 s.2.2.1||eM t.2.2.2.1 s.2.2.2.1;dn A.1 A.2.1.2.2.1 (a6 A.1 cd.2.2.1 (b3 (!o) (GG (t.2.2.2.2,s.2.2.2.2)) false (λy=>bN (o||!y) (b_ false) (ay (aQ A.1,A.2.1,cd,()))))) (a7 (A.2.1,cd,()))) (0,x.1.1,x.2.1,()) (λA=>bj (λA=>letI cm:=A.2.2.1;letI q:=aL A.2.1.2.2.2.1 A.1 ([],(0,0),0,0,0);letI p:=aL cm.2.2.2.1 A.1 ([],(0,0),0,0,0);dn A.1 A.2.1.2.2.2.1 (a6 A.1 cm.2.2.2.1 (ao (GG (q.1,p.1)) (λy=>bN (!y||!(bU q.2.1.1 p.2.1.1&&bU q.2.1.2 p.2.1.2)||eM q.2.2.1 p.2.2.1||eM q.2.2.2.1 p.2.2.2.1||eM q.2.2.2.2 p.2.2.2.2) (b_ false) (ay (aQ A.1,A.2.1,cm,()))))) (a7 (A.2.1,cm,()))) (0,A.1,A.2.1,()) λA=>bj (λA=>letI v:=aL A.2.1.2.2.2.2.1 A.1 (0,0,0);letI u:=aL A.2.2.1.2.2.2.2.1 A.1 (0,0,0);dn A.1 A.2.1.2.2.2.2.1 (a6 A.1 A.2.2.1.2.2.2.2.1 (bN (!(bU v.1 u.1&&(bU v.2.1 u.2.1&&bU v.2.2 u.2.2))) (b_ false) (ay (aQ A.1,A.2.1,A.2.2.1,())))) (a7 ())) (0,A.1,A.2.1,()) λA=>hO))
def ael(x:H.aW×H.aW):G Bool:=
 letI t:=x.2.2.2.2.2.2;letI s:=x.1.2.2.2.2.2;letI q:=eM (aB x.1.1) (aB x.2.1)||eM (aB x.1.2.1) (aB x.2.2.1);b3 (!q) (GG (x.1.2.2.1,x.2.2.2.1)) false λy=>bN (q||!y||eM (aB x.1.2.2.2.1) (aB x.2.2.2.2.1)||!(bU x.1.2.2.2.2.1 x.2.2.2.2.2.1&&(bU s.1 t.1&&(bU s.2.1 t.2.1&&(bU s.2.2.1 t.2.2.1&&(bU s.2.2.2.1 t.2.2.2.1&&(bU s.2.2.2.2.1 t.2.2.2.2.1&&bU s.2.2.2.2.2 t.2.2.2.2.2))))))) hy (bj (λA=>letI cd:=A.2.2.1;letI z:=aL A.2.1.1 A.1 (0,0);letI w:=aL cd.1 A.1 (0,0);dn A.1 A.2.1.1 (a6 A.1 cd.1 (bN (!(bU z.1 w.1&&bU z.2 w.2)) (b_ false) (ay (aQ A.1,A.2.1,cd,())))) (a7 (A.2.1,cd,()))) (0,x.1,x.2,()) (λA=>bj (λA=>letI cm:=A.2.2.1;letI p:=aL A.2.1.2.1 A.1 (0,0,0,0,0,0);letI o:=aL cm.2.1 A.1 (0,0,0,0,0,0);dn A.1 A.2.1.2.1 (a6 A.1 cm.2.1 (bN (!(bU p.1 o.1&&(bU p.2.1 o.2.1&&(bU p.2.2.1 o.2.2.1&&(bU p.2.2.2.1 o.2.2.2.1&&(bU p.2.2.2.2.1 o.2.2.2.2.1&&bU p.2.2.2.2.2 o.2.2.2.2.2)))))) (b_ false) (ay (aQ A.1,A.2.1,cm,())))) (a7 (A.2.1,cm,()))) (0,A.1,A.2.1,()) λA=>bj (λA=>letI v:=aL A.2.1.2.2.2.1 A.1 (0,0);letI u:=aL A.2.2.1.2.2.2.1 A.1 (0,0);dn A.1 A.2.1.2.2.2.1 (a6 A.1 A.2.2.1.2.2.2.1 (bN (!(bU v.1 u.1&&bU v.2 u.2)) (b_ false) (ay (aQ A.1,A.2.1,A.2.2.1,())))) (a7 ())) (0,A.1,A.2.1,()) λA=>hO))
def aem(x:z1'×z1'):G Bool:=
 aG (aB x.1≠aB x.2) hy (bj (λA=>letI c:=A.2.2.1;dn c A.1 (a6 c A.2.1 (aG (aL A.1 c 0≠aL A.2.1 c 0) (b_ false) (ay (A.1,A.2.1,aQ c,())))) (a7 ())) (x.1,x.2,0,()) (λA=>hO))
def aen(x:bL×bL):G Bool:=
 bN (eM (aB x.1.1) (aB x.2.1)||eM (aB x.1.2.1) (aB x.2.2.1)||eM x.1.2.2.1 x.2.2.2.1||eM (aB x.1.2.2.2) (aB x.2.2.2.2)) hy (bj (λA=>letI t1:=A.2.2.1;letI aY:=aL A.2.1.1 A.1 (0,0,0,0);letI i1:=aL t1.1 A.1 (0,0,0,0);dn A.1 A.2.1.1 (a6 A.1 t1.1 (bN (!(bU aY.1 i1.1&&(bU aY.2.1 i1.2.1&&(bU aY.2.2.1 i1.2.2.1&&bU aY.2.2.2 i1.2.2.2)))) (b_ false) (ay (aQ A.1,A.2.1,t1,())))) (a7 (A.2.1,t1,()))) (0,x.1,x.2,()) (λA=>bj (λA=>letI ff:=A.2.2.1;letI E:=aL A.2.1.2.2.2 A.1 (0,0,0,0);letI f1:=aL ff.2.2.2 A.1 (0,0,0,0);dn A.1 A.2.1.2.2.2 (a6 A.1 ff.2.2.2 (bN (!(bU E.1 f1.1&&(bU E.2.1 f1.2.1&&(bU E.2.2.1 f1.2.2.1&&bU E.2.2.2 f1.2.2.2)))) (b_ false) (ay (aQ A.1,A.2.1,ff,())))) (a7 (A.2.1,ff,()))) (0,A.1,A.2.1,()) λA=>bj (λA=>letI s1:=aL A.2.2.1.2.1 A.1 [];letI b4:=A.2.1.2.1;cR A.1 b4 (b1 (a6 A.1 b4 (a6 A.1 A.2.2.1.2.1 (aG (aB (aL b4 A.1 [])≠aB s1) (e9 (b_ false)) (dG (λA=>letI m1:=A.2.2;letI g1:=m1.2.1;letI fW:=(0<=g1/\g1<aB m1.1)/\True;letI hK:=(0<=g1/\g1<aB A.2.1)/\True;letI d1:=aL A.2.1 g1 (0,[],0,0);letI bx:=aL m1.1 g1 (0,[],0,0);letI dh:=eM d1.1 bx.1;letI dI:=GG (d1.2.1,bx.2.1);letI cm:=(!dh)=true;letI dO:=cm->cm/\True/\True;letI cd:=dh||!(bU d1.2.2.1 bx.2.2.1&&bU d1.2.2.2 bx.2.2.2);letI ax:=(!cd)=true;letI iD:=ax->ax/\True/\True;dn g1 A.2.1 (a6 g1 m1.1 (ad (cm->(cm/\cm)/\hK) (ad dO (ad dO (ad (cm->(cm/\cm)/\fW) (ad dO (ad dO (ad (cm->(cm/\cm)/\True/\True) (ad (True/\(dh=false->cm)) (ad (ax->(ax/\ax)/\hK) (ad iD (ad iD (ad (ax->(ax/\ax)/\fW) (ad iD (ad iD (ad (ax->(ax/\ax/\True)/\dI.et/\True) (ad iD (ad (True/\(cd=false->ax)) (bN (cd||kJ dI) (e9 (e9 (b_ false))) (ay (A.1,A.2.1,m1.1,aQ g1,m1.2.2.1,m1.2.2.2.1,()))))))))))))))))))))) (a7 (A.1,m1.2.2.1,m1.2.2.2.1,()))) (A.1,aL b4 A.1 [],s1,0,A.2.1,A.2.2.1,()))))) (λA=>ay (aQ A.1,A.2.1,A.2.2.1,()))) (a7 ())) (0,A.1,A.2.1,()) λA=>hO))
def aeo(x:bk×List a1):G Bool:=
 ao (adN x.1.1) λy=>b3 (!y) (Sf x.1.2) false λb8=>bN (y||b8||cN (aB x.2) 60) hO (bj (λA=>letI q:=A.2.2.2;letI m:=q.2.2;letI s:=m.2.1.1.2.2.1;cR m.1 s (a6 m.1 s (ay (A.1,A.2.1,A.2.2.1,q.1,e_ q.2.1 (aB (aL s m.1 (0,0,0,0,[])).2.2.2.2),aQ m.1,m.2.1,()))) (a7 (A.1,A.2.1,A.2.2.1,q.1,q.2.1,m.2.1,()))) (x.2,aB x.1.1.2.2.2.1,aB x.1.1.2.2.1,aB x.1.1.2.2.2.2.1,0,0,x.1,()) (λA=>bj (λA=>letI u:=A.1;letI t:=A.2.1;letI n:=A.2.2;letI l:=n.2.2;letI p:=l.2.2.1;letI o:=l.2.1;cR o u (b1 (a6 o u (aG (aB (aL u o []) > 80) (e9 (b_ true)) (a6 o u (ao (St (aL u o [])) (λy=>bN (!y.2.2) (ay (u,t,n.1,n.2.1,l.1,o,p,())) (aG (y.1=[119,105,115,104]) (ay (u,aQ t,n.1,n.2.1,l.1,o,p,())) (aG (y.1=[112,105,101,99,101]) (ay (u,t,aQ n.1,n.2.1,e_ l.1 (cu (aB y.2.1) 4),o,p,())) (aG (y.1=[99,111,109,101,115]) (ay (u,t,n.1,aQ n.2.1,l.1,o,p,())) (ay (u,t,n.1,n.2.1,l.1,o,p,())))))))))) (λA=>letI v:=A.2.2.2;ay (A.1,A.2.1,A.2.2.1,v.1,v.2.1,aQ v.2.2.1,v.2.2.2.1,()))) (a7 (t,n.1,n.2.1,l.1,p,()))) (A.1,A.2.1,A.2.2.1,A.2.2.2.1,A.2.2.2.2.1,0,A.2.2.2.2.2.1,()) λA=>ao (GH A.2.2.2.2.1) λy=>mpure (bU y 0&&(cN A.1 3||cN A.2.1 4||cN A.2.2.1 3||cN A.2.2.2.1 4))))
def aep(x:a1):G (a1×z1'×Bool):=
 ao (auZ x) λy=>bj (λA=>dn A.2.1 A.1 (ao (au0 (aL A.1 A.2.1 [])) (λy=>aG (y<0) (b_ ([],[],false)) (cM A.2.2.1 (ay (A.1,aQ A.2.1,A.2.2.1++[y],()))))) (a7 (A.1,A.2.2.1,()))) (y,1,[],()) λA=>ao (au1 ()) λy=>bj (λA=>letI q:=A.2.2.2;letI v:=q.2.1;letI u:=(0<=v/\v<aB q.1)/\True;letI t:=decide (aL q.1 v (0:Int)<0);letI o:=decide (aB q.2.2.1>=aL A.2.2.1 v 0);letI s:=o=true;letI p:=(o&&!t)=true;letI w:=p->p/\True/\True;dn v A.2.1 (dJ A.1 (aG (aL A.2.1 v []=eC A.1 []) (dJ A.1 (a6 v A.2.2.1 (ad (s->(s/\s)/\u) (ad (s->s/\True/\True) (ad (s->(s/\True)/\True/\True) (ad (s->True/\True/\s) (ad w (ad (p->(p/\p)/\u) (ad w (ad (p->(p/\p)/\True/\True) (ad (s->(s/\(t=false->p))/\True/\True) (ad (True/\(s->s)) (b_ (eC A.1 [],q.2.2.1,o&&(t||decide (aB q.2.2.1<=aL q.1 v 0)))))))))))))))) (ay (A.1,A.2.1,A.2.2.1,q.1,aQ v,q.2.2.1,())))) (a7 ())) (A.1,y.1,y.2.1,y.2.2,0,A.2.1,()) λA=>mpure ([],[],false)
def aeq(x:a1):G (List a1):=
 bj (λA=>letI l:=A.2.1;letI k:=A.2.2.1;letI j:=List.drop l.toNat (A.1.take (aQ l).toNat);letI i:=cu (aB k) 1;cR l A.1 (b1 (a6 l A.1 (aG (Int.ofNat (aL A.1 l 0).1.1.1=32) (cM k (ay (A.1,l,k++[[]],()))) (a6 i k (ad (0<=l/\l<=aQ l/\aQ l<=aB A.1) (ad (bW (Add.add (aL k i []).length j.length)) (a6 i k (ay (A.1,l,List.set k i.toNat (aL k i []++j),())))))))) (λA=>ay (A.1,aQ A.2.1,A.2.2.1,()))) (a7 (k,()))) (x,0,[[]],()) λA=>mpure A.1
def aer(x:a1):G Int:=
 letI m:=cN (aB x) 1;letI j:=bU (aB x) 0||cN (aB x) 6;ad ((!j&&m)=true->((!j&&m)=true/\True)/\((0:Int)<=0/\0<aB x)/\True) (bN (j||m&&bU (Int.ofNat (eC x 0).1.1.1) 48) (mpure (-1)) (bj (λA=>letI l:=A.2.2.1;letI i:=Int.ofNat (aL A.1 l 0).1.1.1;letI k:=(!(py i 48))=true;dn l A.1 (ad (k->(k/\k)/\(0<=l/\l<aB A.1)/\True) (bN (py i 48||cN i 57) (b_ (-1)) (a6 l A.1 (ay (A.1,e_ (IntKind.wrap .i64 (10*A.2.1)) (IntKind.wrap .i64 (IntKind.wrap .u8 (i-48))),e_ l 1,()))))) (a7 (A.2.1,()))) (x,0,0,()) (λA=>mpure A.1)))
def au6(x:Unit):G (List a1×z1'×z1'):=
 mpure ([[108,101,110,100],[98,97,99,107],[118,111,105,100],[108,97,115,116,115],[102,101,101],[111,119,101,115],[104,101,108,100],[119,104,101,114,101],[109,105,115,115,105,110,103],[116,114,105,97,108],[102,105,116,115],[115,116,111,99,107],[99,111,109,101,115],[112,105,101,99,101],[119,105,115,104],[100,114,111,112],[99,97,110],[116,97,107,101,115],[109,111,115,116],[101,120,116,114,97]],[5,4,1,1,1,1,1,2,1,4,3,2,3,4,5,1,1,0,0,0],[5,4,1,1,1,1,1,2,1,4,3,2,3,-1,-1,1,1,-1,0,0])
def aes(x:Unit):G Bool:=
 ao (au3 ()) λy=>ao (Sq (y,[[108,101,110,100,32,49,32,48,32,49,48,48,32,51,32,55],[98,97,99,107,32,50,32,48,32,49,55,49,32,51],[102,101,101,32,49],[119,104,101,114,101,32,51,32,49,55,49],[116,114,105,97,108,32,49,32,48,32,48,32,48],[115,116,111,99,107,32,48,32,49],[101,120,116,114,97],[100,114,111,112,32,51],[101,120,116,114,97]])) λy=>b3 (bU y.2.2 0) (KU (y.1,[[111,107],[111,107],[51,48,48,32,51,48,48],[115,104,111,112],[108,105,97,114],[111,107],[49],[111,107],[48]])) false λb8=>mpure (bU y.2.2 0&&b8&&bU (aB y.2.1.2.2.1) 2&&bU (aB y.2.1.1.2.2.2.1) 3)
def aet(x:List a1×List a1):G Bool:=
 aG (aB x.1≠aB x.2) hy (bj (λA=>letI c:=A.2.2.1;dn c A.1 (a6 c A.2.1 (aG (aL A.1 c []≠aL A.2.1 c []) (b_ false) (ay (A.1,A.2.1,aQ c,())))) (a7 ())) (x.1,x.2,0,()) (λA=>hO))
def aeu(x:Int):G a1:=
 aG (x<0) (mpure [115,104,111,112]) (ad ((10:Int)≠0) (bj (λA=>letI b:=IntKind.wrap .i64 (Int.tdiv A.1 10);aG (A.1>=10) (ad ((10:Int)≠0) (ad ((10:Int)≠0) (ad (bW (Add.add (Add.add 0 1) A.2.1.length)) (ay (b,[UInt8.ofNat (Int.toNat (IntKind.wrap .u8 (e_ 48 (Int.tmod b 10))))]++A.2.1,()))))) (a7 (A.2.1,()))) (x,[UInt8.ofNat (Int.toNat (IntKind.wrap .u8 (e_ 48 (Int.tmod x 10))))],()) (λA=>mpure A.1)))
def aev(x:bk):G bk:=
 bT (Kj x.1) (bT (GF x.2) (mpure (G.val (Kj x.1) (([],[],0,[]),[],[],[],[],0),G.val (GF x.2) ([],[],[],[],0,0,0,0,0,0,0))))
def aew(x:z1'):G a1:=
 bj (λA=>letI c:=A.2.2.1;cR c A.1 (b1 (aG (c > 0) (cM A.2.1 (ay (A.1,A.2.1++[32],c,()))) (ay (A.1,A.2.1,c,()))) (λA=>a6 A.2.2.1 A.1 (ao (au2 (aL A.1 A.2.2.1 0)) (λy=>ad (bW (Add.add A.2.1.length y.length)) (ay (A.1,A.2.1++y,aQ A.2.2.1,())))))) (a7 (A.2.1,()))) (x,[],0,()) λA=>aG (A.1=[]) (mpure [110,111,110,101]) (mpure A.1)
def KY{eK:Type}(c0:z2'->G (z2'))(bx:List (List (Int×z1'×Int×Int))->G (List (List (Int×z1'×Int×Int))))(c2:z2'->G (z2'))(c3:List (Int×z1'×Int×Int)×Unit->G (List (Int×z1'×Int×Int)×Unit))(c4:z1'->G (z1'))(c5:List lZ->G (List lZ))(oi:List jQ->G (List jQ))(qR:z4'->G (z4'))(x:aS)(fin:aS->G eK):G eK:=
 ad True (bT (c0 x.1.1) (ad True (bT (bx x.1.2.1) (ad True (bT (c2 x.1.2.2.2) (ad True (ad True (ad True (b1 (ad True (dG (λ(A:Int×Int×Int×z1'×List lZ×List jQ×z4'×Int×Int×Int×z2'×List (List (Int×z1'×Int×Int))×z2'×Unit)=>letI a_:=A.2;letI lg:=a_.2.2.2;letI s1:=a_.1.toNat;letI dO:=lg.2.2.2;letI iQ:=dO.2.2.2;aG (a_.1<A.1) (b1 (ad True (a6 a_.1 iQ.2.1 (ad True (ad (s1=s1) (ao (c3 (aL iQ.2.1 a_.1 [],())) (λy=>ad True (ad (s1=s1) (ad True (ad (s1=s1) (dG (λA=>letI dI:=A.2.2.2.2;letI a2:=dI.2.2.2;letI i1:=a2.2.2.2;letI dh:=i1.2.2.2.2;letI aU:=dh.2.2.1;letI hK:=aL aU dI.1 (0,[],0,0);aG (dI.1<A.2.2.2.1) (ad True (ad (A.1=dh.1.2) (ad True (ad (A.1=dh.1.2) (a6 dI.1 aU (bT (c4 hK.2.1) (a6 dI.1 aU (ay (A.1,A.2.1,A.2.2.1,A.2.2.2.1,aQ dI.1,dI.2.1,dI.2.2.1,a2.1,a2.2.1,a2.2.2.1,i1.1,i1.2.1,i1.2.2.1,i1.2.2.2.1,dh.1,dh.2.1,List.set aU dI.1.toNat (hK.1,G.val (c4 hK.2.1) [],hK.2.2),()))))))))) (a7 (A.2.1,A.2.2.1,dI.2.1,dI.2.2.1,a2.1,a2.2.1,a2.2.2.1,i1.1,i1.2.1,i1.2.2.1,i1.2.2.2.1,dh.1,dh.2.1,aU,()))) (s1,A.1,a_.1,aB y.1,0,a_.2.1,a_.2.2.1,lg.1,lg.2.1,lg.2.2.1,dO.1,dO.2.1,dO.2.2.1,iQ.1,(iQ.2.1,s1),iQ.2.2.1,y.1,()))))))))))) (λA=>letI f2:=A.2.2.2.2;letI fW:=f2.2.2.2;letI eB:=fW.2.2.2;ay (A.1,aQ A.2.1,A.2.2.1,A.2.2.2.1,f2.1,f2.2.1,f2.2.2.1,fW.1,fW.2.1,fW.2.2.1,eB.1,List.set eB.2.1.1 eB.2.1.2 eB.2.2.2.1,eB.2.2.1,()))) (a7 (a_.2.1,a_.2.2.1,lg.1,lg.2.1,lg.2.2.1,dO.1,dO.2.1,dO.2.2.1,iQ.1,iQ.2.1,iQ.2.2.1,()))) (aB (G.val (bx x.1.2.1) []),0,x.1.2.2.1,x.2.1,x.2.2.1,x.2.2.2.1,x.2.2.2.2.1,x.2.2.2.2.2,0,0,G.val (c0 x.1.1) [],G.val (bx x.1.2.1) [],G.val (c2 x.1.2.2.2) [],()))) (λA=>letI M:=A.2.2;letI cj:=M.2.2;letI jd:=cj.2.2.2;bT (c4 A.2.1) (bT (c5 M.1) (bT (oi M.2.1) (bT (qR cj.1) (bj (λA=>letI i2:=A.2;letI t1:=i2.2.2.2;letI iD:=t1.2.2.2.2;letI d2:=iD.2.2;letI m1:=aL d2.1 i2.1 (0,0,0,0,[]);aG (i2.1<A.1) (a6 i2.1 d2.1 (bT (c4 m1.2.2.2.2) (a6 i2.1 d2.1 (ay (A.1,aQ i2.1,i2.2.1,i2.2.2.1,t1.1,t1.2.1,t1.2.2.1,t1.2.2.2.1,iD.1,iD.2.1,List.set d2.1 i2.1.toNat (m1.1,m1.2.1,m1.2.2.1,m1.2.2.2.1,G.val (c4 m1.2.2.2.2) []),d2.2.1,d2.2.2.1,()))))) (a7 (i2.2.1,i2.2.2.1,t1.1,t1.2.1,t1.2.2.1,t1.2.2.2.1,iD.1,iD.2.1,d2.1,d2.2.1,d2.2.2.1,()))) (aB (G.val (c5 M.1) []),0,A.1,cj.2.1,cj.2.2.1,jd.1,jd.2.1,jd.2.2.1,jd.2.2.2.1,G.val (c4 A.2.1) [],G.val (c5 M.1) [],G.val (oi M.2.1) [],G.val (qR cj.1) [],()) (λA=>letI m2:=A.2.2.2;letI v1:=m2.2.2.2;bj (λA=>letI nB:=A.2;letI ff:=nB.2.2.2;letI aY:=ff.2.2.2.2;letI eX:=aY.2.2.2;letI b4:=aL eX.1 nB.1 ([],(0,0),0,0,0);aG (nB.1<A.1) (a6 nB.1 eX.1 (bT (c4 b4.1) (a6 nB.1 eX.1 (ay (A.1,aQ nB.1,nB.2.1,nB.2.2.1,ff.1,ff.2.1,ff.2.2.1,ff.2.2.2.1,aY.1,aY.2.1,aY.2.2.1,List.set eX.1 nB.1.toNat (G.val (c4 b4.1) [],b4.2),eX.2.1,()))))) (a7 (nB.2.1,nB.2.2.1,ff.1,ff.2.1,ff.2.2.1,ff.2.2.2.1,aY.1,aY.2.1,aY.2.2.1,eX.1,eX.2.1,()))) (aB v1.2.2.2.1,0,A.1,A.2.1,A.2.2.1,m2.1,m2.2.1,m2.2.2.1,v1.1,v1.2.1,v1.2.2.1,v1.2.2.2.1,v1.2.2.2.2.1,()) λA=>letI kD:=A.2.2.2.2.2;fin ((A.2.2.2.2.1,kD.1,A.1,kD.2.1),kD.2.2.1,kD.2.2.2.1,kD.2.2.2.2.1,kD.2.2.2.2.2.1,A.2.1))))))))))))))))
def ks(s:aS):C4:=(s.1.1,s.1.2.1,s.1.2.2.1,s.2.2.2.2.2,s.1.2.2.2,s.2.1,s.2.2.1,s.2.2.2.1,s.2.2.2.2.1,())
def au7(x:aS):G aS:=KY c0 bx c2 c3 c4 c5 oi qR x mpure
def au8(x:aS×Unit):G C4:=KY c0 bx c2 c3 c4 c5 oi qR x.1 λs=>mpure (ks s)
end Go.Fer
namespace Go.Fer
variable (aJk:aS->G Bool) (aJl:Unit->G Bool) (aex:aS×Unit->G (Kg)) (aJm:aS×aS->G Bool) (Kj:aS->G (aS)) (adP adQ:aS->G (Int×Int)) (adO:aS×Int->G (z1'×Int)) (aJn:aS×Int->G (Int×Int)) (adN:aS->G Bool) (F5 zT:aS->G Int) (aJo aJp:aS×Int×Int->G (Int×Int)) (aey:aS×Int->G (z1'×Int)) (aJq:z1'×z1'->G Bool) (aJr:aS×aS->G Bool) (QJ:aS->G (Int×Int)) (aJs:aS×Int->G (Int×Int)) (aez:aS->G (Int×Int)) (aJt:aS->G (z1'×Int)) (aJu:z1'×Int->G Bool) (aJv:aS×z1'->G Int) (QK:aS×z1'->G Bool) (aJw:aS×z1'->G Int) (aeA adR:aS×z1'->G (Int×Int)) (ZZ:aS×z1'->G Bool) (QI:aS->G Int) (aeB:Unit->G (aS)) (ZV:z2'×List (List (Int×z1'×Int×Int))×Int×z2'->G Bool) (ZW:Unit->G bL)
def aeC(x:aS):G Bool:=
 ao (ZV x.1) λy=>if y||cN (aB x.2.1) 40||cN (aB x.2.2.1) 40||cN (aB x.2.2.2.1) 40||cN (aB x.2.2.2.2.1) 40 then hO else bj (λA=>dn A.1 A.2.1.2.2.1 (aG (aB (aL A.2.1.2.2.1 A.1 (0,0,0,0,[])).2.2.2.2 > 40) (b_ true) (ay (aQ A.1,A.2.1,()))) (a7 (A.2.1,()))) (0,x,()) λA=>bj (λA=>dn A.1 A.2.1.2.2.2.1 (aG (aB (aL A.2.1.2.2.2.1 A.1 ([],(0,0),0,0,0)).1 > 40) (b_ true) (ay (aQ A.1,A.2.1,()))) (a7 (A.2.1,()))) (0,A.1,()) λA=>ao (zT A.1) λy=>aG (y≠0) hy (bj (λA=>letI e:=A.2.2.1;dn A.2.1 e.2.2.1 (ay (e_ A.1 (aB (aL e.2.2.1 A.2.1 (0,0,0,0,[])).2.2.2.2),aQ A.2.1,e,())) (a7 (A.1,e,()))) (0,0,A.1,()) (λA=>mpure (cN (aB A.2.1.2.2.2.1) 3||cN (aB A.2.1.2.2.1) 4||cN (aB A.2.1.2.2.2.2.1) 3||cN A.1 4)))
def aeD(x:Unit):G (aS):=
 ao (ZW ()) λy=>mpure (y,[1,0,0,0],[(1,60,0,0,[0]),(1,60,7,0,[]),(2,65,0,1,[0]),(2,60,0,0,[0,1])],[([1],(55,65),7,3,500),([1,2],(60,60),0,5,400),([2],(60,70),9,8,700),([2],(65,65),0,5,300)],[(4,2,1),(6,3,1)],2)
end Go.Fer
namespace Go.Fer
abbrev bp:aa:=.int .i64
abbrev dm:aa:=.bool
abbrev dV:aa:=.slice bp
abbrev mn:aa:=.ae (.ar bp bp)
abbrev l3:aa:=.ae (.ar bp (.ar bp mn))
abbrev ss:aa:=.ae (.ar bp (.ar dV mn))
abbrev mu:aa:=.ae (.slice ss)
abbrev k8:aa:=.ae (.ar bp (.ar bp (.ar bp bp)))
abbrev jo:aa:=.ae (.ar (.slice l3) (.ar (.slice mu) (.ar bp (.slice k8))))
attribute [simp] uA Zj xF ed HP Vi fZ eV lY lr oF cp tl cy mY Zi bq.ls
abbrev cS:aF:=⟨.ar bp (.ar bp bp),dm,λ_=>True,λx=>decide (x.2.1<=x.1)&&decide (x.1<=x.2.2)⟩
theorem au9(x):aR (aqm x) (cS.sh x):=bg λ_=>rfl
abbrev i':aF:=⟨.ar dV bp,dm,λx=>x.1.length<2 ^ 63,λx=>x.1.contains x.2⟩
theorem au_(l:z1')(n:Int):(l.any λy=>y == n)=l.contains n:=by grind
theorem au'(l:z1')(n:Int)(h:l.length<2 ^ 63):Qk (l,n)=mpure (l.contains n):=by
 unfold Qk dn aL aG aQ bj b_ a7 ay hy;rw[db l (λi (_:Unit)=>(l,n,(i:Int),())) (λy b=>if (y == n)=true then .done (.done true) else .next b) (λ_=>.next ()) () ?_ ?_ ?_]
 ·rw[n2,au_];cases l.contains n<;>simp
 ·rfl
 ·intro i D b;have hw:=bc (n:=(i:Int)+1) (by omega) (by omega);simp[D,hw];grind
 simp
theorem ava(x):aR (Qk x) (i'.sh x):=bg λh=>au' x.1 x.2 h
abbrev Su:Type:=Int×Int×Int×Int
abbrev Al:Type:=Int×z1'×Int×Int
abbrev oO:Type:=Int×Int×Int×Int
def gi(w:bL):Prop:=w.1.length<2 ^ 63/\w.2.1.length<2 ^ 63/\w.2.2.2.length<2 ^ 63/\∀ m∈w.2.1,m.length<2 ^ 63/\∀ s∈m,s.2.1.length<2 ^ 63
def fP(w:bL)(n:Int):Bool:=decide (0<=n)&&decide (n<(w.1.length:Int))
def su(w:bL)(n:Int):Bool:=decide (0<=n)&&decide (n<(w.2.1.length:Int))
def jq(w:bL)(m:Int):List Al:=w.2.1.getD m.toNat []
def h8(w:bL)(m k:Int):Bool:=su w m&&(decide (0<=k)&&decide (k<((jq w m).length:Int)))
theorem qv{w:bL}{n:Int}:fP w n=true<->0<=n/\n<(w.1.length:Int):=by simp[fP]
theorem Sv{w:bL}{n:Int}:su w n=true<->0<=n/\n<(w.2.1.length:Int):=by simp[su]
theorem Am{w:bL}{m k:Int}:h8 w m k=true<->(0<=m/\m<(w.2.1.length:Int))/\0<=k/\k<((jq w m).length:Int):=by simp[h8,su]
theorem KZ{w:bL}(hw:gi w)(m:Int):(jq w m).length<2 ^ 63:=by
 unfold jq;rw[aJ7];cases h:w.2.1[m.toNat]? with
 | none=>simp
 | some x=>exact (hw.2.2.2 x (aLb h)).1
theorem uX(n m:Int):decide (n<=m - 1)=decide (n<m):=by
 grind
abbrev pF:aF:=⟨.ar jo bp,dm,λx=>gi x.1,λx=>fP x.1 x.2⟩
theorem aeE(w:bL)(n:Int)(h:gi w):Qo cS.sh (w,n)=mpure (fP w n):=by
 unfold Qo aB cu;have af:=h.1;have hw:=bc (n:=(w.1.length:Int) - 1) (by omega) (by omega);simp[aF.sh,cS,hw,fP,uX]
theorem avb(x):aR (Qo cS.sh x) (pF.sh x):=bg λh=>aeE x.1 x.2 h
abbrev C6:aF:=⟨.ar jo bp,dm,λx=>gi x.1,λx=>su x.1 x.2⟩
theorem avc(w:bL)(n:Int)(h:gi w):Qu cS.sh (w,n)=mpure (su w n):=by
 unfold Qu aB cu;have af:=h.2.1;have hw:=bc (n:=(w.2.1.length:Int) - 1) (by omega) (by omega);simp[aF.sh,cS,hw,su,uX]
theorem avd(x):aR (Qu cS.sh x) (C6.sh x):=bg λh=>avc x.1 x.2 h
abbrev ri:aF:=⟨.ar jo (.ar bp bp),dm,λx=>gi x.1,λx=>h8 x.1 x.2.1 x.2.2⟩
theorem aeF(w:bL)(m k:Int)(h:gi w):J' cS.sh C6.sh (w,m,k)=mpure (h8 w m k):=by
 unfold J' b3 aL aB cu;have af:=KZ h m;have hw:=bc (n:=((jq w m).length:Int) - 1) (by omega) (by omega);unfold jq at hw;simp only[aF.sh,cS,C6,ed,lr,ch,hw,uX,bb h];rw[bb,bb (by simp)]
 ·simp only[h8,jq];simp
 ·intro hm;exact⟨⟨hm,hm⟩,Sv.1 hm,trivial⟩
theorem ave(x):aR (J' cS.sh C6.sh x) (ri.sh x):=bg λh=>aeF x.1 x.2.1 x.2.2 h
def x_(s:Int×Int):Bool:=(decide (0<=s.1)&&decide (s.1<=s.2))&&decide (s.2<=999)
abbrev qw:aF:=⟨mn,dm,λ_=>True,x_⟩
theorem aeG(s:Int×Int):Qz cS.sh s=mpure (x_ s):=by
 unfold Qz hN;simp[aF.sh,cS,x_]
theorem avf(x):aR (Qz cS.sh x) (qw.sh x):=bg λ_=>aeG x
def uS(l:z1'):Bool:=(List.range (l.length - 1)).all λi=>decide (l.getD i 0<l.getD (i+1) 0)
abbrev wH:aF:=⟨dV,dm,λx=>x.length<2 ^ 63,uS⟩
theorem aeH(l:z1')(h:l.length<2 ^ 63):Qt l=mpure (uS l):=by
 unfold Qt dn aL aG aQ bj b_ a7 ay hO a6 cu;rw[db (List.range (l.length - 1)) (λi (_:Unit)=>(l,((i+1:Nat):Int),())) (λi b=>if (decide (l.getD i 0<l.getD (i+1) 0))=true then .next b else .done (.done false)) (λ_=>.next ()) () ?_ ?_ ?_]
 ·rw[J6];unfold uS;cases (List.range (l.length - 1)).all λi=>decide (l.getD i 0<l.getD (i+1) 0)<;>simp
 ·simp
 ·intro i D b;have eE:i+1<l.length:=by grind
  have hw:=bc (n:=(i:Int)+1+1) (by omega) (by omega);have ft:=bc (n:=(i:Int)+1 - 1) (by omega) (by omega);have ax:((i:Int)+1).toNat=i+1:=by omega
  have aU:((i:Int)+1 - 1).toNat=i:=by omega
  have b4:(0:Int)<=(i:Int)+1/\(i:Int)+1<(l.length:Int):=by omega
  have cL:(0:Int)<=(i:Int)+1 - 1/\(i:Int)+1 - 1<(l.length:Int):=by omega
  simp only[ch,Int.natCast_add,Int.cast_ofNat_Int,hw,ft,b4,cL,bb,ax,aU,cy,aJ6,ajl,if_true,aH,aKP,aKH,Int.natCast_one];generalize l.getD i 0=aN;generalize l.getD (i+1) 0=B;by_cases hc:aN<B
  ·simp[hc,Int.not_le.2 hc]
  ·simp[hc,Int.not_lt.1 hc]
 ·intro b;have:¬(((List.range (l.length - 1)).length:Int)+1<(l.length:Int)):=by grind
  simp[this];omega
theorem avg(x):aR (Qt x) (wH.sh x):=bg λh=>aeH x h
def sv(n:Int):Bool:=decide (0<=n)&&decide (n<=9)
def rj(s:Al):Bool:=s.2.1.all sv&&(sv s.1&&decide ((s.2.1.length:Int)<=4)&&uS s.2.1&&x_ s.2.2)
def tt(s:Su):Bool:=sv s.1&&sv s.2.1&&x_ s.2.2
def tu(w:bL)(t:oO):Bool:=fP w t.1&&h8 w t.2.1 t.2.2.1&&(decide (0<=t.2.2.2)&&decide (t.2.2.2<=1))
def rk(m:List Al):Bool:=!decide ((m.length:Int) > 4)&&m.all rj
def x'(w:bL):Bool:=!(decide ((w.1.length:Int) > 10)||decide ((w.2.1.length:Int) > 6)||!(decide (0<=w.2.2.1)&&decide (w.2.2.1<=99))||decide ((w.2.2.2.length:Int) > 30))
def lz(w:bL):Bool:=x' w&&w.1.all tt&&w.2.1.all rk&&w.2.2.2.all (tu w)
abbrev uY:aF:=⟨ss,dm,λx=>x.2.1.length<2 ^ 63,rj⟩
theorem avh(s:Al)(h:s.2.1.length<2 ^ 63):QA wH.sh cS.sh qw.sh s=mpure (rj s):=by
 unfold QA hN dn b3 aL aQ aB bj b_ a7 ay;rw[db s.2.1 (λi (_:Unit)=>((i:Int),s,())) (λn b=>if sv n=true then .next b else .done (.done false)) (λ_=>.next (s,())) () ?_ ?_ ?_]
 ·rw[J6];unfold rj;cases s.2.1.all sv with
  | false=>simp
  | true=>
   simp only[aF.sh,cS,wH,qw,bb h,sv,if_true,aH,cp,ed,lr,bS,ch,h,aKl,aKO];simp
 ·rfl
 ·intro i D b;have hw:=bc (n:=(i:Int)+1) (by omega) (by omega);simp[aF.sh,cS,D,hw,sv];grind
 simp
theorem avi(x):aR (QA wH.sh cS.sh qw.sh x) (uY.sh x):=bg λh=>avh x h
abbrev ya:aF:=⟨jo,dm,gi,lz⟩
theorem avj(w:bL)(h:gi w):Qv pF.sh ri.sh cS.sh qw.sh uY.sh w=mpure (lz w):=by
 have az:=h;obtain⟨E,M,ai,bf⟩:=h;unfold Qv cN cR dn b3 aL b1 bN aG aQ aB bj b_ e9 a7 ay hy hO a6;simp only[aF.sh,cS,lr,ed,aKl,bS,ch,uA];split
 ·rename_i hc;have:x' w=false:=by unfold x';grind
  simp[lz,this]
 ·rename_i hc;have dt:x' w=true:=by unfold x';grind
  have aJx:w.2.1.length<=6:=by grind
  rw[db w.1 (λi (_:Unit)=>((i:Int),w,())) (λn b=>if (!sv n.1||!sv n.2.1||!x_ n.2.2)=true then .done (.done false) else .next b) (λ_=>.next (w,())) () ?_ ?_ ?_]
  ·rw[j9 (q:=tt) _ _ (λt=>by simp only[tt,Bool.not_and])];cases iz:w.1.all tt with
   | false=>simp[lz,iz]
   | true=>
    simp only[aH,if_true,cp];rw[db w.2.1 (λi (_:Unit)=>((i:Int),w,())) (λm b=>if rk m=true then .next b else .done (.done false)) (λ_=>.next (w,())) () ?_ ?_ ?_]
    ·rw[J6];cases bd:w.2.1.all rk with
     | false=>simp[lz,bd]
     | true=>
      simp only[aH,if_true,cp];rw[db w.2.2.2 (λi (_:Unit)=>((i:Int),w,())) (λt b=>if (!fP w t.1||!h8 w t.2.1 t.2.2.1||!(decide (0<=t.2.2.2)&&decide (t.2.2.2<=1)))=true then .done (.done false) else .next b) (λ_=>.next ()) () ?_ ?_ ?_]
      ·rw[j9 (q:=tu w) _ _ (λt=>by simp only[tu,Bool.not_and])];cases jj:w.2.2.2.all (tu w)<;>simp[lz,iz,bd,jj,dt]
      ·rfl
      ·intro i D b;have hw:=bc (n:=(i:Int)+1) (by omega) (by omega);simp only[ch,cT D,if_true,c_ D,cE D,bS,aF.sh,pF,ri,ed,lr,az,aKl,uA,aH,cy,hw];exact lu (mk:=λ_:Unit=>((i:Int)+1,w,()))
      simp
    ·rfl
    ·intro i D b;have hw:=bc (n:=(i:Int)+1) (by omega) (by omega);obtain⟨lW,b_⟩:=bf w.2.1[i] (ajj D);simp only[ch,Int.ofNat_lt,D,aKP,if_true,c_ D,Int.natCast_nonneg,aKH,bS];by_cases hlen:(w.2.1[i].length:Int) > 4
     ·simp[hlen,rk]
     ·simp only[hlen,aKe,ajh,ajq];rw[db w.2.1[i] (λk (_:Unit)=>((i:Int),(k:Int),w,())) (λs b=>if (!rj s)=true then .done (.done (.done (.done false))) else .next b) (λ_=>.next ((i:Int),w,())) () ?_ ?_ ?_]
      ·rw[j9 (q:=rj) _ _ (λ_=>rfl)];cases Sw:w.2.1[i].all rj<;>simp[rk,Sw,hlen,hw]
      ·rfl
      ·intro k ah b;have kM:=bc (n:=(k:Int)+1) (by omega) (by omega);have GJ:=b_ w.2.1[i][k] (ajj ah);simp only[ch,cT ah,cT D,if_true,c_ D,c_ ah,cE D,cE ah,bS,uY,ed,GJ,bb GJ,aH,cy,kM];exact lu (mk:=λ_:Unit=>((i:Int),(k:Int)+1,w,()))
      simp_all
    simp
  ·rfl
  ·intro i D b;have hw:=bc (n:=(i:Int)+1) (by omega) (by omega);simp only[ch,cT D,if_true,c_ D,cE D,bS,aF.sh,qw,ed,lr,aKl,uA,aH,cy,hw,Bool.not_not];exact lu (mk:=λ_:Unit=>((i:Int)+1,w,()))
  simp
theorem avk(x):aR (Qv pF.sh ri.sh cS.sh qw.sh uY.sh x) (ya.sh x):=bg λh=>avj x h
abbrev sw:oO:=(0,0,0,0)
def oP(a b:oO):Bool:=decide (a.1=b.1)&&decide (a.2.1=b.2.1)&&decide (a.2.2.1=b.2.2.1)&&decide (a.2.2.2≠b.2.2.2)
def pA(l:List oO):Bool:=(List.range l.length).all λi=>(List.range i).all λk=>!oP (l.getD k sw) (l.getD i sw)
def cA(w:bL):Int:=if lz w=true then (if pA w.2.2.2=true then 0 else 71) else 70
theorem aeI{a b:Nat}(h:a<b):((0:Int)<=(a:Int)/\(a:Int)<(b:Int))=True:=cE h
abbrev gR:aF:=⟨jo,bp,gi,cA⟩
theorem avl(w:bL)(h:gi w):Qp ya.sh w=mpure (cA w):=by
 have az:=h;obtain⟨E,M,ai,bf⟩:=h;unfold Qp bU cR eM aL bN aG aQ bj b_ e9 a7 ay a6;simp only[aF.sh,ed,bb az];unfold cA;cases hw:lz w with
 | false=>simp
 | true=>
  rw[db (List.range w.2.2.2.length) (λi (_)=>((i:Int),w,())) (λi b=>if (List.range i).any (λk=>oP (w.2.2.2.getD k sw) (w.2.2.2.getD i sw))=true then .done (.done (71)) else .next b) (λ_=>.next ()) () ?_ ?_ ?_]
  ·rw[j9 (q:=λi=>(List.range i).all λk=>!oP (w.2.2.2.getD k sw) (w.2.2.2.getD i sw)) _ _ (λi=>Zk (λk=>by simp) _)];have e:((List.range w.2.2.2.length).all λi=>(List.range i).all λk=>!oP (w.2.2.2.getD k sw) (w.2.2.2.getD i sw))=pA w.2.2.2:=rfl;rw[e];cases pA w.2.2.2<;>simp
  ·rfl
  ·intro i D b;have D:i<w.2.2.2.length:=by grind
   have gy:=bc (n:=i+1) (by omega) (by omega);simp only[ch,cT D,aJ6];rw[db (List.range i) (λk (_)=>((i:Int),(k:Int),w,())) (λk b=>if oP (w.2.2.2.getD k sw) (w.2.2.2.getD i sw)=true then .done (.done (.done (.done (71)))) else .next b) (λ_=>.next (i,w,())) () ?_ ?_ ?_]
   ·rw[n2];cases (List.range i).any (λk=>oP (w.2.2.2.getD k sw) (w.2.2.2.getD i sw))<;>simp[gy]
   ·rfl
   ·intro k ah b;have ah:k<i:=by grind
    have sk:k<w.2.2.2.length:=by omega
    have kM:=bc (n:=k+1) (by omega) (by omega);simp only[cT ah,aJ6,aeI sk,aeI D,bS,aH,cy,kM];exact lu (mk:=λ_=>((i:Int),(k:Int)+1,w,()))
   simp
  simp
theorem avm(x):aR (Qp ya.sh x) (gR.sh x):=bg λh=>avl x h
def fw(w:bL)(i:Int):Su:=w.1.getD i.toNat (0,0,0,0)
def yb(w:bL)(m k:Int):Al:=(jq w m).getD k.toNat (0,[],0,0)
theorem avn{w:bL}{i:Int}(h:fP w i=true):fw w i∈w.1:=by
 rw[qv]at h;exact zP h.1 h.2
theorem Sx{w:bL}{m k:Int}(h:h8 w m k=true):jq w m∈w.2.1:=by
 rw[Am]at h;exact zP h.1.1 h.1.2
theorem aeJ{w:bL}{m k:Int}(h:h8 w m k=true):yb w m k∈jq w m:=by
 rw[Am]at h;exact zP h.2.1 h.2.2
theorem An{w:bL}(h:lz w=true):x' w=true/\(∀ s∈w.1,tt s=true)/\(∀ m∈w.2.1,rk m=true)/\∀ t∈w.2.2.2,tu w t=true:=by
 simp  [lz,aKu]at h;grind
theorem yc{w:bL}(h:lz w=true):w.1.length<=10/\w.2.1.length<=6/\(0<=w.2.2.1/\w.2.2.1<=99)/\w.2.2.2.length<=30:=by
 have:=(An h).1;simp[x']at this;omega
theorem avo{w:bL}(h:lz w=true){m k:Int}(hm:h8 w m k=true):(jq w m).length<=4:=by
 have:=(An h).2.2.1 _ (Sx hm);simp[rk]at this;omega
theorem avp{w:bL}(h:lz w=true){m k:Int}(hm:h8 w m k=true):rj (yb w m k)=true:=by
 have:=(An h).2.2.1 _ (Sx hm);simp only[rk,ajm,aKu]at this;exact this.2 _ (aeJ hm)
theorem avq{s:Al}(h:rj s=true):0<=s.2.2.1/\s.2.2.1<=s.2.2.2/\s.2.2.2<=999:=by
 simp  [rj,x_,ajl]at h;omega
theorem Sy{w:bL}(h:lz w=true){i:Int}(D:fP w i=true):0<=(fw w i).2.2.1/\(fw w i).2.2.1<=(fw w i).2.2.2/\(fw w i).2.2.2<=999:=by
 have:=(An h).2.1 _ (avn D);simp  [tt,x_,ajl]at this;omega
theorem aeK{w:bL}(h:lz w=true){t:oO}(aT:t∈w.2.2.2):fP w t.1=true/\h8 w t.2.1 t.2.2.1=true:=by
 have:=(An h).2.2.2 _ aT;simp  [tu]at this;grind
def uZ(w:bL)(i n m k:Int):Bool:=
 decide ((fw w i).1=(yb w m k).1)&&(yb w m k).2.1.contains (fw w i).2.1&&(decide ((yb w m k).2.2.1<=n)&&decide (n<=(yb w m k).2.2.2+w.2.2.1))
def mv(w:bL):Prop:=gi w/\lz w=true
abbrev tv:aF:=⟨.ar jo (.ar bp (.ar bp (.ar bp bp))),dm,λx=>mv x.1/\fP x.1 x.2.1=true/\h8 x.1 x.2.2.2.1 x.2.2.2.2=true,λx=>uZ x.1 x.2.1 x.2.2.1 x.2.2.2.1 x.2.2.2.2⟩
theorem aeL(w:bL)(i n m k:Int)(hw:mv w)(D:fP w i=true)(hm:h8 w m k=true):Qs i'.sh cS.sh (w,i,n,m,k)=mpure (uZ w i n m k):=by
 unfold Qs e_ bU b3 aL a6;have b4:=qv.1 D;have cL:=Am.1 hm;have eG:=avq (avp hw.2 hm);have ND:=(yc hw.2).2.2.1;have GJ:=(hw.1.2.2.2 _ (Sx hm)).2 _ (aeJ hm);have gy:=bc (n:=(yb w m k).2.2.2+w.2.2.1) (by omega) (by omega);simp only[yb,jq]at *
 simp only[aF.sh,lr,ed,ch,b4,cL,aKH,bS,aKl,cy,gy,xF,GJ];rfl
theorem avr(x):aR (Qs i'.sh cS.sh x) (tv.sh x):=bg λh=>aeL x.1 x.2.1 x.2.2.1 x.2.2.2.1 x.2.2.2.2 h.1 h.2.1 h.2.2
def tw(w:bL)(i n:Int)(t:oO):Bool:=!(decide (t.1=i)&&!decide (uZ w i n t.2.1 t.2.2.1=decide (t.2.2.2=1)))
def yd(w:bL)(i n:Int):Bool:=w.2.2.2.all (tw w i n)&&(decide ((fw w i).2.2.1<=n)&&decide (n<=(fw w i).2.2.2))
abbrev K1:aF:=⟨.ar jo (.ar bp bp),dm,λx=>mv x.1/\fP x.1 x.2.1=true,λx=>yd x.1 x.2.1 x.2.2⟩
theorem avt(w:bL)(i n:Int)(hw:mv w)(D:fP w i=true):Qr tv.sh cS.sh (w,i,n)=mpure (yd w i n):=by
 unfold Qr bU dn aL aQ bj b_ a7 ay a6 bT eS;have b4:=qv.1 D;have af:=(yc hw.2).2.2.2;rw[db w.2.2.2 (λj (_)=>(i,n,(j:Int),w,())) (λt b=>if (decide (t.1=i)&&!decide (uZ w i n t.2.1 t.2.2.1=decide (t.2.2.2=1)))=true then .done (.done false) else .next b) (λ_=>.next (i,n,w,())) () ?_ ?_ ?_]
 ·rw[j9 (q:=tw w i n) _ _ (λt=>by simp  [tw])];unfold yd;cases w.2.2.2.all (tw w i n) with
  | false=>simp
  | true=>simp only[if_true,aH,cp,aF.sh,lY,fZ,ch,b4,aKH,bS,fw];rfl
 ·rfl
 ·intro j aI b;have gy:=bc (n:=j+1) (by omega) (by omega);have aT:=aeK hw.2 (ajj aI);have aq:decide (w.2.2.2[j].1=i)=true->(mv w/\fP w i=true/\h8 w w.2.2.2[j].2.1 w.2.2.2[j].2.2.1=true):=λ_=>⟨hw,D,aT.2⟩
  simp only[ch,cT aI,c_ aI,cE aI,bS,aF.sh,fZ,aH,cy,gy,aLg,aKH,aLY];rw[bb (λh=>⟨h,aq h⟩)];exact lu (mk:=λ_=>(i,n,(j:Int)+1,w,()))
 simp
theorem avu(x):aR (Qr tv.sh cS.sh x) (K1.sh x):=bg λh=>avt x.1 x.2.1 x.2.2 h.1 h.2
def hb(w:bL)(i:Int):z1':=(dA (fw w i).2.2.1 (fw w i).2.2.2).filter (yd w i)
theorem Sz{w:bL}{i:Int}(hw:mv w)(D:fP w i=true):(hb w i).length<=1000:=by
 have:=Sy hw.2 D;have M:=aKJ (yd w i) (dA (fw w i).2.2.1 (fw w i).2.2.2);rw[uD]at M;unfold hb;omega
abbrev C7:aF:=⟨.ar jo bp,dV,λx=>mv x.1/\fP x.1 x.2=true,λx=>hb x.1 x.2⟩
theorem avv(w:bL)(i:Int)(hw:mv w)(D:fP w i=true):Qx K1.sh (w,i)=mpure (hb w i):=by
 unfold Qx aL b1 bN aG aQ a7 ay cM a6;have b4:=qv.1 D;have af:=Sy hw.2 D;simp only[ch,b4,bS];rw[d' (dA (fw w i).2.2.1 (fw w i).2.2.2) (λk l=>(i,(fw w i).2.2.1+k,w,l,())) (λn l=>.next (if yd w i n=true then l++[n] else l)) (λl=>.next (l,())) (λk l=>l.length<=k) [] ?_ ?_ ?_ ?_]
 ·rw[cU,Ck];simp;rfl
 ·simp[fw]
 ·simp
 ·intro k ah l SA;have bj:(fw w i).2.2.1+k<=(fw w i).2.2.2:=by rw[uD]at ah;omega
  have C8:=bc (n:=(fw w i).2.2.1+(k+1)) (by omega) (by omega);refine⟨?_,λbl V=>?_⟩
  ·have aA:List.getD w.1 i.toNat (0,0,0,0)=fw w i:=rfl;have ix:bW (l.length+(0+1)):=by unfold bW;omega
   simp only[b4,aA,bj,aF.sh,hw,D,pB,bb ix];cases yd w i ((fw w i).2.2.1+k)<;>simp[C8,Int.add_assoc]
  grind
 ·intro l SA;have aA:List.getD w.1 i.toNat (0,0,0,0)=fw w i:=rfl;have:¬(fw w i).2.2.1+((dA (fw w i).2.2.1 (fw w i).2.2.2).length)<=(fw w i).2.2.2:=by rw[uD];omega
  simp only[b4,aKH,bS,aA,this,aKe,ajh,ajq,aH]
theorem avw(x):aR (Qx K1.sh x) (C7.sh x):=bg λh=>avv x.1 x.2 h.1 h.2
theorem aeM{w:bL}{i:Nat}(h:i<w.1.length):fP w (i:Int)=true:=by rw[qv];omega
def u0(w:bL):Bool:=(List.range w.1.length).all λi=>!decide (((hb w (i:Int)).length:Int)=0)
def dF(w:bL)(cv:Bool):Int:=if cA w≠0 then cA w else if cv=false then 1 else if u0 w=true then 0 else 3
theorem GK{w:bL}(h:cA w=0):lz w=true:=by
 unfold cA at h;grind
abbrev GL:aF:=⟨.ar jo dm,bp,λx=>gi x.1,λx=>dF x.1 x.2⟩
theorem avx(w:bL)(cv:Bool)(h:gi w):Qw gR.sh C7.sh (w,cv)=mpure (dF w cv):=by
 unfold Qw cR aG aQ aB bj b_ a7 ay dF;simp only[aF.sh,ed,bb h];by_cases hc:cA w=0
 ·have hw:mv w:=⟨h,GK hc⟩
  have aeN:=yc hw.2;simp only[hc,ajq];cases cv with
  | false=>simp
  | true=>
   rw[db (List.range w.1.length) (λi (_)=>((i:Int),w,())) (λi b=>if decide (((hb w i).length:Int)=0)=true then .done (.done (3)) else .next b) (λ_=>.next ()) () ?_ ?_ ?_]
   ·rw[j9 (q:=λ(i:Nat)=>!decide (((hb w i).length:Int)=0)) _ _ (λi=>by simp)];have e:((List.range w.1.length).all λi=>!decide (((hb w i).length:Int)=0))=u0 w:=rfl;rw[e];cases u0 w<;>simp
   ·rfl
   ·intro i D b;have D:i<w.1.length:=by grind
    have gy:=bc (n:=i+1) (by omega) (by omega);simp only[ch,cT D,aJ6,hw,aeM D,aKH,bS,aH,cy,gy];exact lu (mk:=λ_=>((i:Int)+1,w,()))
   simp
 grind
theorem avy(x):aR (Qw gR.sh C7.sh x) (GL.sh x):=bg λh=>avx x.1 x.2 h
abbrev qt:aF:=⟨jo,bp,gi,λw=>dF w true⟩
theorem RM(x):aR (ZA GL.sh x) (qt.sh x):=bg λh=>by
 unfold ZA;simp only[aF.sh,ed,bb (h)]
theorem C9{w:bL}{cv:Bool}(h:dF w cv=0):cA w=0/\cv=true/\u0 w=true:=by
 unfold dF at h;grind
theorem SB{w:bL}{cv:Bool}(az:gi w)(h:dF w cv=0):mv w:=⟨az,GK (C9 h).1⟩
theorem avz{w:bL}(h:u0 w=true){i:Int}(D:fP w i=true):0<(hb w i).length:=by
 rw[qv]at D;have:=List.all_eq_true.1 h i.toNat (by grind);grind
def ye(w:bL)(i:Int):(Int×Int)×Int:=if dF w (fP w i)≠0 then ((0,0),dF w (fP w i)) else (((hb w i).getD 0 0,(hb w i).getD ((hb w i).length - 1) 0),0)
abbrev C_:aF:=⟨.ar jo bp,.ar mn bp,λx=>gi x.1,λx=>ye x.1 x.2⟩
def GM(some many:Int):Int:=if some=many then 1 else if some=0 then 2 else 3
abbrev yf:aF:=⟨.ar bp bp,bp,λ_=>True,λx=>GM x.1 x.2⟩
theorem avA(x):aR (ZB x) (yf.sh x):=bg λ_=>by
 unfold ZB aG;simp  [GM];grind
theorem SC{ag:Type}{p:ag->Bool}:∀ (l:List ag) (n:Int),l.foldl (λn x=>if p x=true then n+1 else n) n=n+(l.countP p:Int)
 | [],n=>by simp
 | x::l,n=>by
  simp;rw[SC l];grind
def rl(w:bL)(i m k:Int):Int:=GM ((hb w i).countP λn=>uZ w i n m k:Int) ((hb w i).length:Int)
abbrev K2:aF:=⟨.ar jo (.ar bp (.ar bp bp)),bp,λx=>mv x.1/\fP x.1 x.2.1=true/\h8 x.1 x.2.2.1 x.2.2.2=true,λx=>rl x.1 x.2.1 x.2.2.1 x.2.2.2⟩
theorem avB(w:bL)(i m k:Int)(hw:mv w)(D:fP w i=true)(hm:h8 w m k=true):Qy tv.sh C7.sh yf.sh (w,i,m,k)=mpure (rl w i m k):=by
 unfold Qy cR aL b1 bN aQ aB bj a7 ay a6 bT eS;have ix:=Sz hw D;simp only[aF.sh,ed,hw,D,bS];rw[d' (hb w i) (λj n=>(i,m,k,hb w i,n,(j:Int),w,())) (λx n=>.next (if uZ w i x m k=true then n+1 else n)) (λn=>.next (hb w i,n,())) (λj n=>0<=n/\n<=(j:Int)) 0 ?_ ?_ ?_ ?_]
 ·rw[cU,SC];simp;rfl
 ·rfl
 ·simp
 ·intro j aI n aC;have SD:=bc (n:=j+1) (by omega) (by omega);have yg:=bc (n:=n+1) (by omega) (by omega);refine⟨?_,λbl V=>?_⟩
  ·simp only[ch,cT aI,c_ aI,cE aI,hw,D,hm,cy,yg];cases uZ w i (hb w i)[j] m k<;>simp[SD]
  grind
 simp
theorem avC(x):aR (Qy tv.sh C7.sh yf.sh x) (K2.sh x):=bg λh=>avB x.1 x.2.1 x.2.2.1 x.2.2.2 h.1 h.2.1 h.2.2
def kc(w:bL)(i m k:Int):Int×Int:=if dF w (fP w i&&h8 w m k)≠0 then (0,dF w (fP w i&&h8 w m k)) else (rl w i m k,0)
abbrev tx:aF:=⟨.ar jo (.ar bp (.ar bp bp)),.ar bp bp,λx=>gi x.1,λx=>kc x.1 x.2.1 x.2.2.1 x.2.2.2⟩
theorem avD(w:bL)(i m k:Int)(h:gi w):Qq pF.sh ri.sh GL.sh K2.sh (w,i,m,k)=mpure (kc w i m k):=by
 unfold Qq aG bT eS fY kc;simp  [aF.sh,h,aK0];by_cases ah:dF w (fP w i&&h8 w m k)=0
 ·have hw:=SB h ah;have D:=(C9 ah).2.1;simp_all
 grind
theorem SE(x):aR (Qq pF.sh ri.sh GL.sh K2.sh x) (tx.sh x):=bg λh=>avD x.1 x.2.1 x.2.2.1 x.2.2.2 h
section
variable {ag:Type}
def zY(d:ag)(x:List ag×(ag->G Bool)):G Int:=
 ao (dG (λ(A:List ag×(ag->G Bool)×Int×Int×Unit)=>if decide (A.2.2.2.1<A.2.2.1)=true then ad (0<=A.2.2.2.1/\
 A.2.2.2.1<Int.ofNat (List.length A.1)) (ao (A.2.1 (List.getD A.1 (Int.toNat A.2.2.2.1) d)) λy=>if y=true then ao (ao (mpure
 A.2.2.2.1) λr=>mpure (bq.done r)) λr=>mpure (bq.done r) else mpure (bq.next (A.1,A.2.1,A.2.2.1,IntKind.wrap .i64 (Add.add
 A.2.2.2.1 1),()))) else ao (mpure (bq.next ())) λr=>mpure (bq.done r)) (x.1,x.2,Int.ofNat (List.length x.1),0,())) (bq.hx λ(A
 : Unit)=>mpure (-1))
def Ge(c:List ag×(ag->G Bool)->G Int)(x:List ag×(ag->G Bool)):G Bool:=ao (c x) λy=>mpure (decide (y>=0))
def aeO(c:List ag×(ag->G Bool)->G Bool)(bx:ag×Option (ag->G Bool)->G Bool)(x:List ag×(ag->G Bool)):G Bool:=
 ao (c (x.1,λiC=>bx (iC,some x.2))) λy=>mpure !y
def aeP(x:ag×Option (ag->G Bool)):G Bool:=ao (Option.getD x.2 (λx=>{ et:=False,bo:=λx=>False }) x.1) λy=>mpure !y
def iZ(p:ag->Bool):List ag->Int->Int
 | [],_=>-1
 | x::l,i=>if p x=true then i else iZ p l (i+1)
theorem Cs(p:ag->Bool):∀ (l:List ag) (i:Int),0<=i->(decide (iZ p l i>=0))=l.any p
 | [],i,_=>by rfl
 | x::l,i,h=>by
  simp only[iZ,aK6];by_cases al:p x=true
  ·grind
  ·have:=Cs p l (i+1) (by omega);grind
theorem Ct(p:ag->Bool):∀ (l:List ag) (i:Int),e' (λx (i:Int)=>if p x=true then (.done (.done i):bq Int (bq Unit Int)) else .next (i+1)) (λ_=>.next ()) l i=if l.any p=true then .done (iZ p l i) else .next ()
 | [],i=>by rfl
 | x::l,i=>by
  simp only[e',aK6,iZ];by_cases al:p x=true
  ·grind
  ·have:=Ct p l (i+1);grind
theorem Gf{p:ag->Bool}:∀ (l:List ag) (i:Int),¬l.any p=true->iZ p l i=-1
 | [],_,_=>rfl
 | x::l,i,aC=>by
  simp only[aK6,aKm,not_or]at aC;simp only[iZ,aC.1,ajh,ajq];exact Gf l _ aC.2
theorem Rl(d:ag)(l:List ag)(f:ag->G Bool)(h:l.length<2 ^ 63)(aw:∀ y∈l,∃ b,f y=mpure b):zY d (l,f)=mpure (iZ (λy=>(f y).val false) l 0):=by
 unfold zY;rw[d' l (λi (b:Int)=>(l,f,(l.length:Int),b,())) (λy (i:Int)=>if (f y).val false=true then (.done (.done i):bq Int (bq Unit Int)) else .next (i+1)) (λ_=>.next ()) (λi b=>b=(i:Int)) 0 ?_ ?_ ?_ ?_]
 ·rw[Ct (λy=>(f y).val false)];by_cases br:(l.any λy=>(f y).val false)=true
  ·simp[br]
  ·have:iZ (λy=>(f y).val false) l 0=-1:=by
    have:∀ (l:List ag) (i:Int),¬(l.any λy=>(f y).val false)=true->iZ (λy=>(f y).val false) l i=-1:=by
     intro l;induction l with
     | nil=>intro i _;rfl
     | cons x l aP=>
      intro i aC;simp only[aK6,aKm,not_or]at aC;simp only[iZ,aC.1,ajh,ajq];grind
    grind
   simp[br,this]
 ·rfl
 ·rfl
 ·intro i D b V;subst V;have hw:=bc (n:=(i:Int)+1) (by omega) (by omega);refine⟨?_,λbl da=>?_⟩
  ·obtain⟨b,V⟩:=aw _ (ajj D);simp only[ch,cT D,if_true,c_ D,cE D,bS,V,eV,aH,cy,hw];split<;>rfl
  grind
 simp
end
abbrev m'(e:aa):aF:=⟨.ar (.slice e) (.fn e .bool),bp,λx=>x.1.length<2 ^ 63/\∀ y∈x.1,∃ b,x.2 y=mpure b,λx=>iZ (λy=>(x.2 y).val false) x.1 0⟩
theorem uG(e:aa)(x):aR (zY e.dK x) ((m' e).sh x):=bg λh=>Rl e.dK x.1 x.2 h.1 h.2
abbrev kr(e:aa):aF:=⟨.ar (.slice e) (.fn e .bool),dm,λx=>x.1.length<2 ^ 63/\∀ y∈x.1,∃ b,x.2 y=mpure b,λx=>x.1.any λy=>(x.2 y).val false⟩
theorem uH(e:aa)(x):aR (Ge (m' e).sh x) ((kr e).sh x):=bg λh=>by
 unfold Ge;simp only[aF.sh,m',ed];rw[bb (by exact h)];exact congrArg mpure (Cs (λy=>(x.2 y).val false) x.1 0 (by omega))
abbrev yh(e:aa):aF:=⟨.ar e (.bV (.fn e .bool)),dm,λx=>∃ f,x.2=some f/\∃ b,f x.1=mpure b,λx=>!((x.2.getD λ_=>eu) x.1).val false⟩
theorem GN(e:aa)(x):aR (aeP x) ((yh e).sh x):=bg λh=>by
 obtain⟨y,o⟩:=x;obtain⟨f,aw,b,V⟩:=h;change o=some f at aw;subst aw;change f y=mpure b at V;unfold aeP;simp_all
abbrev kN(e:aa):aF:=⟨.ar (.slice e) (.fn e .bool),dm,λx=>x.1.length<2 ^ 63/\∀ y∈x.1,∃ b,x.2 y=mpure b,λx=>x.1.all λy=>(x.2 y).val false⟩
theorem GO(e:aa)(x):aR (aeO (kr e).sh (yh e).sh x) ((kN e).sh x):=bg λh=>by
 obtain⟨l,f⟩:=x;obtain⟨E,M⟩:=h;unfold aeO;have hc:∀ y∈l,(yh e).sh (y,some f)=mpure (!(f y).val false):=λy bh=>by
  obtain⟨b,V⟩:=M y bh;exact bJ ⟨f,rfl,b,V⟩ _
 simp only[aF.sh,kr,ed];rw[bb ⟨E,λy bh=>⟨_,hc y bh⟩⟩];refine congrArg mpure ?_;rw[List.not_any_eq_all_not];simp
end Go.Fer
namespace Go.Fer
theorem K3{ag:Type}{p q:ag->Bool}:∀ {l:List ag},(∀ x∈l,p x=q x)->l.all p=l.all q
 | [],_=>rfl
 | x::l,h=>by
  grind
theorem avE(x):aR (aqD x) (cS.sh x):=bg λ_=>rfl
theorem avF(x):aR (aqE cS.sh x) (qw.sh x):=bg λ_=>aeG x
abbrev Ao:aF:=⟨bp,dm,λ_=>True,sv⟩
theorem avG(x):aR (ZN cS.sh x) (Ao.sh x):=bg λ_=>by
 unfold ZN;simp only[aF.sh,cS,ed,bS,Ao,sv]
theorem avH(x):aR (aqB cS.sh x) (pF.sh x):=bg λh=>aeE x.1 x.2 h
theorem avI(x):aR (ZL cS.sh x) (ri.sh x):=bg λh=>by
 obtain⟨w,m,k⟩:=x;change gi w at h;have:=aeF w m k h;unfold J' b3 aL aB cu at this;unfold ZL b3 aL aB cu;simp only[aF.sh,C6,ed,bb h,cS,bS,ch]at this ⊢;have af:=h.2.1;have hw:=bc (n:=(w.2.1.length:Int) - 1) (by omega) (by omega);simp only[hw,uX];exact this
theorem avJ(x):aR (aqC x) (wH.sh x):=bg λh=>aeH x h
theorem avK(l:z1')(n:Int)(h:l.length<2 ^ 63):QB (l,n)=mpure (iZ (λy=>decide (n=y)) l 0):=by
 unfold QB aL aG aQ aB bj b_ a7 ay a6;rw[d' l (λi (b:Int)=>(l,n,(l.length:Int),b,())) (λy (i:Int)=>if decide (n=y)=true then (.done (.done i):bq Int (bq Unit Int)) else .next (i+1)) (λ_=>.next ()) (λi b=>b=(i:Int)) 0 ?_ ?_ ?_ ?_]
 ·rw[Ct (λy=>decide (n=y))];by_cases br:(l.any λy=>decide (n=y))=true
  ·simp_all
  ·rw[if_neg br,Gf l 0 br];simp
 ·rfl
 ·rfl
 ·intro i D b V;subst V;have hw:=bc (n:=(i:Int)+1) (by omega) (by omega);refine⟨?_,λbl da=>?_⟩
  ·simp only[ch,cT D,if_true,c_ D,cE D,bS,aH,cy,hw];split<;>rfl
  grind
 simp
abbrev K4:aF:=⟨.ar dV bp,bp,λx=>x.1.length<2 ^ 63,λx=>iZ (λy=>decide (x.2=y)) x.1 0⟩
theorem avL(x):aR (QB x) (K4.sh x):=bg λh=>avK x.1 x.2 h
theorem avM(x):aR (ZD K4.sh x) (i'.sh x):=bg λh=>by
 unfold ZD;simp only[aF.sh,K4,ed];rw[bb (by exact h),Cs _ _ _ (by omega)];grind
theorem avN(x):aR (ZM Ao.sh qw.sh x) ((⟨l3,dm,λ_=>True,tt⟩:aF).sh x):=bg λ_=>by
 unfold ZM b3;simp only[aF.sh,Ao,qw,ed,lr,bS,aKl,xF,tt]
abbrev K5:aF:=⟨l3,dm,λ_=>True,tt⟩
theorem avO(x):aR (ZO wH.sh (kN bp).sh Ao.sh qw.sh x) (uY.sh x):=bg λh=>by
 unfold ZO hN b3 aB;simp only[aF.sh,wH,qw,kN,Ao,ed,lr,bS,aKl,fZ];rw[bb (by exact λ_=>⟨h,λy _=>⟨_,bJ trivial _⟩⟩),bb (by omega)];simp only[xF,ch];refine congrArg mpure ?_;show _=rj x;unfold rj;grind
abbrev C':aF:=⟨.ar mu (.bV (.fn ss .bool)),dm,λx=>∃ f,x.2=some f/\x.1.length<2 ^ 63/\∀ y∈x.1,∃ b,f y=mpure b,λx=>decide ((x.1.length:Int)<=4)&&x.1.all λy=>((x.2.getD λ_=>eu) y).val false⟩
theorem avP(x):aR (ZP (kN ss).sh x) (C'.sh x):=bg λh=>by
 obtain⟨m,o⟩:=x;obtain⟨f,aw,E,M⟩:=h;change o=some f at aw;subst aw;unfold ZP b3 aB;simp only[aF.sh,kN,ed,lr,aju];simp_all
abbrev Da:aF:=⟨.ar k8 (.bV jo),dm,λx=>∃ w,x.2=some w/\gi w,λx=>tu (x.2.getD ([],[],0,[])) x.1⟩
theorem avQ(x):aR (ZQ pF.sh ri.sh cS.sh x) (Da.sh x):=bg λh=>by
 obtain⟨t,o⟩:=x;obtain⟨w,aw,E⟩:=h;change o=some w at aw;subst aw;unfold ZQ b3;simp only[aF.sh,pF,ri,cS,ed,lr,aju,bb E,E,aKl,bS,xF,Da,tu]
theorem avR(x):aR (ZK cS.sh (kN l3).sh (kN mu).sh (kN k8).sh C'.sh Da.sh K5.sh uY.sh x) (ya.sh x):=bg λh=>by
 have aZ:gi x:=h;obtain⟨E,M,ai,bf⟩:=(h:gi x)
 unfold ZK hN b3 aB;have d1:∀ s,K5.sh s=mpure (tt s):=λ_=>rfl;have d2:∀ m∈x.2.1,C'.sh (m,some uY.sh)=mpure (rk m):=λm hm=>by
  refine (bJ ⟨_,rfl,(bf m hm).1,λy bh=>⟨_,bJ ((bf m hm).2 y bh) _⟩⟩ _).trans (congrArg mpure ?_);simp only[C',aju,rk,aF.sh,fZ];grind
 have d3:∀ t,Da.sh (t,some x)=mpure (tu x t):=λt=>bJ ⟨_,rfl,aZ⟩ _;have cd:(x.1.all λy=>(K5.sh y).val false)=x.1.all tt:=K3 λs _=>fZ;have a2:(x.2.1.all λy=>(C'.sh (y,some uY.sh)).val false)=x.2.1.all rk:=K3 λm hm=>(congrArg (λz:G Bool=>z.val false) (d2 m hm)).trans eV;have a3:(x.2.2.2.all λy=>(Da.sh (y,some x)).val false)=x.2.2.2.all (tu x):=K3 λt _=>fZ;have ax:∀ y,(kN l3).sh y=eL ((kN l3).pre y) ((kN l3).g y):=λ_=>rfl;have aU:∀ y,(kN mu).sh y=eL ((kN mu).pre y) ((kN mu).g y):=λ_=>rfl;have cD:∀ y,(kN k8).sh y=eL ((kN k8).pre y) ((kN k8).g y):=λ_=>rfl;have eZ:∀ y,cS.sh y=mpure (cS.g y):=λ_=>rfl;simp only[ax,aU,cD,eZ,ed,lr,oF,aH];rw[bb (by grind),bb (by grind),bb (by exact λ_=>⟨ai,λy _=>⟨_,d3 y⟩⟩)];simp only[xF,ch];refine congrArg mpure ?_;show _=lz x;rw[cd,a2,a3];unfold lz x';grind
def l4(m:z5')(k:Int×Int×Int):Option Int:=Option.map (λx=>x.2) (List.find? (λp=>decide (k.1=p.1.1)&&(decide (k.2.1=p.1.2.1)&&decide (k.2.2=p.1.2.2))) m)
def wI(m:z3')(k:Int):Option Int:=Option.map (λx=>x.2) (List.find? (λp=>decide (k=p.1)) m)
theorem aeQ{a b:Int×Int×Int}:(decide (a.1=b.1)&&(decide (a.2.1=b.2.1)&&decide (a.2.2=b.2.2)))=decide (a=b):=by
 grind
theorem SF(k):l4 [] k=none:=rfl
theorem K6(k:Int×Int×Int)(v:Int)(k':Int×Int×Int):∀ m,l4 (xG m k v) k'=if k'=k then some v else l4 m k'
 | []=>by
  show l4 [(k,v)] k'=_;by_cases h:k'=k<;>simp[l4,aeQ]
 | p::m=>by
  have aP:=K6 k v k' m;show l4 (if (decide (k.1=p.1.1)&&(decide (k.2.1=p.1.2.1)&&decide (k.2.2=p.1.2.2)))=true then (p.1,v)::m else p::xG m k v) k'=_;by_cases h:k=p.1
  ·subst h;by_cases eA:k'=p.1<;>simp[l4,aeQ,eA]
  ·simp  [l4,List.find?_cons]at aP ⊢;grind
theorem aeR(k v k':Int):∀ m,wI (gq m k v) k'=if k'=k then some v else wI m k'
 | []=>by
  show wI [(k,v)] k'=_;by_cases h:k'=k<;>simp[wI]
 | p::m=>by
  have aP:=aeR k v k' m;show wI (if decide (k=p.1)=true then (p.1,v)::m else p::gq m k v) k'=_;by_cases h:k=p.1
  ·subst h;by_cases eA:k'=p.1<;>simp[wI,eA]
  ·simp  [wI]at aP ⊢;grind
def rm(t:oO):Int×Int×Int:=(t.1,t.2.1,t.2.2.1)
theorem K7{a b:oO}:oP a b=true<->rm a=rm b/\a.2.2.2≠b.2.2.2:=by
 simp  [oP,rm];omega
theorem aeS(l:List oO):pA l=true<->l.Pairwise λa b=>oP a b=false:=by
 unfold pA;rw[List.pairwise_iff_getElem];simp;grind
def K8(m:z5')(pre:List oO):Prop:=∀ k v,l4 m k=some v<->(∃ t∈pre,rm t=k/\t.2.2.2=v)
def GP(m:z5')(t:oO):Bool:=Option.isSome (l4 m (rm t))&&decide (Option.getD (l4 m (rm t)) 0≠t.2.2.2)
theorem aeT{m pre}(h:K8 m pre)(aq:pre.Pairwise λa b=>oP a b=false)(t:oO):GP m t=true<->∃ a∈pre,oP a t=true:=by
 unfold GP;cases af:l4 m (rm t) with
 | none=>
  simp only[aLN,aLB,ajh,false_iff];rintro⟨a,br,hc⟩;have:=(h (rm t) a.2.2.2).2 ⟨a,br,(K7.1 hc).1,rfl⟩;grind
 | some v=>
  simp only[aKf,aKO,aju,ajl];obtain⟨b,V,ah,ab⟩:=(h _ _).1 af;constructor
  ·intro fc;exact⟨b,V,K7.2 ⟨ah,by omega⟩⟩
  ·rintro⟨a,br,hc⟩ rfl;obtain⟨bx,c2⟩:=K7.1 hc;have:=(h (rm t) a.2.2.2).2 ⟨a,br,bx,rfl⟩;grind
theorem avS{m pre}(h:K8 m pre){t:oO}(V:∀ a∈pre,oP a t=false):K8 (xG m (rm t) t.2.2.2) (pre++[t]):=by
 intro k v;rw[K6];by_cases ah:k=rm t
 ·constructor
  ·grind
  ·rintro⟨a,br,E,M⟩;rcases List.mem_append.1 br with br | br
   ·have:¬oP a t=true:=by grind
    rw[K7]at this;grind
   grind
 ·rw[if_neg ah,h];grind
theorem aeU:∀ (cK:List oO) (m) (pre:List oO),K8 m pre->(pre.Pairwise λa b=>oP a b=false)->
  e' (λt m=>if GP m t=true then (.done (.done 71):bq _ (bq Unit Int)) else .next (xG m (rm t) t.2.2.2)) (λ_=>.next ()) cK m=if pA (pre++cK)=true then .next () else .done 71
 | [],m,pre,h,aq=>by
  have:=(aeS pre).2 aq;simp[e',this]
 | t::cK,m,pre,h,aq=>by
  simp  [e'];by_cases V:GP m t=true
  ·obtain⟨a,br,hc⟩:=(aeT h aq t).1 V;have:¬pA (pre++t::cK)=true:=by
    rw[aeS];grind
   grind
  ·have aC:∀ a∈pre,oP a t=false:=λa br=>by
    have:=λhc=>V ((aeT h aq t).2 ⟨a,br,hc⟩);grind
   have Ei:(pre++[t]).Pairwise λa b=>oP a b=false:=by
    grind
   have:=aeU cK _ (pre++[t]) (avS h aC) Ei;grind
theorem avT(w:bL)(h:gi w):QC ya.sh w=mpure (cA w):=by
 have az:=h;obtain⟨E,M,ai,bf⟩:=h;unfold QC bU eM aL bN aG aQ aB bj b_ a7 ay a6;simp only[aF.sh,ed,bb az];unfold cA;cases hw:lz w with
 | false=>simp
 | true=>
  rw[db w.2.2.2 (λi m=>(w.2.2.2,(w.2.2.2.length:Int),(i:Int),m,())) (λt m=>if GP m t=true then (.done (.done 71)) else .next (xG m (rm t) t.2.2.2)) (λ_=>.next ()) [] ?_ ?_ ?_]
  ·rw[aeU w.2.2.2 [] [] (λk v=>by simp[SF]) (by simp)];by_cases aT:pA w.2.2.2=true<;>simp[aT]
  ·rfl
  ·intro i D m;have gy:=bc (n:=i+1) (by omega) (by omega);simp only[ch,cT D,c_ D,cE D,bS,aH,cy,gy];exact Zl (mk:=λm=>(w.2.2.2,(w.2.2.2.length:Int),(i:Int)+1,m,()))
  simp
theorem avU(x):aR (QC ya.sh x) (gR.sh x):=bg λh=>avT x h
theorem avV(w:bL)(i n m k:Int)(hw:mv w)(D:fP w i=true)(hm:h8 w m k=true):ZS cS.sh i'.sh (w,i,n,m,k)=mpure (uZ w i n m k):=aeL w i n m k hw D hm
theorem avW(x):aR (ZS cS.sh i'.sh x) (tv.sh x):=bg λh=>avV x.1 x.2.1 x.2.2.1 x.2.2.2.1 x.2.2.2.2 h.1 h.2.1 h.2.2
abbrev GQ:aF:=⟨.ar k8 (.ar (.bV bp) (.ar (.bV jo) (.bV bp))),dm,λx=>∃ i w n,x.2=(some i,some w,some n)/\mv w/\fP w i=true/\h8 w x.1.2.1 x.1.2.2.1=true,λx=>tw (x.2.2.1.getD ([],[],0,[])) (x.2.1.getD 0) (x.2.2.2.getD 0) x.1⟩
theorem avX(x):aR (ZR tv.sh x) (GQ.sh x):=bg λh=>by
 obtain⟨t,o⟩:=x;obtain⟨i,w,n,aw,hw,D,hm⟩:=h;subst aw;unfold ZR bU eM eS;simp  [aF.sh,ne_eq];by_cases aT:t.1=i
 ·have aq:mv w/\fP w i=true/\h8 w t.2.1 t.2.2.1=true:=⟨hw,D,hm⟩
  simp[tw,aq]
 ·simp[tw,aT]
def rn(w:bL):List (z1'):=(List.range w.1.length).map λ(i:Nat)=>hb w (i:Int)
def l5(w:bL)(cv:Bool):Option wo×Int:=if dF w cv≠0 then (none,dF w cv) else (some (w,rn w),0)
abbrev Db:aF:=⟨.ar jo dm,.ar (.bV (.ae (.ar jo (.slice dV)))) bp,λx=>gi x.1,λx=>l5 x.1 x.2⟩
theorem avY{w:bL}{i:Int}:hb w i=(dA (fw w i).2.2.1 (fw w i).2.2.2).filter λn=>w.2.2.2.all (tw w i n):=by
 refine aLe λn aC=>?_;rw[r']at aC;simp[yd,aC]
theorem aeV{w:bL}:∀ (l:List Nat) (acc:List (z1')),e' (λ(i:Nat) (acc:List (z1'))=>if decide (((hb w (i:Int)).length:Int)=0)=true then (.done (.done (none,(3:Int))):bq _ (bq (List Su×List (List Al)×Int×List oO×List (z1')×Unit) (Option wo×Int))) else .next (acc++[hb w (i:Int)])) (λacc=>.next (w.1,w.2.1,w.2.2.1,w.2.2.2,acc,())) l acc
  =if (l.all λ(i:Nat)=>!decide (((hb w (i:Int)).length:Int)=0))=true then .next (w.1,w.2.1,w.2.2.1,w.2.2.2,acc++l.map (λ(i:Nat)=>hb w (i:Int)),()) else .done (none,3)
 | [],acc=>by simp[e']
 | i::l,acc=>by
  simp only[e',aLK];by_cases h:((hb w i).length:Int)=0
  ·grind
  ·simp only[h,aKe,ajh,ajq,aKO];rw[aeV l];simp
theorem avZ(w:bL)(cv:Bool)(h:gi w):QF gR.sh (kN k8).sh GQ.sh (w,cv)=mpure (l5 w cv):=by
 unfold QF aL b1 bN aG aQ aB bj b_ e9 a7 ay cM a6 l5 dF;simp only[aF.sh,ed,bb h];by_cases hc:cA w=0
 ·have hw:mv w:=⟨h,GK hc⟩
  have aeN:=yc hw.2;simp only[hc,ajq];cases cv with
  | false=>simp
  | true=>
   rw[d' (List.range w.1.length) (λi acc=>(w.1,(w.1.length:Int),(i:Int),w,w.1,w.2.1,w.2.2.1,w.2.2.2,acc,())) (λi acc=>if decide (((hb w i).length:Int)=0)=true then (.done (.done (none,(3)))) else .next (acc++[hb w i])) (λacc=>.next (w.1,w.2.1,w.2.2.1,w.2.2.2,acc,())) (λi acc=>acc.length<=i) [] ?_ ?_ ?_ ?_]
   ·rw[aeV];have e:((List.range w.1.length).all λi=>!decide (((hb w i).length:Int)=0))=u0 w:=rfl;rw[e];by_cases aT:u0 w=true<;>simp[aT,rn]
   ·rfl
   ·simp
   ·intro i D acc wJ;have D:i<w.1.length:=by grind
    have oD:=aeM D;have af:=Sy hw.2 oD;have gy:=bc (n:=i+1) (by omega) (by omega);have aA:w.1[i]=fw w i:=by simp[fw,D]
    refine⟨?_,λbl V=>?_⟩
    ·simp only[ch,cT D,c_ D,cE D,aA];rw[d' (dA (fw w i).2.2.1 (fw w i).2.2.2) (λk l=>(w.1,(w.1.length:Int),(i:Int),w,(i:Int),fw w i,l,(fw w i).2.2.1+k,w.1,w.2.1,w.2.2.1,w.2.2.2,acc,())) (λn l=>.next (if w.2.2.2.all (tw w i n)=true then l++[n] else l)) (λl=>.next (w.1,(w.1.length),i,w,l,w.1,w.2.1,w.2.2.1,w.2.2.2,acc,())) (λk l=>l.length<=k) [] ?_ ?_ ?_ ?_]
     ·rw[cU,Ck];simp only[aH,cp];rw[<-avY];by_cases bD:((hb w i).length)=0
      ·simp[bD]
      ·have ix:bW (acc.length+(0+1)):=by unfold bW;omega
       simp_all
     ·simp
     ·simp
     ·intro k ah l SA;have bj:(fw w i).2.2.1+k<=(fw w i).2.2.2:=by rw[uD]at ah;omega
      have C8:=bc (n:=(fw w i).2.2.1+(k+1)) (by omega) (by omega);have ix:bW (l.length+(0+1)):=by unfold bW;omega
      refine⟨?_,λbl V=>?_⟩
      ·have om:∀ t∈w.2.2.2,GQ.sh (t,some i,some w,some ((fw w i).2.2.1+k))=mpure (tw w i ((fw w i).2.2.1+k) t):=λt aT=>bJ ⟨_,_,_,rfl,hw,oD,(aeK hw.2 aT).2⟩ _;simp only[bj,pB];rw[bb (by exact⟨h.2.2.1,λt aT=>⟨_,om t aT⟩⟩)];by_cases V:w.2.2.2.all (tw w i ((fw w i).2.2.1+k))=true
       ·simp  [V,bb ix,C8,Int.add_assoc]
       ·simp  [V,C8,Int.add_assoc]
      grind
     ·have:¬(fw w i).2.2.1+((dA (fw w i).2.2.1 (fw w i).2.2.2).length)<=(fw w i).2.2.2:=by rw[uD];omega
      simp  [this,aH]
    grind
   simp
 grind
theorem av0(x):aR (QF gR.sh (kN k8).sh GQ.sh x) (Db.sh x):=bg λh=>avZ x.1 x.2 h
theorem av1(x):aR (ZT x) (yf.sh x):=bg λ_=>by
 unfold ZT aG;simp  [GM];grind
theorem aeW(w:bL):(rn w).length=w.1.length:=by simp[rn]
theorem SG{w:bL}{i:Int}(h:fP w i=true):List.getD (rn w) i.toNat []=hb w i:=by
 rw[qv]at h;have:=by omega
 have e:(i.toNat)=i:=by omega
 simp[rn,this,e]
abbrev av2:aa:=.bV (.ae (.ar jo (.slice dV)))
def av3(o:Option wo)(w:bL):Prop:=o=some (w,rn w)/\mv w
abbrev K9:aF:=⟨.ar av2 (.ar bp (.ar bp bp)),bp,λx=>∃ w,av3 x.1 w/\fP w x.2.1=true/\h8 w x.2.2.1 x.2.2.2=true,λx=>rl ((x.1.getD (([],[],0,[]),[])).1) x.2.1 x.2.2.1 x.2.2.2⟩
theorem av4(w:bL)(i m k:Int)(hw:mv w)(D:fP w i=true)(hm:h8 w m k=true):QG tv.sh yf.sh (some (w,rn w),i,m,k)=mpure (rl w i m k):=by
 unfold QG aL b1 bN aG aQ aB a7 ay a6;have ix:=Sz hw D;have b4:0<=i/\i<((rn w).length):=by rw[aeW];exact qv.1 D
 simp only[aju,ch,SG D];rw[d' (hb w i) (λj n=>(some (w,rn w),i,m,k,n,hb w i,((hb w i).length:Int),(j:Int),())) (λx n=>.next (if uZ w i x m k=true then n+1 else n)) (λn=>.next (some (w,rn w),i,n,())) (λj n=>0<=n/\n<=(j:Int)) 0 ?_ ?_ ?_ ?_]
 ·rw[cU,SC];simp only[aH,cp,aKf,aju,bS,bb b4,SG D,aF.sh,ed,aK7];rfl
 ·rfl
 ·simp
 ·intro j aI n aC;have SD:=bc (n:=j+1) (by omega) (by omega);have yg:=bc (n:=n+1) (by omega) (by omega);have aq:mv w/\fP w i=true/\h8 w m k=true:=⟨hw,D,hm⟩
  refine⟨?_,λbl V=>?_⟩
  ·simp only[cT aI,c_ aI,cE aI,aju,aF.sh,ed,bb aq,cy,yg];cases uZ w i (hb w i)[j] m k<;>simp[SD]
  grind
 simp
theorem av5(x):aR (QG tv.sh yf.sh x) (K9.sh x):=bg λh=>by
 obtain⟨o,i,m,k⟩:=x;obtain⟨w,⟨aw,hw⟩,D,hm⟩:=h;subst aw;exact av4 w i m k hw D hm
theorem aeX{w:bL}{cv:Bool}(h:dF w cv=0):l5 w cv=(some (w,rn w),0):=by simp[l5,h]
theorem aeY{w:bL}{cv:Bool}(h:dF w cv≠0):l5 w cv=(none,dF w cv):=by simp[l5,h]
theorem av6(w:bL)(i:Int)(h:gi w):QD Db.sh pF.sh (w,i)=mpure (ye w i):=by
 unfold QD aL eC aG aB a6 dJ bT cu eS ye;simp only[aF.sh,fZ,h];by_cases ah:dF w (fP w i)=0
 ·have hw:=SB h ah;have D:=(C9 ah).2.1;have aq:=avz (C9 ah).2.2 D;have ix:=Sz hw D;have gy:=bc (n:=((hb w i).length) - 1) (by omega) (by omega);have xz:0<=i/\i<((rn w).length):=by rw[aeW];exact qv.1 D
  have cL:(0)<=((hb w i).length:Int) - 1/\((hb w i).length) - 1<((hb w i).length:Int):=by omega
  simp only[aeX ah,aju,SG D,bb cL];simp_all
 ·simp[aeY ah,ah]
theorem av7(x):aR (QD Db.sh pF.sh x) (C_.sh x):=bg λh=>av6 x.1 x.2 h
theorem av8(w:bL)(i m k:Int)(h:gi w):QE Db.sh pF.sh ri.sh K9.sh (w,i,m,k)=mpure (kc w i m k):=by
 unfold QE aG bT eS kc;simp only[aF.sh,lY,fZ,h,bS,aLg,aKH,aLY];by_cases ah:dF w (fP w i&&h8 w m k)=0
 ·have hw:=SB h ah;have D:=(C9 ah).2.1;simp  at D;simp only[aeX ah,ah,ed];rw[bb (by exact⟨w,⟨rfl,hw⟩,D.1,D.2⟩)];rfl
 ·simp[aeY ah,ah]
theorem av9(x):aR (QE Db.sh pF.sh ri.sh K9.sh x) (tx.sh x):=bg λh=>av8 x.1 x.2.1 x.2.2.1 x.2.2.2 h
theorem SH{n:Int}(E:0<=n)(M:n<18446744073709551616):IntKind.u64.wrap n=n:=by
 show (if (false&&decide (n % 2 ^ 64>=(2 ^ (64 - 1):Int)))=true then n % 2 ^ 64 - 2 ^ 64 else n % 2 ^ 64)=n;grind
theorem aeZ:∀ (n:Nat) (l:z1'),l.Nodup->(∀ x∈l,0<=x/\x<(n:Int))->l.length<=n
 | 0,l,_,h=>by
  cases l with
  | nil=>simp
  | cons x l=>have:=h x (by simp);omega
 | n+1,l,aC,h=>by
  have M:=aeZ n (l.erase (n:Int)) (aC.erase _) λx al=>by
   grind
  grind
theorem av_{A rho:Type}{body:A->G (bq A rho)}{p:rho->Prop}{s0:A}(n:Nat)(I:Nat->A->Prop)(aZ:I 0 s0)
  (az:∀ i,i<n->∀ s,I i s->dj (body s) λae=>match ae with | .next s'=>I (i+1) s' | .done r=>p r)
  (aw:∀ s,I n s->dj (body s) λae=>match ae with | .next _=>False | .done r=>p r):dj (dG body s0) p:=by
 have key:∀ k i s,n - i=k->i<=n->I i s->dj (dG body s) p:=by
  intro k;induction k with
  | zero=>
   intro i s ah D h;have:i=n:=by omega
   subst this;rw[DZ,hp];refine (aw s h).mono λy bh=>?_;cases y with
   | next s'=>grind
   | done r=>exact eY.2 bh
  | succ k aP=>
   intro i s ah D h;rw[DZ,hp];refine (az i (by omega) s h).mono λy bh=>?_;cases y with
   | next s'=>grind
   | done r=>exact eY.2 bh
 grind
def SI(x:Int×Int):Int:=IntKind.wrap .u64
 (Add.add (IntKind.wrap .u64 (Add.add (IntKind.wrap .u64 (kA .u64 x.1 32*kA .u64 x.2 32)) (kA .u64 (IntKind.wrap .u64 (Add.add (IntKind.wrap
 .u64 (kA .u64 x.1 32*nm .u64 x.2 4294967295)) (kA .u64 (IntKind.wrap .u64 (nm .u64 x.1 4294967295*nm .u64 x.2 4294967295)) 32))) 32)))
 (kA .u64 (IntKind.wrap .u64 (Add.add (nm .u64 (IntKind.wrap .u64 (Add.add (IntKind.wrap .u64 (kA .u64 x.1 32*nm .u64 x.2 4294967295)) (kA
 .u64 (IntKind.wrap .u64 (nm .u64 x.1 4294967295*nm .u64 x.2 4294967295)) 32))) 4294967295) (IntKind.wrap .u64 (nm .u64 x.1 4294967295*kA
 .u64 x.2 32)))) 32))
def K_:Nat->Bool
 | 0=>true
 | n+1=>decide (SI (1,(n:Int))=0)&&K_ n
theorem ae0:∀ (N n:Nat),K_ N=true->n<N->SI (1,(n:Int))=0
 | 0,n,_,h=>by omega
 | N+1,n,hc,h=>by
  simp only[K_,ajm,ajl]at hc;by_cases e:n=N
  ·grind
  ·exact ae0 N n hc.2 (by omega)
def rp(work:z1')(s:Int):z1':=((List.range work.length).filter λj=>decide (work.getD j 0=s)).map λ(j:Nat)=>(j:Int)
theorem ae1{work:z1'}{s j:Int}:j∈rp work s<->0<=j/\j<(work.length:Int)/\work.getD j.toNat 0=s:=by
 simp only[rp,aLt,aLM,aKR,ajl];grind
theorem av'{ag bet rho:Type}{f:ag->bet->bq bet rho}{fin:bet->rho}(I:Nat->bet->Prop)(Q:rho->Prop)(l:List ag)(b:bet)(aZ:I 0 b)
  (az:∀ i (h:i<l.length) b,I i b->match f l[i] b with | .next bl=>I (i+1) bl | .done r=>Q r) (aw:∀ b,I l.length b->Q (fin b)):Q (e' f fin l b):=by
 have key:∀ (k:Nat) (r:List ag) (b:bet),k<=l.length->r=l.drop k->I k b->Q (e' f fin r b):=by
  intro k r;induction r generalizing k with
  | nil=>
   intro b ah U fa;have:k=l.length:=by have:=congrArg List.length U;grind
   subst this;exact aw b fa
  | cons x r aP=>
   intro b ah U fa;have cF:k<l.length:=by
    grind
   rw[aJ9 cF]at U;injection U with al U
   have E:=az k cF b fa;rw[<-al]at E;simp only[e'];grind
 grind
def dR(m:z3')(k:Int):Int:=(wI m k).getD 0
theorem awa(m:z3')(k:Int):Option.getD (Option.map (λx=>x.2) (List.find? (λp=>decide (k=p.1)) m)) 0=dR m k:=rfl
theorem Dc(k v k':Int)(m:z3'):dR (gq m k v) k'=if k'=k then v else dR m k':=by
 unfold dR;rw[aeR];grind
def wK(n:Nat)(m:z3'):Nat:=(List.range n).countP λ(s:Nat)=>decide (dR m (s:Int)=0)
theorem ae2{p q:Nat->Bool}{s:Nat}(h:∀ x,x≠s->p x=q x)(aq:p s=true)(bM:q s=false):∀ (l:List Nat),l.Nodup->s∈l->l.countP p=l.countP q+1
 | [],_,az=>by cases az
 | x::l,aC,az=>by
  rw[List.nodup_cons]at aC;rw[aLX,aLX];by_cases e:x=s
  ·subst e;have:l.countP p=l.countP q:=aLy λy bh=>by
    grind
   grind
  ·have:=ae2 h aq bM l aC.2 (by grind);grind
theorem ae3{n:Nat}{m:z3'}{s v:Int}(aZ:0<=s)(aC:s<(n:Int))(hm:dR m s=0)(ab:v≠0):wK n m=wK n (gq m s v)+1:=by
 unfold wK;refine ae2 (s:=s.toNat) (λx al=>?_) ?_ ?_ _ List.nodup_range (by grind)
 ·rw[Dc,if_neg (by omega)]
 ·grind
 ·rw[Dc,if_pos (by omega)];grind
theorem ae4{n:Nat}{a b:z3'}(h:∀ k,0<=dR a k/\dR a k<=dR b k):wK n b<=wK n a:=by
 unfold wK;refine List.countP_mono_left λx _ al=>?_;grind
abbrev nG:=z1'×z3'
def bq.GR{bet rho nv:Type}(g:rho->nv):bq bet rho->bq bet nv
 | .next b=>.next b
 | .done r=>.done (g r)
def Ap{ag bet rho:Type}(f:ag->bet->bq bet rho):List ag->bet->bq bet rho
 | [],b=>.next b
 | x::l,b=>match f x b with
  | .next bl=>Ap f l bl
  | .done r=>.done r
def bq.fin{bet rho:Type}(n:bet->rho):bq bet rho->rho
 | .next b=>n b
 | .done r=>r
theorem SJ{ag bet rho:Type}{f:ag->bet->bq bet rho}{n:bet->rho}:∀ (l:List ag) (b:bet),e' f n l b=bq.fin n (Ap f l b)
 | [],b=>rfl
 | x::l,b=>by
  simp only[e',Ap];cases f x b with
  | next bl=>exact SJ l bl
  | done r=>rfl
theorem ae5{ag bet rho nv:Type}{f:ag->bet->bq bet rho}{g:rho->nv}:∀ (l:List ag) (b:bet),Ap (λx b=>bq.GR g (f x b)) l b=bq.GR g (Ap f l b)
 | [],b=>rfl
 | x::l,b=>by
  simp only[Ap];cases f x b with
  | next bl=>exact ae5 l bl
  | done r=>rfl
def GS(w:bL):Prop:=w.1.length<=2000000/\w.2.1.length<=2000000/\w.2.2.2.length<=2000000/\∀ m∈w.2.1,m.length<=2000000/\∀ s∈m,s.2.1.length<=2000000
abbrev si:aF:=⟨jo,jo,GS,λw=>w⟩
theorem ae6{eK:Type}(w:bL)(h:GS w)(fin:bL->G eK):J_ w fin=fin w:=by
 obtain⟨E,M,ai,bf⟩:=h;unfold J_ cR dn aL b1 aQ bj a7 ay dN cM a6;have b4:bW (0+w.1.length):=by unfold bW;omega
 have cL:bW (0+w.2.2.2.length):=by unfold bW;omega
 simp only[mY,bb b4,bb cL,aKw];rw[d' w.2.1 (λi (bo:List (List (Int×z1'×Int×Int)))=>((i:Int),w,0,w.2.2.1,w.1,w.2.2.2,bo,())) (λm bo=>.next (bo++[m])) (λbo=>.next (0,w.2.2.1,w.1,w.2.2.2,bo,())) (λi bo=>bo.length<=i) [] ?_ ?_ ?_ ?_]
 ·rw[cU,oG (g:=λm=>m)];simp
 ·rfl
 ·simp
 ·intro i D bo qf;have hm:=bf w.2.1[i] (ajj D);have iG:=bc (n:=(i:Int)+1) (by omega) (by omega);have e7:bW (0+w.2.1[i].length):=by have:=hm.1;unfold bW;omega
  have mK:bW (bo.length+(0+1)):=by unfold bW;omega
  refine⟨?_,λbl da=>?_⟩
  ·simp only[ch,cT D,if_true,cE D,bS,c_ D,bb e7];rw[db w.2.1[i] (λk (_:Unit)=>((i:Int),(k:Int),w,0,w.2.2.1,w.1,w.2.2.2,w.2.1[i],bo,())) (λs u=>.next u) (λ_=>.next ((i:Int),w,0,w.2.2.1,w.1,w.2.2.2,w.2.1[i],bo,())) () ?_ ?_ ?_]
   ·rw[cU];simp_all
   ·rfl
   ·intro k ah u;have az:=hm.2 _ (ajj ah);have SA:=hm.1;have kM:=bc (n:=(k:Int)+1) (by omega) (by omega);have kV:bW (0+(w.2.1[i])[k].2.1.length):=by unfold bW;omega
    have p5:(w.2.1[i]).set k ((w.2.1[i])[k].1,(w.2.1[i])[k].2.1,(w.2.1[i])[k].2.2)=w.2.1[i]:=aKK ah;simp_all
   simp
  grind
 simp
theorem Rm(x):aR (J_ x mpure) (si.sh x):=bg λh=>ae6 x h mpure
def K'(x:bL×Unit):G (z2'×List (List (Int×z1'×Int×Int))×Int×z2'×Unit):=eL (GS x.1) (x.1.1,x.1.2.1,x.1.2.2.1,x.1.2.2.2,())
theorem awb(x):aR (J_ x.1 λw=>mpure (w.1,w.2.1,w.2.2.1,w.2.2.2,())) (K' x):=bg λh=>ae6 x.1 h _
def wL(m:List (Int×z1'×Int×Int)):Bool:=decide ((m.length:Int) > 20)||m.any λs=>decide ((s.2.1.length:Int) > 20)
def mq(w:bL):Bool:=
 if (decide ((w.1.length:Int) > 40)||decide ((w.2.1.length:Int) > 40)||decide ((w.2.2.2.length:Int) > 60))=true then true
 else if w.2.1.any wL=true then true
 else if cA w≠0 then false
 else if (w.1.any λs=>decide (IntKind.i64.wrap (s.2.2.2 - s.2.2.1)>=50))=true then true
 else decide ((w.1.length:Int) > 6)||decide ((w.2.1.length:Int) > 4)||decide ((w.2.2.2.length:Int) > 10)
theorem awc{w:bL}(h:mq w=false):GS w:=by
 unfold mq at h;split at h
 ·cases h
 ·rename_i E;split at h
  ·cases h
  ·rename_i M;simp only[aKm,ajl,not_or]at E;refine⟨by omega,by omega,by omega,λm hm=>?_⟩;have aw:wL m=false:=by
    grind
   unfold wL at aw;grind
abbrev x8:aF:=⟨jo,dm,gi,mq⟩
theorem awd(w:bL)(h:gi w):QH gR.sh w=mpure (mq w):=by
 unfold QH cN cR dn aL b1 aG aQ aB bj b_ e9 a7 ay hy hO a6 cu mq;simp only[ch];by_cases E:(decide ((w.1.length:Int) > 40)||decide ((w.2.1.length:Int) > 40)||decide ((w.2.2.2.length:Int) > 60))=true
 ·grind
 ·rw[if_neg E,if_neg E];have af:=h;obtain⟨dh,ee,rN,Aq⟩:=h;rw[db w.2.1 (λi (_:Unit)=>((i:Int),w,())) (λm u=>if wL m=true then .done (.done true) else .next u) (λ_=>.next (w,())) () ?_ ?_ ?_]
  ·rw[n2];by_cases M:w.2.1.any wL=true
   ·simp only[M,if_true,aH,tl]
   ·simp only[M,ajh,ajq,aH,cp,aF.sh,ed,bb af];by_cases ai:cA w=0
    ·simp only[ai,ne_eq,not_true,aKe,ajh,ajq];rw[db w.1 (λi (_:Unit)=>((i:Int),w,())) (λs u=>if decide (IntKind.i64.wrap (s.2.2.2 - s.2.2.1)>=50)=true then .done (.done true) else .next u) (λ_=>.next (w,())) () ?_ ?_ ?_]
     ·rw[n2];by_cases bf:(w.1.any λs=>decide (IntKind.i64.wrap (s.2.2.2 - s.2.2.1)>=50))=true
      ·simp_all
      ·simp only[bf,ajh,ajq,aH,cp]
     ·rfl
     ·intro i D u;have iG:=bc (n:=(i:Int)+1) (by omega) (by omega);simp only[ch,cT D,if_true,cE D,bS,c_ D,aH,cy,iG];exact lu (mk:=λ_:Unit=>((i:Int)+1,w,()))
     simp
    grind
  ·rfl
  ·intro i D u;have iG:=bc (n:=(i:Int)+1) (by omega) (by omega);have hm:=Aq _ (ajj D);simp only[ch,cT D,if_true,cE D,bS,c_ D,aH];by_cases b2:decide ((w.2.1[i].length:Int) > 20)=true
   ·have aw:wL w.2.1[i]=true:=by unfold wL;grind
    simp_all
   ·have aw:wL w.2.1[i]=w.2.1[i].any λs=>decide ((s.2.1.length:Int) > 20):=by unfold wL;grind
    rw[if_neg b2];rw[db w.2.1[i] (λk (_:Unit)=>((i:Int),(k:Int),w,())) (λs u=>if decide ((s.2.1.length:Int) > 20)=true then .done (.done (.done (.done true))) else .next u) (λ_=>.next ((i:Int),w,())) () ?_ ?_ ?_]
    ·rw[n2,aw];by_cases d_:(w.2.1[i].any λs=>decide ((s.2.1.length:Int) > 20))=true
     ·simp_all
     ·simp only[d_,ajh,ajq,aH,cp,cy,iG];rfl
    ·rfl
    ·intro k ah u;have kM:=bc (n:=(k:Int)+1) (by omega) (by omega);simp only[cE D,bS,c_ D,cT ah,if_true,cE ah,c_ ah,aH,cy,kM];exact lu (mk:=λ_:Unit=>((i:Int),(k:Int)+1,w,()))
    simp_all
  simp
theorem awe(x):aR (QH gR.sh x) (x8.sh x):=bg λh=>awd x h
def La:bL:=([(1,2,300,310),(1,3,305,305),(2,1,50,60),(1,2,320,330)],[[(1,[2,3],300,306),(2,[1],40,58)],[(1,[2],310,326)]],5,[(0,1,0,0)])
abbrev SK:aF:=⟨.dp,jo,λ_=>True,λ_=>La⟩
theorem awf(x):aR (aqF x) (SK.sh x):=bg λ_=>rfl
theorem awg:gi La:=by
 refine⟨by decide,by decide,by decide,?_⟩;intro m hm;simp only[La,aKU,aLF,or_false]at hm;grind
abbrev oQ:aa:=.ae (.ar bp (.ar bp (.ar bp (.ar bp dV))))
abbrev oR:aa:=.ae (.ar dV (.ar mn (.ar bp (.ar bp bp))))
abbrev nH:aa:=.ae (.ar bp (.ar bp bp))
abbrev hE:aa:=.ae (.ar jo (.ar dV (.ar (.slice oQ) (.ar (.slice oR) (.ar (.slice nH) bp)))))
def eN(s:aS):Prop:=gi s.1/\s.2.1.length<2 ^ 63/\s.2.2.1.length<2 ^ 63/\s.2.2.2.1.length<2 ^ 63/\s.2.2.2.2.1.length<2 ^ 63/\(∀ p∈s.2.2.1,p.2.2.2.2.length<2 ^ 63)/\∀ x∈s.2.2.2.1,x.1.length<2 ^ 63
def cg(n bn D:Int):Bool:=decide (bn<=n)&&decide (n<=D)
def lA(n:Int):Bool:=cg n 0 99
def mw(p:Int->Bool)(l:z1'):Bool:=(List.range l.length).all λi=>p (l.getD i 0)&&!(decide (0<i)&&decide (l.getD i 0<=l.getD (i - 1) 0))
def Lb(w:bL)(m:Int)(n:Int):Bool:=decide (0<=n)&&decide (n<((jq w m).length:Int))
def u1(w:bL)(p:lZ):Bool:=lA p.1&&lA p.2.1&&lA p.2.2.1&&su w p.2.2.2.1&&mw (Lb w p.2.2.2.1) p.2.2.2.2
def tz(x:jQ):Bool:=cg (x.1.length:Int) 1 8&&mw lA x.1&&lA x.2.1.1&&lA x.2.1.2&&decide (x.2.1.1<=x.2.1.2)&&lA x.2.2.1&&lA x.2.2.2.1&&cg x.2.2.2.2 0 100000
def qx(w:bL)(d:fM):Bool:=lA d.1&&fP w d.2.1&&cg d.2.2 1 10
def qy(s:aS):Bool:=decide ((s.2.1.length:Int)=(s.1.1.length:Int))&&(s.2.1.all λn=>cg n 0 10)&&decide ((s.2.2.1.length:Int)<=8)&&s.2.2.1.all (u1 s.1)&&decide ((s.2.2.2.1.length:Int)<=6)&&s.2.2.2.1.all tz&&decide ((s.2.2.2.2.1.length:Int)<=8)&&s.2.2.2.2.1.all (qx s.1)&&lA s.2.2.2.2.2
def ke(s:aS):Int:=if cA s.1≠0 then cA s.1 else if qy s=true then 0 else 80
theorem awh(x):aR (aq8 x) (cS.sh x):=bg λ_=>rfl
theorem awi(x):aR (aq4 x) (cS.sh x):=bg λ_=>rfl
abbrev tA:aF:=⟨bp,dm,λ_=>True,lA⟩
theorem awj(x):aR (aaJ cS.sh x) (tA.sh x):=bg λ_=>by
 unfold aaJ;simp[aF.sh,cS,lA,cg]
theorem awk(x):aR (aaN cS.sh x) (tA.sh x):=bg λ_=>by
 unfold aaN;simp[aF.sh,cS,lA,cg]
abbrev Lc:aF:=⟨.ar dV (.fn bp .bool),dm,λx=>x.1.length<2 ^ 63/\∀ y∈x.1,∃ b,x.2 y=mpure b,λx=>mw (λy=>(x.2 y).val false) x.1⟩
theorem awl(x):aR (aaK x) (Lc.sh x):=bg λh=>by
 obtain⟨l,f⟩:=x;obtain⟨E,M⟩:=h;change l.length<2 ^ 63 at E;change ∀ y∈l,∃ b,f y=mpure b at M;unfold aaK cN aL aG aQ aB bj b_ a7 ay hO a6 cu;rw[db (List.range l.length) (λi (_:Unit)=>(l,f,l,(l.length:Int),(i:Int),())) (λi b=>if (!((f (l.getD i 0)).val false&&!(decide (0<i)&&decide (l.getD i 0<=l.getD (i - 1) 0))))=true then .done (.done false) else .next b) (λ_=>.next ()) () ?_ ?_ ?_]
 ·rw[j9 (q:=λi=>(f (l.getD i 0)).val false&&!(decide (0<i)&&decide (l.getD i 0<=l.getD (i - 1) 0))) _ _ (λ_=>rfl)];show _=mpure (mw (λy=>(f y).val false) l);unfold mw;cases (List.range l.length).all λi=>(f (l.getD i 0)).val false&&!(decide (0<i)&&decide (l.getD i 0<=l.getD (i - 1) 0))<;>simp
 ·rfl
 ·intro i D b;have D:i<l.length:=by grind
  have hw:=bc (n:=(i:Int)+1) (by omega) (by omega);have ft:=bc (n:=(i:Int) - 1) (by omega) (by omega);have aU:((i:Int) - 1).toNat=i - 1:=by omega
  obtain⟨c,hc⟩:=M _ (ajj D);have jF:l.getD i 0=l[i]:=by grind
  have uN:(decide ((i:Int) > 0))=decide (0<i):=by simp
  simp only[ch,cT D,if_true,aJ6,c_ D,cE D,bS,jF,hc,eV,aH,cy,hw,ft,aU,uN];rw[bb (by grind)];cases c<;>cases (decide (0<i)&&decide (l[i]<=l.getD (i - 1) 0))<;>rfl
 simp
abbrev Ld:aF:=⟨.ar dV bp,dm,λx=>x.1.length<2 ^ 63,λx=>mw (λn=>cg n 0 x.2) x.1⟩
theorem awm(x):aR (aaQ x) (Ld.sh x):=bg λh=>by
 obtain⟨l,m⟩:=x;change l.length<2 ^ 63 at h;unfold aaQ cN dn aL aQ aB bj b_ a7 ay hO cu;rw[db (List.range l.length) (λi (_:Unit)=>(l,m,(i:Int),())) (λi b=>if (!(cg (l.getD i 0) 0 m&&!(decide (0<i)&&decide (l.getD i 0<=l.getD (i - 1) 0))))=true then .done (.done false) else .next b) (λ_=>.next ()) () ?_ ?_ ?_]
 ·rw[j9 (q:=λi=>cg (l.getD i 0) 0 m&&!(decide (0<i)&&decide (l.getD i 0<=l.getD (i - 1) 0))) _ _ (λ_=>rfl)];show _=mpure (mw (λn=>cg n 0 m) l);unfold mw;cases (List.range l.length).all λi=>cg (l.getD i 0) 0 m&&!(decide (0<i)&&decide (l.getD i 0<=l.getD (i - 1) 0))<;>simp
 ·rfl
 ·intro i D b;have D:i<l.length:=by grind
  have hw:=bc (n:=(i:Int)+1) (by omega) (by omega);have ft:=bc (n:=(i:Int) - 1) (by omega) (by omega);have aU:((i:Int) - 1).toNat=i - 1:=by omega
  have jF:l.getD i 0=l[i]:=by grind
  have uN:(decide ((i:Int) > 0))=decide (0<i):=by simp
  simp only[ch,cT D,if_true,aJ6,c_ D,cE D,bS,jF,aH,cy,hw,ft,aU,uN];have xz:0<i->(0:Int)<=(i:Int) - 1/\(i:Int) - 1<(l.length:Int):=by omega
  generalize l.getD (i - 1) 0=B;generalize l[i]=aN;by_cases iz:aN<0<;>by_cases vK:aN > m<;>by_cases aZ:0<i<;>by_cases bd:aN<=B<;>simp_all[cg,bq.ls,bb]<;>(grind)<;>(grind)
 simp
theorem SL{p q:Int->Bool}{l:z1'}(h:∀ y∈l,p y=q y):mw p l=mw q l:=by
 grind [mw]
theorem awn(n:Int)(k:Nat):cg n 0 ((k:Int) - 1)=(decide (0<=n)&&decide (n<(k:Int))):=by
 unfold cg;grind
abbrev SM:aF:=⟨.ar bp (.ar (.bV jo) (.bV oQ)),dm,λx=>∃ w p,x.2=(some w,some p)/\gi w/\su w p.2.2.2.1=true,λx=>Lb (x.2.1.getD ([],[],0,[])) (x.2.2.getD (0,0,0,0,[])).2.2.2.1 x.1⟩
theorem awo(x):aR (aaL cS.sh x) (SM.sh x):=bg λh=>by
 obtain⟨n,o⟩:=x;obtain⟨w,p,aw,hw,hm⟩:=h;subst aw;unfold aaL aL aB a6 cu;have r:=Sv.1 hm;have af:=KZ hw p.2.2.2.1;have gy:=bc (n:=((jq w p.2.2.2.1).length) - 1) (by omega) (by omega);unfold jq at gy;simp only[aF.sh,aju,ch,r,aKH,bS,gy,ed,uX];rfl
abbrev GU:aF:=⟨.ar oQ (.bV jo),dm,λx=>x.1.2.2.2.2.length<2 ^ 63/\∃ w,x.2=some w/\gi w,λx=>!u1 (x.2.getD ([],[],0,[])) x.1⟩
theorem awp(x):aR (aaI cS.sh tA.sh Lc.sh SM.sh x) (GU.sh x):=bg λh=>by
 obtain⟨p,o⟩:=x;obtain⟨aq,w,aw,hw⟩:=h;unfold aaI b3 aB cu;have af:=hw.2.1;have gy:=bc (n:=((w.2.1.length)) - 1) (by omega) (by omega);have ax:(decide (0<=p.2.2.2.1)&&decide (p.2.2.2.1<(w.2.1.length)))=su w p.2.2.2.1:=rfl;simp only[aF.sh,ed,lr,ax];grind [SL,fZ,bb,u1,bJ]
abbrev GV:aF:=⟨oR,dm,λx=>x.1.length<2 ^ 63,λx=>!tz x⟩
theorem awq(x):aR (aaM cS.sh tA.sh Lc.sh tA.sh x) (GV.sh x):=bg λh=>by
 unfold aaM cN b3 aB;have key:(mw (λy=>(eL (tA.pre y) (tA.g y)).val false) x.1)=mw lA x.1:=SL λy bh=>fZ;simp only[aF.sh,ed,lr,uA];grind [bb,tz,cg,bJ]
abbrev GW:aF:=⟨.ar nH (.bV jo),dm,λx=>∃ w,x.2=some w/\gi w,λx=>!qx (x.2.getD ([],[],0,[])) x.1⟩
theorem awr(x):aR (aaO cS.sh tA.sh x) (GW.sh x):=bg λh=>by
 obtain⟨w,aw,hw⟩:=h;unfold aaO b3 aB cu;have af:=hw.1;have gy:=bc (n:=((w.1.length)) - 1) (by omega) (by omega);simp  [aF.sh,uA];grind [qx,fP,cg]
abbrev GX:aF:=⟨bp,dm,λ_=>True,λn=>!cg n 0 10⟩
theorem aws(x):aR (aaP cS.sh x) (GX.sh x):=bg λ_=>by
 simp_all[aaP,aF.sh,cg]
theorem Le{ag:Type}{p q:ag->Bool}{l:List ag}(h:∀ x∈l,p x=!q x):l.any p=!l.all q:=by
 grind
abbrev SN:aF:=⟨hE,dm,eN,qy⟩
theorem awt(x):aR (aat tA.sh (kr bp).sh (kr oQ).sh (kr oR).sh (kr nH).sh GU.sh GW.sh GV.sh GX.sh x) (SN.sh x):=bg λh=>by
 obtain⟨E,M,ai,bf,b2,d_,hn⟩:=h;unfold aat hN b3 aB;simp only[aF.sh,bS,ed,lr,aKl];have aY:(x.2.1.any λy=>(eL (GX.pre y) (GX.g y)).val false)=!x.2.1.all λn=>cg n 0 10:=Le λy _=>fZ;have a_:(x.2.2.1.any λy=>(eL (GU.pre (y,some x.1)) (GU.g (y,some x.1))).val false)=!x.2.2.1.all (u1 x.1):=Le λy _=>fZ;have b7:(x.2.2.2.1.any λy=>(eL (GV.pre y) (GV.g y)).val false)=!x.2.2.2.1.all tz:=Le λy _=>fZ;have hg:(x.2.2.2.2.1.any λy=>(eL (GW.pre (y,some x.1)) (GW.g (y,some x.1))).val false)=!x.2.2.2.2.1.all (qx x.1):=Le λy _=>fZ;rw[bb,bb,bb,bb]
 ·congr 1;grind [qy]
 ·grind [bJ]
 ·grind [bJ]
 ·grind [bJ]
 grind [bJ]
abbrev oS:aF:=⟨hE,bp,eN,ke⟩
theorem awu(x):aR (aae gR.sh SN.sh x) (oS.sh x):=bg λh=>by
 unfold aae aG;simp  [aF.sh,bb h.1];grind [ke,bb]
abbrev Lf:aF:=⟨.ar hE oQ,dm,λx=>eN x.1/\x.2.2.2.2.2.length<2 ^ 63,λx=>u1 x.1.1 x.2⟩
theorem awv(x):aR (aau cS.sh Ld.sh x) (Lf.sh x):=bg λh=>by
 obtain⟨s,p⟩:=x;obtain⟨az,aq⟩:=h;change eN s at az;unfold aau b3 aL bN aB hy a6 bT cu eS;have af:=az.1.2.1;have gW:=KZ az.1 p.2.2.2.1;have gy:=bc (n:=((s.1.2.1.length)) - 1) (by omega) (by omega);have C8:=bc (n:=((jq s.1 p.2.2.2.1).length) - 1) (by omega) (by omega);unfold jq at C8;have ax:(decide (0<=p.2.2.2.1)&&decide (p.2.2.2.1<(s.1.2.1.length)))=su s.1 p.2.2.2.1:=rfl;simp  [aF.sh,fZ];unfold u1;have acN:mw (λn=>cg n 0 (((List.getD s.1.2.1 (Int.toNat p.2.2.2.1) []).length) - 1)) p.2.2.2.2=mw (Lb s.1 p.2.2.2.1) p.2.2.2.2:=SL λy _=>awn y _;grind [bb,lA,cg]
abbrev SO:aF:=⟨oR,dm,λx=>x.1.length<2 ^ 63,tz⟩
theorem aww(x):aR (aav cS.sh Ld.sh x) (SO.sh x):=bg λh=>by
 unfold aav hN b3 aB;simp  [aF.sh,aKl];rw[bb (by omega)];congr 1;grind [tz,mw,cg,lA]
theorem awx(x):aR (aaf gR.sh cS.sh Lf.sh SO.sh x) (oS.sh x):=bg λh=>by
 have az:=h;obtain⟨E,M,ai,bf,b2,d_,hn⟩:=h;unfold aaf cN eM dn b3 aL bN aQ aB bj b_ a7 ay bT cu kJ;simp only[aF.sh,ed,bb E];unfold ke;by_cases hc:cA x.1=0
 ·simp only[hc,lr,ed,aKl,bS,ch,uA,decide_not];have e:(!decide ((x.2.1.length)=(x.1.1.length:Int))||decide ((x.2.2.1.length:Int) > 8)||decide ((x.2.2.2.1.length:Int) > 6)||decide ((x.2.2.2.2.1.length:Int) > 8)||!(decide (0<=x.2.2.2.2.2)&&decide (x.2.2.2.2.2<=99)))=!(decide ((x.2.1.length)=(x.1.1.length:Int))&&decide ((x.2.2.1.length:Int)<=8)&&decide ((x.2.2.2.1.length:Int)<=6)&&decide ((x.2.2.2.2.1.length:Int)<=8)&&lA x.2.2.2.2.2):=by
   grind [lA,cg]
  rw[e];by_cases dt:(decide ((x.2.1.length)=(x.1.1.length:Int))&&decide ((x.2.2.1.length:Int)<=8)&&decide ((x.2.2.2.1.length:Int)<=6)&&decide ((x.2.2.2.2.1.length:Int)<=8)&&lA x.2.2.2.2.2)=true
  ··rw[db x.2.1 (λi (_)=>((i:Int),x,())) (λn b=>if (!cg n 0 10)=true then .done (.done (80)) else .next b) (λ_=>.next (x,())) () ?_ ?_ ?_]
    ·rw[j9   _ _ (λ_=>rfl)];cases iz:x.2.1.all λn=>cg n 0 10 with
     | false=>simp[qy,iz]
     | true=>
      simp only[aH,if_true,cp];rw[db x.2.2.1 (λi (_)=>((i:Int),x,())) (λp b=>if (!u1 x.1 p)=true then .done (.done (80)) else .next b) (λ_=>.next (x,())) () ?_ ?_ ?_]
      ·rw[j9   _ _ (λ_=>rfl)];cases bd:x.2.2.1.all (u1 x.1) with
       | false=>simp[qy,bd]
       | true=>
        simp only[aH,if_true,cp];rw[db x.2.2.2.1 (λi (_)=>((i:Int),x,())) (λp b=>if (!tz p)=true then .done (.done (80)) else .next b) (λ_=>.next (x,())) () ?_ ?_ ?_]
        ·rw[j9   _ _ (λ_=>rfl)];cases jj:x.2.2.2.1.all tz with
         | false=>simp[qy,jj]
         | true=>
          simp only[aH,if_true,cp];rw[db x.2.2.2.2.1 (λi (_)=>((i:Int),x,())) (λp b=>if (!qx x.1 p)=true then .done (.done (80)) else .next b) (λ_=>.next ()) () ?_ ?_ ?_]
          ·rw[j9   _ _ (λ_=>rfl)];cases Sw:x.2.2.2.2.1.all (qx x.1)<;>simp[qy,iz,bd,jj,Sw,dt]
          ·rfl
          ·intro i D b;have hw:=bc (n:=i+1) (by omega) (by omega);have af:=E.1;have gy:=bc (n:=((x.1.1.length)) - 1) (by omega) (by omega);simp only[cT D,c_ D,cE D,bS,cy,hw,gy,uX];have e:(!(decide (0<=(x.2.2.2.2.1[i]).1)&&decide ((x.2.2.2.2.1[i]).1<=99))||!(decide (0<=(x.2.2.2.2.1[i]).2.1)&&decide ((x.2.2.2.2.1[i]).2.1<(x.1.1.length)))||!(decide (1<=(x.2.2.2.2.1[i]).2.2)&&decide ((x.2.2.2.2.1[i]).2.2<=10)))=!qx x.1 x.2.2.2.2.1[i]:=by
            simp_all[qx,lA,fP,cg]
           rw[e];exact lu (mk:=λ_=>((i:Int)+1,x,()))
          simp
        ·rfl
        ·intro i D b;have hw:=bc (n:=i+1) (by omega) (by omega);simp only[cT D,c_ D,cE D,bS,cy,hw,bb (hn _ (ajj D))];exact lu (mk:=λ_=>((i:Int)+1,x,()))
        simp
      ·rfl
      ·intro i D b;have hw:=bc (n:=i+1) (by omega) (by omega);simp only[cT D,c_ D,cE D,bS,cy,hw,lY,fZ,bb (show Lf.pre (x,x.2.2.1[i]) from⟨az,d_ _ (ajj D)⟩)];exact lu (mk:=λ_=>((i:Int)+1,x,()))
      simp
    ·rfl
    ·intro i D b;have hw:=bc (n:=i+1) (by omega) (by omega);simp only[cT D,c_ D,cE D,bS,aH,cy,hw];exact lu (mk:=λ_=>((i:Int)+1,x,()))
    simp
  ·grind [qy]
 grind
theorem awy:K_ 201=true:=by decide +kernel
abbrev u2:aF:=⟨.ar (.int .u64) (.int .u64),.ar (.int .u64) (.int .u64),λx=>x.1=1/\0<=x.2/\x.2<=200,λx=>(0,x.2)⟩
theorem awz(x):aR (ZE x) (u2.sh x):=bg λh=>by
 obtain⟨a,b⟩:=x;obtain⟨E,M,ai⟩:=h;change a=1 at E;change 0<=b at M;change b<=200 at ai;subst E;have aZ:=ae0 201 b.toNat awy (by omega);rw[aLI M]at aZ;have hw:=SH (n:=1*b) (by omega) (by omega);have awA:((0:Int)<=32)=True:=by simp
 unfold ZE;simp only[awA,bS];show mpure (SI (1,b),IntKind.wrap .u64 (1*b))=_;grind
theorem awB(awC)(x):aR (ZC awC u2.sh x) (u2.sh x):=bg λh=>by
 unfold ZC;simp only[aF.sh,ed];simp_all
section
variable {ag bet:Type}
theorem awD(a d:ag)(m J:Nat)(E:1<=m)(M:m<J) :
  List.take m (List.replicate m a++List.replicate (J - m) d)++List.take (J - m) (List.take m (List.replicate m a++List.replicate (J - m) d))++
   List.drop (m+(List.take (J - m) (List.take m (List.replicate m a++List.replicate (J - m) d))).length) (List.replicate m a++List.replicate (J - m) d)
  =List.replicate (m+min (J - m) m) a++List.replicate (J - (m+min (J - m) m)) d:=by
 have ax:List.take m (List.replicate m a++List.replicate (J - m) d)=List.replicate m a:=by
  simp
 rw[ax,List.take_replicate,List.replicate_append_replicate,aKL,List.drop_append,aKL];have aU:List.drop (m+min (J - m) m) (List.replicate m a)=[]:=by simp
 grind
def ae7(d:ag)(fin:List ag->G bet)(Cp:Int×Int->G (Int×Int))(x:List ag)(n:Int):G bet:=
 ao (if decide (n<0)=true then ad False (ad False (mpure (bq.next (x,n,())))) else mpure (bq.next (x,n,())))
 (bq.hx λ(A:List ag×Int×Unit)=>ao (Cp (IntKind.wrap .u64 (Int.ofNat (List.length A.1)),IntKind.wrap .u64 A.2.1)) λy
 =>ao (if (decide (y.1 > 0)||decide (y.2 > 9223372036854775807))=true then ad False (ad False (mpure (bq.next (A.1,y.2,())))) else
 mpure (bq.next (A.1,y.2,()))) (bq.hx λ(A:List ag×Int×Unit)=>ad (0<=IntKind.wrap .i64 A.2.1/\IntKind.wrap .i64 A.2.1=
 IntKind.wrap .i64 A.2.1/\bW (Int.toNat (IntKind.wrap .i64 A.2.1))) (ad True (ao (dG (λ(A:Int×List ag×Unit)=>if decide (A.1
 < Int.ofNat (List.length A.2.1))=true then ad (0<=A.1/\A.1<=Int.ofNat (List.length A.2.1)/\Int.ofNat (List.length A.2.1)<=Int.ofNat
 (List.length A.2.1)) (ad ((0:Int)<=0/\0<=A.1/\A.1<=Int.ofNat (List.length A.2.1)) (ad True (mpure (bq.next (IntKind.wrap .i64
 (Add.add A.1 (Int.ofNat (if Int.toNat (Int.ofNat (List.length A.2.1)) - Int.toNat A.1<=List.length (List.take (Int.toNat A.1) A.2.1) then Int.toNat
 (Int.ofNat (List.length A.2.1)) - Int.toNat A.1 else List.length (List.take (Int.toNat A.1) A.2.1)))),List.take (Int.toNat A.1) A.2.1++List.take
 (Int.toNat (Int.ofNat (List.length A.2.1)) - Int.toNat A.1) (List.take (Int.toNat A.1) A.2.1)++List.drop (Add.add (Int.toNat A.1) (List.length
 (List.take (Int.toNat (Int.ofNat (List.length A.2.1)) - Int.toNat A.1) (List.take (Int.toNat A.1) A.2.1)))) A.2.1,()))))) else ao (mpure
 (bq.next (A.2.1,()))) λr=>mpure (bq.done r)) (Int.ofNat (if List.length (List.replicate (Int.toNat (IntKind.wrap .i64 A.2.1)) d) - 0<=
 List.length A.1 then List.length (List.replicate (Int.toNat (IntKind.wrap .i64 A.2.1)) d) - 0 else List.length A.1),[]++List.take (List.length
 (List.replicate (Int.toNat (IntKind.wrap .i64 A.2.1)) d) - 0) A.1++List.drop (Add.add 0 (List.length (List.take (List.length (List.replicate
 (Int.toNat (IntKind.wrap .i64 A.2.1)) d) - 0) A.1))) (List.replicate (Int.toNat (IntKind.wrap .i64 A.2.1)) d),())) (bq.hx λ(A:List ag×
 Unit)=>fin A.1)))))
theorem SP(d a:ag)(Pd:List ag->bet)(n:Int)(M:0<=n)(ai:n<=200):dj (ae7 d (λl=>mpure (Pd l)) u2.sh [a] n) λy=>y=Pd (List.replicate n.toNat a):=by
 obtain⟨J,rfl⟩:=Int.eq_ofNat_of_zero_le M;have Ar:decide ((J:Int)<0)=false:=by simp
 have nt:IntKind.u64.wrap (Int.ofNat ([a]:List ag).length)=1:=SH (by simp) (by simp);have awE:=SH (n:=(J:Int)) (by omega) (by omega);have iG:=bc (n:=(J:Int)) (by omega) (by omega);have aq:u2.pre (1,(J:Int)):=⟨rfl,M,ai⟩
 have awF:decide ((J:Int) > 9223372036854775807)=false:=by grind
 have ix:bW J:=by unfold bW;omega
 have U:0<=(J:Int)/\True/\bW (Int.toNat (J:Int)):=⟨M,trivial,by grind⟩
 unfold ae7;simp only[Ar,ajh,ajq,aH,cp,nt,awE,aF.sh,ed];rw[bb (by grind)];simp only[gt_iff_lt,Int.lt_irrefl,aKe,aKZ,ajh,ajq,aH,cp,iG];have awG:decide ((9223372036854775807:Int)<(J:Int))=false:=awF;simp only[awG,ajh,ajq,aH,cp,iG];rw[bb U];simp only[bS,hp,ajr,aKL,Nat.sub_zero,aKw,aLu,ch,mY,Nat.zero_add];refine D0 (λs=>∃ m:Nat,(1<=m\/J=0)/\m<=J/\s=((m:Int),List.replicate m a++List.replicate (J - m) d,())) (λs=>J - s.1.toNat) ?_ _ ?_
 ·rintro s ⟨m,hm,aJy,rfl⟩;have hlen:(List.replicate m a++List.replicate (J - m) d).length=J:=by grind
  simp only[hlen];by_cases cF:m<J
  ·have gY:0<=(m:Int)/\(m:Int)<=(J:Int)/\(J:Int)<=(J:Int):=by omega
   have dd:(0:Int)<=0/\0<=(m:Int)/\(m:Int)<=(J:Int):=by omega
   have lW:1<=m:=by omega
   have awH:(List.take m (List.replicate m a++List.replicate (J - m) d)).length=m:=by simp
   simp only[cT cF,if_true,bb gY,bb dd,bS,ajr,awH,cy];rw[eY,awD a d m J lW cF];have aG:(if J - m<=m then J - m else m)=min (J - m) m:=by rfl
   rw[aG];have ft:=bc (n:=(m:Int)+((min (J - m) m:Nat):Int)) (by omega) (by omega);refine⟨⟨m+min (J - m) m,.inl (by omega),by omega,?_⟩,?_⟩
   ·rw[ft];simp
   ·simp only[ft];omega
  ·have:m=J:=by omega
   subst this;simp only[Int.lt_irrefl,aKe,ajh,ajq,aH,eY,cp,Nat.sub_self,List.replicate_zero,aKg]
 ·by_cases Lg:J=0
  ·grind
  ·refine⟨1,.inl (ajn _),by omega,?_⟩;grind
end
abbrev Lh:aF:=⟨.ar dV bp,dV,λx=>x.1=[-1]/\0<=x.2/\x.2<=200,λx=>List.replicate x.2.toNat (-1)⟩
theorem awI(x):aR (aq3 u2.sh x) (Lh.sh x):=uB λh=>by
 obtain⟨l,n⟩:=x;obtain⟨E,M,ai⟩:=h;change l=[-1]at E;subst E;exact SP (0:Int) (-1) (λl=>l) n M ai
def yi(x:z1'×Int×Unit):G (z1'×Unit):=eL (x.1=[-1]/\0<=x.2.1/\x.2.1<=200) (List.replicate x.2.1.toNat (-1),())
theorem ae8(x):aR (aq9 u2.sh x) (yi x):=uB λh=>by
 obtain⟨l,n,u⟩:=x;obtain⟨E,M,ai⟩:=h;change l=[-1]at E;subst E;exact SP (0:Int) (-1) (λl=>(l,())) n M ai
abbrev Li:aa:=.ae (.ar bp bp)
abbrev Lj:aF:=⟨.ar (.slice Li) bp,.slice Li,λx=>x.1.length=1/\0<=x.2/\x.2<=200,λx=>List.replicate x.2.toNat (x.1.getD 0 (0,0))⟩
theorem awJ(x):aR (aq7 u2.sh x) (Lj.sh x):=uB λh=>by
 obtain⟨l,n⟩:=x;obtain⟨E,M,ai⟩:=h;change l.length=1 at E;obtain⟨a,rfl⟩:=List.length_eq_one_iff.1 E;exact SP ((0,0):Int×Int) a (λl=>l) n M ai
end Go.Fer
