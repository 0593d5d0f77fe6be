/- Part 8 of the proof of TopFees: shallow programs of Go functions, and what they compute. No condition. -/
import Derived.Test.YtjjgkigajpocoaaGreatDoorTopFeesG
import Derived.Handed
import Derived.Shelf.Vars
import Derived.Lib.LaidTab
import Derived.Lib.ItoaNum
noncomputable section
set_option linter.unusedVariables false
set_option linter.unusedSimpArgs false
namespace Go.Fer
def wU(f:List UInt8)(l:z4')(i:Nat):Bool:=
 !(kA f (l.getD i (0,0)).1).2||decide ((l.getD i (0,0)).2<32)||decide ((l.getD i (0,0)).2 > 126)||decide (((f.getD (l.getD i (0,0)).1.toNat 0).toNat:Int)=(l.getD i (0,0)).2)||(l.take i).any λt=>decide (t.1=(l.getD i (0,0)).1)
def qW(n:List UInt8)(s:z11'):List UInt8:=n.set s.1.toNat (UInt8.ofNat s.2.toNat)
def mz(f:List UInt8)(l:z4'):List UInt8×z1'×Bool:=
 if (List.range l.length).any (wU f l)=true then ([],[],false) else (l.foldl qW f,l.map λs=>(kA f s.1).1,true)
theorem akB{af bet rho:Type}{p:af->Bool}{h:bet->af->bet}{r:rho}{fin:bet->rho}:∀ (l:List af) (b:bet),fa (λv b=>if p v=true then (.aX r:aL bet rho) else .az (h b v)) fin l b=if l.any p=true then r else fin (l.foldl h b)
 | [],b=>by rfl
 | v::l,b=>by
  simp only[fa,aRr];by_cases ak:p v=true
  ·grind
  ·simp only[ak,aRj];exact akB l _
variable {af:Type}
theorem akC{l:List af}{d:af}{n:Nat}(h:n<=l.length):(List.range n).map (λk=>l.getD k d)=l.take n:=by
 refine aRV (by grind) λk E M=>?_;grind
theorem aGq{l:List af}{d:af}{n:Nat}(q:af->Bool)(h:n<=l.length):((List.range n).any λk=>q (l.getD k d))=(l.take n).any q:=by
 rw[<-akC h,List.any_map];rfl
theorem aGr{bet:Type}{l:List af}{d:af}(h:bet->af->bet)(b:bet):(List.range l.length).foldl (λb k=>h b (l.getD k d)) b=l.foldl h b:=by
 have e:=akC (l:=l) (d:=d) (amY _);grind [List.foldl_map]
abbrev Ps:aQ:=⟨.aw .str (.slice (.ae (.aw (.int .i64) (.int .i64)))),.aw .str (.aw (.slice (.int .i64)) .bool),λx=>List.length x.1<65536/\List.length x.2<65536,λx=>mz x.1 x.2⟩
theorem aGs(x):a_ (ajA O3.sh x) (Ps.sh x):=bu λh=>by
 change List UInt8×z4' at x;obtain⟨f,l⟩:=x;obtain⟨E,M⟩:f.length<65536/\l.length<65536:=h;unfold ajA cu dr fZ cy bJ bh bS;show _=mpure (mz f l);dsimp only;rw[eW (List.range l.length) (λi (s:List UInt8×z1')=>(f,l,s.1,(i:Int),s.2,())) (λi s=>if wU f l i=true then .aX (.aX ([],[],false)) else .az (qW s.1 (l.getD i (0,0)),s.2++[(kA f (l.getD i (0,0)).1).1])) (λs=>.az (s.1,s.2,())) (λi s=>s.1.length=f.length/\s.2.length=i) (f,[]) ?_ ?_ ?_ ?_]
 ·rw[akB (h:=λ(s:List UInt8×z1') i=>(qW s.1 (l.getD i (0,0)),s.2++[(kA f (l.getD i (0,0)).1).1]))];unfold mz;by_cases U:(List.range l.length).any (wU f l)=true
  ·rw[if_pos U,if_pos U,aP,uU]
  ·rw[if_neg U,if_neg U,aP,db];have e:(List.range l.length).foldl (λ(s:List UInt8×z1') i=>(qW s.1 (l.getD i (0,0)),s.2++[(kA f (l.getD i (0,0)).1).1])) (f,[])=(l.foldl qW f,l.map λs=>(kA f s.1).1):=by
    rw[aGr (h:=λ(s:List UInt8×z1') v=>(qW s.1 v,s.2++[(kA f v.1).1]))];have:∀ (l:z4') (n:List UInt8) (o:z1'),l.foldl (λ(s:List UInt8×z1') v=>(qW s.1 v,s.2++[(kA f v.1).1])) (n,o)=(l.foldl qW n,o++l.map λs=>(kA f s.1).1):=by
     intro l;induction l with
     | nil=>intro n o;simp
     | cons v l aR=>intro n o;rw[aQQ,aR];simp
    rw[this,aRa]
   rw[e]
 ·rfl
 ·exact⟨rfl,rfl⟩
 ·intro i G s ax;obtain⟨now,Xw⟩:=s;obtain⟨s1,s2⟩:now.length=f.length/\Xw.length=i:=ax;have G:i<l.length:=by simpa using G
  have G9:(List.range l.length)[i]'(by simpa using G)=i:=aQw ..;rw[G9];have hw:=bA (n:=(i:Int)+1);have CM:((i:Int)).toNat=i:=rfl;have JJ:=bO (show f.length<65536 from E) (kA f (l.getD i (0,0)).1);have s8:wU f l i=(!(kA f (l.getD i (0,0)).1).2||decide ((l.getD i (0,0)).2<32)||decide ((l.getD i (0,0)).2 > 126)||decide (((f.getD (l.getD i (0,0)).1.toNat 0).toNat:Int)=(l.getD i (0,0)).2)||(l.take i).any λt=>decide (t.1=(l.getD i (0,0)).1)):=rfl;have km:(kA f (l.getD i (0,0)).1).2=true->0<=(l.getD i (0,0)).1/\(l.getD i (0,0)).1<(f.length:Int):=λe=>by
   unfold kA at e;by_cases hc:(l.getD i (0,0)).1<0\/(f.length:Int)<=(l.getD i (0,0)).1\/f.getD (l.getD i (0,0)).1.toNat 0=10
   ·rw[if_pos hc]at e;cases e
   ·refine⟨?_,?_⟩
    ·rcases Int.lt_or_le (l.getD i (0,0)).1 0 with k | k
     ·exact absurd (.inl k) hc
     ·exact k
    ·rcases Int.lt_or_le (l.getD i (0,0)).1 (f.length:Int) with k | k
     ·exact k
     ·exact absurd (.inr (.inl k)) hc
  have Fy:=aGq (l:=l) (d:=(0,0)) (n:=i) (λt=>decide (t.1=(l.getD i (0,0)).1)) (Nat.le_of_lt G);have aQl:l.getD i (0,0)=l[i]:=by rw[am1,am3 G];rfl
  refine⟨?_,λs' vy=>?_⟩
  ·simp only[cD,dQ G,if_true,CM,Prod.cv,Prod.fI];rw[show (0<=(i:Int)/\(i:Int)<(l.length:Int))=True from dH G];generalize ak:l.getD i (0,0)=s at JJ s8 km Fy;obtain⟨p,v⟩:=s;dsimp only at JJ s8 km Fy ⊢;rw[show O3.sh (f,p)=mpure (kA f p) from JJ];generalize pK:kA f p=N at s8 km;obtain⟨n,g⟩:=N;dsimp only at s8 km ⊢;simp only[aP,ck];cases g with
   | false=>
    simp_all
   | true=>
    obtain⟨fU,fW⟩:=km rfl;have ku:(0<=p/\p<(f.length:Int))=True:=by simp only[fU,fW,aRx]
    simp only[aRc,aRh,aRj,ku,aQA,aRx,aR1,aSi,imp_self,aQZ,ck];have aGt:(f.getD p.toNat 0).1.1.1=(f.getD p.toNat 0).toNat:=rfl;have aQm:=(f.getD p.toNat 0).toNat_lt;have yX:=bA (n:=((f.getD p.toNat 0).toNat:Int));rw[aGt,yX];cases hc:(decide (v<32)||decide (v > 126)||decide (((f.getD p.toNat 0).toNat:Int)=v)) with
    | true=>
     simp_all
    | false=>
     have aGu:wU f l i=(l.take i).any λt=>decide (t.1=p):=by
      rw[s8];have:(!true||decide (v<32)||decide (v > 126)||decide (((f.getD p.toNat 0).toNat:Int)=v))=false:=hc;rw[this,aRj]
     rw[aGu,if_neg (by decide)];have ag:32<=v/\v<=126:=by
      simp only[aQ5,aQE]at hc;omega
     rw[e2 (List.range i) (λk (_:Unit)=>(f,l,now,(i:Int),n,(k:Int),Xw,())) (λk u=>if decide ((l.getD k (0,0)).1=p)=true then .aX (.aX (.aX (.aX (.aX ([],[],false))))) else .az u) (λ_=>.az (f,l,now,(i:Int),n,Xw,())) () ?_ ?_ ?_]
     ·rw[uV,Fy];cases (l.take i).any λt=>decide (t.1=p) with
      | true=>
       simp
      | false=>
       rw[if_neg (by decide),aP,db];simp only[CM,cD,Prod.cv,ak];have iS:(p+1).toNat=p.toNat+1:=by omega
       have WY:=bA (n:=p+1);have UO:p.toNat<now.length:=by omega
       have aGv:((now.length:Int)).toNat=now.length:=rfl;have aGw:ff [IntKind.wrap .u8 v]=[UInt8.ofNat v.toNat]:=by rw[Cz (by omega) (by omega)];rfl
       have mj:=aFO UO (UInt8.ofNat v.toNat);simp only[dn,WY,iS,aGv,aQ4,aGw,mj];have bh:(0<=(i:Int)/\i<(l.length:Int)):=⟨by omega,by omega⟩
       rw[bd bh,bd ⟨aQB _,fU,by omega⟩,bd bh,bd (by grind [b2]),bd bh,bd ⟨by omega,by omega,aQB _⟩,bd (by grind [b2]),bd (by grind [b2]),aP,db];rw[hw];rfl
     ·rfl
     ·intro k aj u;have aj:k<i:=by grind
      have Ey:(List.range i)[k]'(by omega)=k:=aQw ..;rw[Ey];have nl:=bA (n:=k+1);have JK:((k:Int)).toNat=k:=rfl;have ay:decide (k<(i:Int))=true:=aQN (by omega);simp only[ay,JK,CM,dn,nl,ak];rw[bd ⟨by omega,by omega⟩,bd ⟨by omega,by omega⟩];cases decide ((l.getD k (0,0)).1=p)<;>rfl
     simp
  ·grind [qW]
 simp
theorem aGx(x:Int)(l:z1'):jg (x::l)=x - 32+jg l:=rfl
theorem akD:∀ (a b:z1'),jg (a++b)=jg a+jg b
 | [],b=>by grind [jg]
 | x::a,b=>by
  have:=akD a b;grind [aGx]
def n5(f:Nat->Int):Nat->Int
 | 0=>0
 | n+1=>n5 f n+f n
theorem akE{f g:Nat->Int}:∀ (n:Nat),(∀ c,c<n->f c=g c)->n5 f n=n5 g n
 | 0,_=>rfl
 | n+1,h=>by
  show n5 f n+f n=n5 g n+g n;rw[akE n λc hc=>h c (by omega),h n (by omega)]
theorem akF(f g:Nat->Int):∀ n,n5 (λc=>f c+g c) n=n5 f n+n5 g n
 | 0=>rfl
 | n+1=>by
  have:=akF f g n;grind [n5]
theorem akG(f:Nat->Int):∀ n,n5 (λc=>f c % 95) n % 95=n5 f n % 95
 | 0=>rfl
 | n+1=>by
  have:=akG f n;grind [n5]
theorem Xx(r:z1'):∀ n,n<=r.length->jg (r.take n)=n5 (λc=>r.getD c 0 - 32) n
 | 0,_=>rfl
 | n+1,h=>by
  have aR:=Xx r n (by omega);have aA:n<r.length:=by omega
  have aB:r.getD n 0=r[n]:=by grind
  rw[aRu,am3 aA,akD,aR];show n5 (λc=>r.getD c 0 - 32) n+(r[n] - 32+0)=n5 (λc=>r.getD c 0 - 32) n+(r.getD n 0 - 32)
  omega
theorem akH(n:Nat):∀ (R:List (z1')),(∀ r∈R,n<=r.length)->n5 (λc=>jg (gn R (c:Int))) n=(R.map λr=>jg (r.take n)).sum
 | [],_=>by
  have:∀ n,n5 (λc=>jg (gn [] c)) n=0:=by
   intro n;induction n with
   | zero=>rfl
   | succ n aR=>show n5 _ n+jg []=0;rw[aR];rfl
  grind
 | r::R,h=>by
  have aR:=akH n R λr D=>h r (am2 _ D);have e:∀ c:Nat,jg (gn (r::R) c)=(r.getD c 0 - 32)+jg (gn R c):=λc=>rfl;simp_all[akF,Xx]
theorem akI:∀ (l:z1'),(l.map λx=>x % 95).sum % 95=l.sum % 95
 | []=>rfl
 | x::l=>by
  have:=akI l;grind
theorem aGy{R:List (z1')}(w:Nat){pad:List (z1')}(fp:R=pad.map λp=>p++[l4 p])(ak:∀ p∈pad,p.length=w/\p.all fb=true):jg (gn R (w:Int)) % 95=((pad.map jg).sum) % 95:=by
 subst fp;have e:gn (pad.map λp=>p++[l4 p]) w=pad.map l4:=by
  unfold gn;simp_all
 rw[e];have bB:jg (pad.map l4)=((pad.map jg).map λx=>x % 95).sum:=by
  unfold jg;rw[aRZ,aRZ];grind [List.map_congr_left,CL,jg]
 rw[bB,akI]
variable {x:z2'}
theorem aGz(h:∀ t∈x,gP t):kc (jz x)=[]:=by
 have aQn:=Jv h;have Xy:=Xk h;refine List.eq_nil_iff_forall_not_mem.2 λv ag=>?_;obtain⟨i,G,rfl,U⟩:=Fs.1 ag;have hv:(jz x).length=x.length+1:=by unfold jz;simp
 rw[hv]at G;by_cases e:i<x.length
 ·have ka:(jz x).getD i []=p5 (fB x) x[i]:=by
   unfold jz;rw[am1,aQO (by simpa using e),aRI,am3 e];rfl
  have ai:=ON (w:=fB x) (Xy _ (amV e));rw[ka]at U;unfold j4 p5 at U;rw[aQ6]at U;refine U ?_;have aF:(p4 (fB x) x[i]++[l4 (p4 (fB x) x[i])]).length - 1=(p4 (fB x) x[i]).length:=by simp
  rw[aF,List.take_left,am1,am8 (amY _),Nat.sub_self];rfl
 ·have G9:i=x.length:=by omega
  subst G9;generalize fp:x.map (p5 (fB x))=R;have ka:(jz x).getD x.length []=sE R (fB x+2):=by
   unfold jz;rw[am1,am8 (by simp),fp];have:x.length - R.length=0:=by rw[<-fp];simp
   rw[this];rfl
  have OR:∀ r∈R,r.all fb=true/\r.length=fB x+2:=λr D=>by
   rw[<-fp]at D;obtain⟨t,aH,rfl⟩:=List.mem_map.1 D;exact⟨OP (h t aH),OO (Xy t aH)⟩
  have aGA:R=(x.map (p4 (fB x))).map λp=>p++[l4 p]:=by rw[<-fp,aRZ];rfl
  have Hd:∀ p∈x.map (p4 (fB x)),p.length=fB x+1/\p.all fb=true:=λp ak=>by
   obtain⟨t,aH,rfl⟩:=List.mem_map.1 ak;exact⟨ON (Xy t aH),OM (h t aH)⟩
  have aGB:∀ c:Nat,c<fB x+2->(gn R (c:Int)).all fb=true:=λc hc=>Js λr D=>⟨(OR r D).1,by have:=(OR r D).2;omega⟩
  rw[ka]at U;unfold j4 at U;rw[aQ6]at U;refine U ?_;have fH:(sE R (fB x+2)).length=fB x+2:=by unfold sE;simp
  have aGC:∀ c,c<fB x+2->(sE R (fB x+2)).getD c 0=l4 (gn R (c:Int)):=λc hc=>by
   unfold sE;rw[am1,aRI,List.getElem?_range hc];rfl
  have Vv:(sE R (fB x+2)).all fb=true:=List.all_eq_true.2 λv ag=>by
   unfold sE at ag;grind [WK]
  have aF:fB x+2 - 1=fB x+1:=by omega
  rw[fH,aF,aGC _ (by omega),CL (aGB _ (by omega)),CL (ajG Vv _),aGy (fB x+1) aGA Hd];have t1:jg ((sE R (fB x+2)).take (fB x+1))=n5 (λc=>jg (gn R c) % 95) (fB x+1):=by
   grind [Xx,akE,CL]
  have bX:=akG (λc=>jg (gn R c)) (fB x+1);have cU:=akH (fB x+1) R λr D=>by grind
  have hd:(R.map λr=>jg (r.take (fB x+1)))=(x.map (p4 (fB x))).map jg:=by
   simp_all
  grind
theorem aGD(h:∀ t∈x,gP t):k_ (fB x+2) (jz x)=[]:=by
 refine List.eq_nil_iff_forall_not_mem.2 λv ag=>?_;obtain⟨c,hc,rfl,U⟩:=Ft.1 ag;grind [jz,k9,sE]
theorem aGE(h:∀ t∈x,gP t)(E:1<=x.length)(ld:x.length<=8):kd (hZ x)=(0,0,0):=by
 have ax:=akb h E ld;unfold kd;rw[ax.wide];grind [WT,la,aGz,aGD]
section
variable {l:z2'}
theorem akJ(h:∀ t∈l,gP t):∀ b∈(gK l).map hZ,kd b=(0,0,0):=λb U=>by
 grind [Jz,aGE]
theorem aGF(h:∀ t∈l,gP t):∀ b∈(gK l).map hZ,jh b=b:=λb U=>aFS (JI h b U) (by grind [akJ])
theorem aGG:(gK l).length=(l.length+7) / 8:=by
 have h:∀ k,k<(gK l).length<->8*k<l.length:=λk=>WV;have E:=h ((l.length+7) / 8);rcases aRs (gK l).length ((l.length+7) / 8) with k | k
 ·have:=(h (gK l).length).2 (by omega);omega
 omega
theorem Xz(h:∀ t∈l,gP t)(qU:l.length<=40):(k7 l).length<=3000:=by
 rw[JH];have:∀ B:List (z2'),(∀ b∈B,(eI b).length<=600)->(B.flatMap eI).length<=600*B.length:=by
  intro B;induction B<;>grind
 have:=this ((gK l).map hZ) λb U=>O1 (JI h b U);grind [aGG]
end
end Go.Fer
namespace Go.Fer
abbrev fj:Type:=z2'
def cq(l:fj)(r c:Nat)(b:UInt8):fj:=l.set r ((l.getD r []).set c b)
def wV(B:List fj)(k r c:Nat)(b:UInt8):List fj:=B.set k (cq (B.getD k []) r c b)
def CO(B:List fj)(k r c:Nat):UInt8:=((B.getD k []).getD r []).getD c 0
structure qX(B:List fj)(k r c:Nat):Prop where
 aj:k<B.length
 D:r<(B.getD k []).length
 hc:c<((B.getD k []).getD r []).length
def rP(B:List fj)(k r c:Nat):List UInt8:=(B.take k).flatMap eI++(kz ((B.getD k []).take r)++((B.getD k []).getD r []).take c)
def Pt(B:List fj)(k r c:Nat):List UInt8:=((B.getD k []).getD r []).drop (c+1)++10::(kz ((B.getD k []).drop (r+1))++10::(B.drop (k+1)).flatMap eI)
variable {af:Type}{k:Nat}
theorem aGH{l:List af}{d:af}(h:k<l.length):l=l.take k++l.getD k d::l.drop (k+1):=by
 simp_all
theorem aGI(a b:fj):kz (a++b)=kz a++kz b:=by grind [kz]
theorem Pu(r:List UInt8)(l:fj):kz (r::l)=r++10::kz l:=by grind [kz]
variable {r:Nat}{c:Nat}
theorem JL{B:List fj}(h:qX B k r c):B.flatMap eI=rP B k r c++CO B k r c::Pt B k r c:=by
 obtain⟨aj,D,hc⟩:=h;grind [aGH,rP,Pt,CO,eI,aGI,Pu]
theorem aGJ{l:List af}{x d:af}(h:k<l.length):(l.set k x).getD k d=x:=by
 grind
theorem getD_set_ne{l:List af}{j:Nat}{x d:af}(h:k≠j):(l.set k x).getD j d=l.getD j d:=by
 grind
theorem aGK{B:List fj}(h:qX B k r c)(b:UInt8):qX (wV B k r c b) k r c:=by
 obtain⟨aj,D,hc⟩:=h;unfold wV cq;refine⟨by grind,?_,?_⟩<;>simp_all
theorem aGL{B:List fj}(h:qX B k r c)(b:UInt8):(wV B k r c b).flatMap eI=rP B k r c++b::Pt B k r c:=by
 rw[JL (aGK h b)];obtain⟨aj,D,hc⟩:=h;grind [rP,wV,cq,List.take_set_of_le,Pt,List.drop_set_of_lt,CO]
theorem aGM{B:List fj}(h:qX B k r c)(b:UInt8):(B.flatMap eI).set (rP B k r c).length b=(wV B k r c b).flatMap eI:=by
 grind [aGL,JL]
theorem aGN{B:List fj}(h:qX B k r c):(B.flatMap eI).getD (rP B k r c).length 0=CO B k r c:=by
 grind [JL]
theorem akK{b:UInt8}(U:b≠10):∀ (l:fj) (q:Nat),(kz l)[q]?=some b->∃ r c,r<l.length/\c<(l.getD r []).length/\q=(kz (l.take r)++(l.getD r []).take c).length
 | [],q,h=>by simp[kz]at h
 | w::l,q,h=>by
  rw[Pu]at h;rcases aRs q w.length with bC | bC
  ·exact⟨0,q,by simp,bC,by grind [kz]⟩
  ·rw[am8 bC]at h;cases ay:q - w.length with
   | zero=>
    grind
   | succ n=>
    rw[ay]at h;obtain⟨r,c,E,M,al⟩:=akK U l n h;refine⟨r+1,c,by grind,M,?_⟩;grind [Pu]
theorem akL{b:UInt8}(U:b≠10):∀ (B:List fj) (p:Nat),(B.flatMap eI)[p]?=some b->∃ k r c,qX B k r c/\p=(rP B k r c).length
 | [],p,h=>by grind
 | l::B,p,h=>by
  rw[aQV]at h;rcases aRs p (eI l).length with ak | ak
  ·rw[aQO ak]at h;unfold eI at h ak;rcases aRs p (kz l).length with bC | bC
   ·rw[aQO bC]at h;obtain⟨r,c,E,M,al⟩:=akK U l p h;exact⟨0,r,c,⟨by simp,E,M⟩,by grind [rP]⟩
   grind
  ·rw[am8 ak]at h;obtain⟨k,r,c,⟨E,M,al⟩,a7⟩:=akL U B _ h;refine⟨k+1,r,c,⟨by grind,M,al⟩,?_⟩;grind [rP]
def pg(p:Bool):List UInt8->Nat
 | []=>0
 | b::l=>(if (p&&decide (b=10))=true then 1 else 0)+pg (decide (b=10)) l
def FB(l:List UInt8):Nat:=((List.range (l.length - 1)).filter λk=>decide (l.getD (k+1) 0=10)&&decide (l.getD k 0=10)).length
theorem akM:∀ (l:List UInt8) (a:UInt8),FB (a::l)=pg (decide (a=10)) l
 | [],a=>rfl
 | b::t,a=>by
  have aR:=akM t b;have e:FB (a::b::t)=(if (decide (a=10)&&decide (b=10))=true then 1 else 0)+FB (b::t):=by
   unfold FB;have bQ:(a::b::t).length - 1=((b::t).length - 1)+1:=by simp
   rw[bQ,List.range_succ_eq_map];have aF:((List.map Nat.succ (List.range ((b::t).length - 1))).filter λk=>decide ((a::b::t).getD (k+1) 0=10)&&decide ((a::b::t).getD k 0=10)).length=((List.range ((b::t).length - 1)).filter λk=>decide ((b::t).getD (k+1) 0=10)&&decide ((b::t).getD k 0=10)).length:=by
    rw[List.filter_map,aQJ];rfl
   grind
  rw[e,aR];rfl
theorem aGO(f:List UInt8)(p:Nat)(h:p<=f.length):Fp f p=pg false (f.take p):=by
 have e:Fp f p=FB (f.take p):=by
  grind [Fp,FB,List.filter_congr]
 rw[e];cases bC:f.take p with
 | nil=>rfl
 | cons a l=>
  grind [akM,pg]
variable {b:UInt8}
theorem XA(h:f' b=true):b≠10:=λe=>by rw[e]at h;exact absurd h (by decide)
theorem akN:∀ (w:List UInt8) (p:Bool),w.all f'=true->pg p w=0
 | [],p,_=>rfl
 | b::w,p,h=>by
  simp only[aRd,amX]at h;show (if (p&&decide (b=10))=true then 1 else 0)+pg (decide (b=10)) w=0;rw[akN w _ h.2,aQ2 (XA h.1)];simp
theorem akO:∀ (w b9:List UInt8) (p:Bool),w.all f'=true->(p=true->w≠[])->pg p (w++10::b9)=pg true b9
 | [],b9,p,_,ak=>by
  grind [pg]
 | b::w,b9,p,h,ak=>by
  simp only[aRd,amX]at h;show (if (p&&decide (b=10))=true then 1 else 0)+pg (decide (b=10)) (w++10::b9)=_;rw[aQ2 (XA h.1),akO w b9 false h.2 (λk=>by grind)];simp
theorem XB:∀ (l:fj) (b9:List UInt8) (p:Bool),(∀ w∈l,w.all f'=true/\w≠[])->∃ q,pg p (kz l++b9)=pg q b9/\(l≠[]->q=true)
 | [],b9,p,_=>⟨p,rfl,λk=>absurd rfl k⟩
 | w::l,b9,p,h=>by
  obtain⟨E,M⟩:=h w (by simp);obtain⟨q,e,bC⟩:=XB l b9 true λw hw=>h w (am2 _ hw);refine⟨if l=[] then true else q,?_,λ_=>?_⟩
  ·rw[Pu,aQ1,List.cons_append,akO w _ p E λ_=>M];by_cases ai:l=[]
   ·subst ai;rfl
   grind
  grind
variable {l:fj}
theorem akP{W:Nat}(h:gz W l):∀ w∈l,w.all f'=true/\w≠[]:=λw hw=>by
 obtain⟨E,M⟩:=h.2.2.2.2 w hw;have:=h.2.2.1;grind
theorem aGP{W:Nat}(h:gz W l)(b9:List UInt8)(p:Bool):pg p (eI l++b9)=1+pg true b9:=by
 have e:eI l++b9=kz l++10::b9:=by unfold eI;simp
 obtain⟨q,aF,bB⟩:=XB l (10::b9) p (akP h);have ai:l≠[]:=λk=>by have:=h.1;grind
 grind [pg]
theorem akQ:∀ (B:List fj) (b9:List UInt8) (p:Bool),(∀ l∈B,gz (ga l) l)->∃ q,pg p (B.flatMap eI++b9)=B.length+pg q b9
 | [],b9,p,_=>⟨p,by simp⟩
 | l::B,b9,p,h=>by
  obtain⟨q,e⟩:=akQ B b9 true λl ai=>h l (am2 _ ai);refine⟨q,?_⟩;rw[aQV,aQ1,aGP (h l (by simp)),aRU];omega
theorem yl{B:List fj}(h:k<B.length):B.getD k []∈B:=by grind
theorem aGQ{B:List fj}(ax:∀ l∈B,gz (ga l) l)(h:qX B k r c):Fp (B.flatMap eI) (rP B k r c).length=k:=by
 have mj:=JL h;have hlen:(rP B k r c).length<=(B.flatMap eI).length:=by grind
 rw[aGO _ _ hlen,mj,List.take_left];unfold rP;obtain⟨aj,D,hc⟩:=h;have ai:=ax _ (yl aj);obtain⟨q,e⟩:=akQ (B.take k) (kz ((B.getD k []).take r)++((B.getD k []).getD r []).take c) false λl ai=>ax l (aQM ai);obtain⟨cM,bB,_⟩:=XB ((B.getD k []).take r) (((B.getD k []).getD r []).take c) q λw hw=>akP ai w (aQM hw);have hV:(B.getD k []).getD r []∈B.getD k []:=by
  grind
 rw[e,bB,akN _ cM (aEJ (ai.2.2.2.2 _ hV).2 _),aRb];omega
def p8(B:List fj)(k r c:Nat):Nat:=n3 B k+r*(ga (B.getD k [])+1)+c
theorem aGR(B:List fj)(k:Nat):n3 B k=((B.take k).flatMap eI).length:=by
 simp_all[n3]
theorem XC{B:List fj}(ax:∀ l∈B,gz (ga l) l)(h:qX B k r c):(rP B k r c).length=p8 B k r c:=by
 obtain⟨aj,D,hc⟩:=h;have ai:=ax _ (yl aj);unfold rP p8;rw[aQW,aQW,<-aGR,Xl   _ λw hw=>(ai.2.2.2.2 w (aQM hw)).1,aRb,aRb,Nat.min_eq_left (by omega)];omega
theorem akR{B:List fj}(ax:∀ l∈B,gz (ga l) l)(h:qX B k r c):c<ga (B.getD k [])/\f' (CO B k r c)=true:=by
 obtain⟨aj,D,hc⟩:=h;have ai:=ax _ (yl aj);have hV:(B.getD k []).getD r []∈B.getD k []:=by
  grind
 obtain⟨E,M⟩:=ai.2.2.2.2 _ hV;grind [CO]
theorem aGS{B:List fj}(ax:∀ l∈B,gz (ga l) l)(h:qX B k r c):kA (B.flatMap eI) ((p8 B k r c:Nat):Int)=((k:Int),true):=by
 have ak:=XC ax h;have hc:=(akR ax h).2;grind [JL,kA,XA,aGQ]
structure p9(B iT:List fj):Prop where
 len:iT.length=B.length
 sh:∀ l∈iT,gz (ga l) l
 ve:∀ k,k<B.length->(iT.getD k []).length=(B.getD k []).length/\ga (iT.getD k [])=ga (B.getD k [])
theorem p9.refl{B:List fj}(ax:∀ l∈B,gz (ga l) l):p9 B B:=⟨rfl,ax,λ_ _=>⟨rfl,rfl⟩⟩
theorem p9.n3{B iT:List fj}(ax:∀ l∈B,gz (ga l) l)(h:p9 B iT):∀ k,k<=B.length->n3 iT k=n3 B k
 | 0,_=>rfl
 | k+1,aj=>by
  have aR:=p9.n3 ax h k (by omega);have BP:k<B.length:=by omega
  have oz:k<iT.length:=by rw[h.len];omega
  have aF:=Xm (ax _ (amV BP));have bB:=Xm (h.sh _ (amV oz));have c7:=h.ve k BP;rw[akr BP,akr oz]at c7;rw[Xo BP,Xo oz,aR,aF,bB,c7.1,c7.2]
variable {iT:List fj}
theorem p9.aGT{B:List fj}(ax:∀ l∈B,gz (ga l) l)(h:p9 B iT)(aj:k<B.length)(r c:Nat):p8 iT k r c=p8 B k r c:=by
 unfold p8;rw[h.n3 ax k (by omega),(h.ve k aj).2]
theorem p9.at{B:List fj}(ax:∀ l∈B,gz (ga l) l)(h:p9 B iT)(aZ:qX B k r c):qX iT k r c:=by
 obtain⟨aj,D,hc⟩:=aZ;obtain⟨aF,bB⟩:=h.ve k aj;have oz:k<iT.length:=by grind
 have ai:=h.sh _ (yl oz);have KO:=ax _ (yl aj);have cY:r<(iT.getD k []).length:=by omega
 have m1:(iT.getD k []).getD r []∈iT.getD k []:=by
  grind
 have m0:(B.getD k []).getD r []∈B.getD k []:=by
  grind
 have ch:=(ai.2.2.2.2 _ m1).1;have et:=(KO.2.2.2.2 _ m0).1;exact⟨oz,cY,by omega⟩
theorem Pv{W:Nat}(h:gz W l)(D:r<l.length)(U:f' b=true):gz W (cq l r c b):=by
 obtain⟨E,M,al,a7,bR⟩:=h;unfold cq;refine⟨by grind,by grind,al,a7,λw hw=>?_⟩;grind
theorem p9.put{B:List fj}(h:p9 B iT)(aZ:qX iT k r c)(U:f' b=true):p9 B (wV iT k r c b):=by
 obtain⟨aj,D,hc⟩:=aZ;have ai:=h.sh _ (yl aj);have ax:=Pv ai D (c:=c) U;have hw:=ax.wide;unfold wV;refine⟨by rw[aRl];exact h.len,λl r_=>?_,λj aM=>?_⟩
 ·rcases List.mem_or_eq_of_mem_set r_ with r_ | r_
  ·exact h.sh l r_
  grind
 ·by_cases e:k=j
  ·subst e;rw[aGJ aj,hw];refine⟨?_,(h.ve k aM).2⟩;unfold cq;rw[aRl];exact (h.ve k aM).1
  ·rw[getD_set_ne e];exact h.ve j aM
def hH(R:List (z1'))(r c:Nat)(v:Int):List (z1'):=R.set r ((R.getD r []).set c v)
variable {R:List (z1')}{v:Int}
theorem ym(D:r<R.length)(k:Nat):(hH R r c v).getD k []=if r=k then (R.getD r []).set c v else R.getD k []:=by
 grind [hH]
theorem XD{r:z1'}(h:lG r)(U:j4 r=false)(hc:c<r.length)(ag:fb v=true)(eM:v≠r.getD c 0):j4 (r.set c v)=true:=by
 cases bC:j4 (r.set c v) with
 | true=>rfl
 | false=>
  have aV:=(Fq h).1 U;have b8:lG (jA r c v):=zV h ag;have E:=(Fq b8).1 bC;rw[O9 h.1 (by omega) (by omega)]at E;have g:=O7 h.2.2 hc;grind [oH]
theorem XE{W:Nat}(h:p6 W R)(hc:c<W)(U:k9 R c=false)(D:r<R.length)(ag:fb v=true)(eM:v≠(R.getD r []).getD c 0):k9 (hH R r c v) c=true:=by
 obtain⟨E,M,al,a7,bR⟩:=h;have hV:=bR _ (z1 D);have hlen:(hH R r c v).length=R.length:=by unfold hH;rw[aRl]
 unfold k9 at U ⊢;rw[aQE,Decidable.not_not]at U;rw[hlen,aQ6];have mF:∀ w∈R.take (R.length - 1),w.length=W/\w.all fb=true:=λw hw=>bR w (aQM hw);by_cases e:r=R.length - 1
 ·grind [hH,List.take_set_of_le]
 ·have ka:(hH R r c v).getD (R.length - 1) []=R.getD (R.length - 1) []:=by grind [ym]
  have tA:(hH R r c v).take (R.length - 1)=(R.take (R.length - 1)).set r ((R.getD r []).set c v):=by grind [hH,List.take_set]
  have Dm:gn ((R.take (R.length - 1)).set r ((R.getD r []).set c v)) c=(gn (R.take (R.length - 1)) c).set r v:=by
   simp_all[gn]
  have kY:(gn (R.take (R.length - 1)) c).length=R.length - 1:=by unfold gn;simp
  have E6:=ajM mF hc;have aaV:(gn (R.take (R.length - 1)) c).getD r 0=(R.getD r []).getD c 0:=by
   unfold gn;grind
  rw[ka,tA,Dm,U,CL E6,CL (O6 E6 ag),W0 _ _ _ (by omega)];have g:=O7 hV.2 (i:=c) (by omega);grind [oH]
theorem akS{n i:Nat}{p:Int->Bool}(G:i<n)(h:∀ k,k<n->p (k:Int)=decide (k=i)):(nw n).filter p=[(i:Int)]:=by
 have E:(nw n).filter p=(nw n).filter λv=>decide (v=(i:Int)):=aRF λv ag=>by
  obtain⟨k,aj,rfl⟩:=List.mem_map.1 ag;rw[h k (List.mem_range.1 aj)];grind
 rw[E];unfold nw;have M:(List.range n).filter ((λv=>decide (v=(i:Int))) ∘ λi:Nat=>i)=[i]:=by
  have al:(List.range n).filter ((λv=>decide (v=(i:Int))) ∘ λi:Nat=>i)=(List.range n).filter λk=>decide (k=i):=aRF λk _=>decide_eq_decide.2 (by grind);have:∀ m,i<m->(List.range m).filter (λk=>decide (k=i))=[i]:=by
   intro m;induction m with
   | zero=>omega
   | succ m aR=>
    grind [List.range_succ,List.filter_eq_nil_iff]
  grind
 grind
def CP(W:Nat)(R:List (z1')):Prop:=p6 W R/\kc R=[]/\k_ W R=[]
theorem CP.fG{W:Nat}(h:CP W R)(aj:k<R.length):j4 (R.getD k [])=false:=by
 cases bC:j4 (R.getD k []) with
 | false=>rfl
 | true=>
  have:=Fs.2 ⟨k,aj,rfl,bC⟩;rw[h.2.1]at this;grind
theorem CP.JM{W:Nat}(h:CP W R)(aj:k<W):k9 R k=false:=by
 cases bC:k9 R k with
 | false=>rfl
 | true=>
  have:=Ft.2 ⟨k,aj,rfl,bC⟩;rw[h.2.2]at this;grind
theorem akT(aV:0<R.length){j:Nat}(D:r<R.length)(kY:c<(R.getD r []).length)(aM:j≠c):k9 (hH R r c v) j=k9 R j:=
 akq (by unfold hH;simp) (λk aj=>by
  grind [ym]) aV
theorem aGU{W:Nat}(h:CP W R)(D:r<R.length)(hc:c<W)(ag:fb v=true)(eM:v≠(R.getD r []).getD c 0) :
  la W (hH R r c v)=(1,(r:Int),(c:Int))/\n2 (hH R r c v) (r:Int) (c:Int)=R:=by
 have ax:=h.1;have hV:=ax.2.2.2.2 _ (z1 D);have vh:=ax.fG (z1 D);have hlen:(hH R r c v).length=R.length:=by unfold hH;simp
 have aGV:kc (hH R r c v)=[(r:Int)]:=by
  unfold kc;rw[hlen];refine akS D λk aj=>?_;have JK:((k:Int)).toNat=k:=rfl;rw[JK,ym D];by_cases e:k=r
  ·subst e;rw[if_pos rfl,aQN rfl];exact XD vh (h.fG D) (by omega) ag eM
  ·rw[if_neg λx=>e x.symm,aQ2 e];exact h.fG aj
 have Fx:k_ W (hH R r c v)=[(c:Int)]:=by
  refine akS hc λk aj=>?_;have JK:((k:Int)).toNat=k:=rfl;rw[JK];by_cases e:k=c
  ·subst e;rw[aQN rfl];exact XE ax hc (h.JM hc) D ag eM
  ·rw[aQ2 e,akT (by omega) D (by omega) e];exact h.JM aj
 have QP:((c:Int)).toNat=c:=rfl;have hm:n2 (hH R r c v) r c=R:=by
  unfold n2;have aGW:lG ((R.getD r []).set c v):=⟨by rw[aRl];exact vh.1,by rw[aRl];exact vh.2.1,O6 vh.2.2 ag⟩
  have aGX:jA ((R.getD r []).set c v) c ((R.getD r []).getD c 0)=R.getD r []:=by
   simp_all[jA]
  have aB:=O7 hV.2 (i:=c) (by omega);have aC:n1 ((R.getD r []).set c v) c=(R.getD r []).getD c 0:=aER aGW (by omega) (by grind) (oH.2 aB) (by rw[aGX];exact h.fG D);simp_all[hH]
 refine⟨?_,hm⟩;unfold la;have dT:List.getD [(r:Int)] 0 0=r:=rfl;have eo:List.getD [(c:Int)] 0 0=c:=rfl;rw[aGV,Fx,dT,eo,hm,QP,h.JM hc];rfl
theorem akU{l:z1'}{a b:Int}(h:a≠b)(aZ:a∈l)(U:b∈l):2<=l.length:=by
 match l,aZ,U with
 | [],aZ,_=>grind
 | [x],aZ,U=>
  grind
 | _::_::_,_,_=>simp
theorem aGY{W:Nat}(h:CP W R){jS gr:Nat}(D:r<R.length)(hc:c<W)(bm:jS<R.length)(kG:gr<W){iA:Int}(ag:fb v=true)(akV:fb iA=true)
  (eM:v≠(R.getD r []).getD c 0) (XF:iA≠(R.getD jS []).getD gr 0) (ay:¬(r=jS/\c=gr)):(la W (hH (hH R r c v) jS gr iA)).1=2:=by
 have ax:=h.1;have GI:(hH R r c v).length=R.length:=by unfold hH;simp
 have gv:jS<(hH R r c v).length:=by omega
 have hx:(hH (hH R r c v) jS gr iA).length=R.length:=by grind [hH]
 have hw:=ax.2.2.2.2 _ (z1 D);have DI:=ax.2.2.2.2 _ (z1 bm);have key:2<=(kc (hH (hH R r c v) jS gr iA)).length\/2<=(k_ W (hH (hH R r c v) jS gr iA)).length:=by
  by_cases e:r=jS
  ·subst e;have uK:=λx=>ay ⟨rfl,x⟩;right;refine akU     (by omega) (Ft.2 ⟨c,hc,rfl,?_⟩) (Ft.2 ⟨gr,kG,rfl,?_⟩)
   ·have kY:gr<((hH R r c v).getD r []).length:=by grind [ym]
    rw[akT (by omega) gv kY uK];exact XE ax hc (h.JM hc) D ag eM
   ·have bB:k9 (hH (hH R r c v) r gr iA) gr=k9 (hH R r gr iA) gr:=akq (by grind [hH]) (λk aj=>by
     grind [ym]) (by unfold hH;grind)
    rw[bB];exact XE ax kG (h.JM kG) D akV XF
  ·left;refine akU     (by omega) (Fs.2 ⟨r,by omega,rfl,?_⟩) (Fs.2 ⟨jS,by omega,rfl,?_⟩)
   ·rw[ym gv,if_neg λx=>e x.symm,ym D,if_pos rfl];exact XD (ax.fG (z1 D)) (h.fG D) (by omega) ag eM
   ·rw[ym gv,if_pos rfl,ym D,if_neg e];exact XD (ax.fG (z1 bm)) (h.fG bm) (by omega) akV XF
 grind [la]
theorem akW(l:fj)(r c:Nat)(b:UInt8):gL (cq l r c b)=hH (gL l) r c (b.toNat:Int):=by
 grind [cq,hH,List.map_set,aFP,Xf]
def FC(l:fj):Prop:=gz (ga l) l/\kd l=(0,0,0)
theorem FC.n0{l:fj}(h:FC l):CP (ga l) (gL l):=by
 obtain⟨E,M⟩:=h;unfold kd at M;rcases Pn (ga l) (gL l) with⟨e,c⟩ | ⟨e,c⟩ | ⟨r,a,e,_⟩
 ·exact⟨E.n0,List.length_eq_zero_iff.1 (by omega),List.length_eq_zero_iff.1 (by omega)⟩
 ·grind
 grind
theorem akX:fb (b.toNat:Int)=f' b:=by
 grind [fb,f']
theorem akY(l:fj)(r c:Nat):((gL l).getD r []).getD c 0=(((l.getD r []).getD c 0).toNat:Int):=by rw[Xf,WO]
theorem aGZ(h:FC l)(D:r<l.length)(hc:c<ga l)(U:f' b=true)(eM:b≠(l.getD r []).getD c 0) :
  kd (cq l r c b)=(1,(r:Int),(c:Int))/\jh (cq l r c b)=l:=by
 have ax:=Pv h.1 D (c:=c) U;have hw:=ax.wide;have aFl:=ax.n0.wide;have aA:=h.n0;obtain⟨aO,aT⟩:=aGU aA (r:=r)   (by grind) hc (v:=b.toNat) (by grind [akX]) (λe=>eM (by
  grind [akY,UInt8.toNat_inj]))
 grind [akW,kd,jh,vi,Xh]
theorem aG0(h:FC l){jS gr:Nat}(D:r<l.length)(hc:c<ga l)(bm:jS<l.length)(kG:gr<ga l){bk:UInt8}(U:f' b=true)(dZ:f' bk=true)
  (eM:b≠(l.getD r []).getD c 0) (XF:bk≠(l.getD jS []).getD gr 0) (ay:¬(r=jS/\c=gr)):vk (cq (cq l r c b) jS gr bk)=true:=by
 have ax:=Pv h.1 D (c:=c) U;have pA:=Pv ax (r:=jS) (c:=gr)   (by unfold cq;grind) dZ;have hw:=pA.wide;have aA:=h.n0;grind [aGY,akX,akY,UInt8.toNat_inj,akW,vk,kd]
abbrev qY:Type:=Nat×Nat×Nat×UInt8
def CQ(B:List fj)(c:qY):z11':=(((p8 B c.1 c.2.1 c.2.2.1:Nat):Int),(c.2.2.2.toNat:Int))
def FD(B:List fj)(c:qY):Prop:=qX B c.1 c.2.1 c.2.2.1/\f' c.2.2.2=true/\c.2.2.2≠CO B c.1 c.2.1 c.2.2.1
def nx(B:List fj)(c:qY):List fj:=wV B c.1 c.2.1 c.2.2.1 c.2.2.2
def akZ(f:List UInt8)(s:z11'):Prop:=(kA f s.1).2=true/\32<=s.2/\s.2<=126/\((f.getD s.1.toNat 0).toNat:Int)≠s.2
theorem aG1{f:List UInt8}{l:z4'}(h:(mz f l).2.2=true) :
  (∀ s∈l,akZ f s)/\l.Pairwise (λa b=>a.1≠b.1)/\mz f l=(l.foldl qW f,l.map λs=>(kA f s.1).1,true):=by
 unfold mz at h ⊢;by_cases U:(List.range l.length).any (wU f l)=true
 ·rw[if_pos U]at h;cases h
 ·rw[if_neg U];have aB:∀ i,i<l.length->wU f l i=false:=λi G=>by
   cases bC:wU f l i with
   | false=>rfl
   | true=>exact absurd (List.any_eq_true.2 ⟨i,List.mem_range.2 G,bC⟩) U
  have gh:∀ i (G:i<l.length),l.getD i (0,0)=l[i]:=λi G=>by rw[am1,am3 G];rfl
  refine⟨λs ax=>?_,?_,rfl⟩
  ·obtain⟨i,G,rfl⟩:=List.mem_iff_getElem.1 ax;have:=aB i G;unfold wU at this;rw[gh i G]at this;simp only[aQ5,Bool.not_eq_false',aQE]at this;obtain⟨⟨⟨⟨E,M⟩,al⟩,a7⟩,_⟩:=this;exact⟨E,by omega,by omega,a7⟩
  ·rw[List.pairwise_iff_getElem];intro i j G aM AX e;have:=aB j aM;unfold wU at this;have:l[i]=(l.take j)[i]'(by grind):=by simp
   grind
theorem ak0{B:List fj}(ax:∀ l∈B,gz (ga l) l):∀ (l:z4'),(∀ s∈l,akZ (B.flatMap eI) s)->∃ cs:List qY,l=cs.map (CQ B)/\∀ c∈cs,FD B c
 | [],_=>⟨[],rfl,by simp⟩
 | s::l,h=>by
  obtain⟨cs,e,hc⟩:=ak0 ax l λs ax=>h s (am2 _ ax);obtain⟨E,M,al,a7⟩:=h s (by simp);obtain⟨p,v⟩:=s;have ak:¬(p<0\/((B.flatMap eI).length)<=p\/(B.flatMap eI).getD p.toNat 0=10):=λk=>by
   grind [kA]
  have fW:=λk=>ak (.inr (.inr k));have aG2:(B.flatMap eI)[p.toNat]?=some ((B.flatMap eI).getD p.toNat 0):=by
   grind
  obtain⟨k,r,c,aZ,mY⟩:=akL fW B p.toNat aG2;have aB:=aGN aZ;rw[<-mY]at aB;rw[XC ax aZ]at mY;have aQo:(UInt8.ofNat v.toNat).toNat=v.toNat:=by simp;omega
  refine⟨(k,r,c,UInt8.ofNat v.toNat)::cs,?_,λgr kG=>?_⟩
  ·grind [CQ]
  ·rcases List.mem_cons.1 kG with rfl | kG
   ·refine⟨aZ,?_,λk=>?_⟩
    ·grind [f']
    grind
   grind
theorem ak1{B:List fj}(ax:∀ l∈B,gz (ga l) l):∀ (cs:List qY) (iT:List fj),p9 B iT->(∀ c∈cs,FD B c)->(cs.map (CQ B)).foldl qW (iT.flatMap eI)=(cs.foldl nx iT).flatMap eI/\p9 B (cs.foldl nx iT)
 | [],iT,h,_=>⟨rfl,h⟩
 | c::cs,iT,h,aB=>by
  obtain⟨aZ,b8,_⟩:=aB c (by simp);have Gs:=h.at ax aZ;have e:qW (iT.flatMap eI) (CQ B c)=(nx iT c).flatMap eI:=by
   unfold qW CQ nx;have iS:(((p8 B c.1 c.2.1 c.2.2.1):Int)).toNat=p8 B c.1 c.2.1 c.2.2.1:=rfl;rw[iS,<-h.aGT ax aZ.aj,<-XC h.sh Gs,aGM Gs];simp
  rw[aQ0,aQQ,e];exact ak1 ax cs _ (h.put Gs b8) λc hc=>aB c (am2 _ hc)
def sI(k:Nat)(cs:List qY):List qY:=cs.filter λc=>decide (c.1=k)
theorem ak2:∀ (cs:List qY) (B:List fj),(∀ c∈cs,c.1<B.length)->∀ k,(cs.foldl nx B).getD k []=(sI k cs).foldl (λl c=>cq l c.2.1 c.2.2.1 c.2.2.2) (B.getD k [])
 | [],B,_,k=>rfl
 | c::cs,B,h,k=>by
  have ai:(nx B c).length=B.length:=by grind [nx,wV]
  have aR:=ak2 cs (nx B c) (λc hc=>by grind) k;grind [sI,nx,wV]
theorem aG3(l:List af)(h:l.length=2):∃ a b,l=[a,b]:=by
 match l,h with
 | [a,b],_=>simp
section
variable {B:List fj} {cs:List qY}
theorem aG4(hw:∀ l∈B,FC l)(aB:∀ c∈cs,FD B c)(ak:cs.Pairwise λa b=>p8 B a.1 a.2.1 a.2.2.1≠p8 B b.1 b.2.1 b.2.2.1)(aj:k<B.length) :
  (sI k cs=[]->(cs.foldl nx B).getD k []=B.getD k [])/\
  (∀ c,sI k cs=[c]->kd ((cs.foldl nx B).getD k [])=(1,(c.2.1:Int),(c.2.2.1:Int))/\jh ((cs.foldl nx B).getD k [])=B.getD k [])/\
  ((sI k cs).length=2->vk ((cs.foldl nx B).getD k [])=true):=by
 have ax:∀ l∈B,gz (ga l) l:=λl ai=>(hw l ai).1;have nl:=hw _ (yl aj);have KE:=ak2 cs B (λc hc=>(aB c hc).1.aj) k;have pB:∀ c∈sI k cs,FD B c/\c.1=k:=λc hc=>by
  obtain⟨E,M⟩:=List.mem_filter.1 hc;exact⟨aB c E,aQR M⟩
 have bh:∀ c:qY,FD B c->c.1=k->c.2.1<(B.getD k []).length/\c.2.2.1<ga (B.getD k [])/\f' c.2.2.2=true/\c.2.2.2≠((B.getD k []).getD c.2.1 []).getD c.2.2.1 0:=λc hc e=>by
  subst e;exact⟨hc.1.D,(akR ax hc.1).1,hc.2.1,hc.2.2⟩
 refine⟨λe=>?_,λc e=>?_,λe=>?_⟩
 ·grind
 ·grind [aGZ]
 ·have jL:(sI k cs).Pairwise λa b=>p8 B a.1 a.2.1 a.2.2.1≠p8 B b.1 b.2.1 b.2.2.1:=ak.filter _;obtain⟨c,gr,bB⟩:=aG3 _ e;grind [aG0]
end
def Pw(cs:List qY):z1':=cs.map λc=>(c.1:Int)
theorem aG5(cs:List qY)(k:Nat):O2 (Pw cs) (k:Int)=(sI k cs).length:=by
 grind [O2,Pw,sI,List.filter_congr]
structure z6(l:z2')(x:z4')(cs:List qY):Prop where
 aQp:x=cs.map (CQ ((gK l).map hZ))
 qM:∀ c∈cs,FD ((gK l).map hZ) c
 aG6:cs.Pairwise λa b=>p8 ((gK l).map hZ) a.1 a.2.1 a.2.2.1≠p8 ((gK l).map hZ) b.1 b.2.1 b.2.2.1
 val:mz (k7 l) x=((cs.foldl nx ((gK l).map hZ)).flatMap eI,Pw cs,true)
 iD:p9 ((gK l).map hZ) (cs.foldl nx ((gK l).map hZ))
variable {l:z2'}
theorem aG7(b8:∀ t∈l,gP t){x:z4'}(h:(mz (k7 l) x).2.2=true):∃ cs,z6 l x cs:=by
 obtain⟨E,M,al⟩:=aG1 h;have ax:=JI b8;rw[JH]at E al;obtain⟨cs,e,aB⟩:=ak0 ax x E;obtain⟨f1,f2⟩:=ak1 ax cs _ (p9.refl ax) aB;refine⟨cs,e,aB,?_,?_,f2⟩
 ·grind [CQ]
 ·rw[JH,al,e];congr 2;rw[aRZ];refine aQz λc hc=>?_;show (kA _ ((p8 _ c.1 c.2.1 c.2.2.1))).1=_;rw[aGS ax (aB c hc).1]
theorem ak3(b8:∀ t∈l,gP t):∀ b∈(gK l).map hZ,FC b:=λb U=>⟨JI b8 b U,akJ b8 b U⟩
theorem aG8(l:List af)(h:l.length<=1):l=[]\/∃ c,l=[c]:=by
 match l,h with
 | [],_=>simp
 | [c],_=>simp
section
variable {l:z2'} {x:z4'} {cs:List qY}
theorem z6.one(h:z6 l x cs)(b8:∀ t∈l,gP t)(aj:k<((gK l).map hZ).length)(E:(sI k cs).length<=1) :
  vk ((cs.foldl nx ((gK l).map hZ)).getD k [])=false/\jh ((cs.foldl nx ((gK l).map hZ)).getD k [])=((gK l).map hZ).getD k []:=by
 obtain⟨s1,s2,_⟩:=aG4 (ak3 b8) h.qM h.aG6 aj;have hw:=ak3 b8 _ (yl aj);rcases aG8 _ E with e | ⟨c,e⟩
 ·rw[s1 e];refine⟨?_,aGF b8 _ (yl aj)⟩;unfold vk;rw[hw.2];rfl
 ·grind [vk]
theorem z6.aG9(h:z6 l x cs):k8 (mz (k7 l) x).1=(true,cs.foldl nx ((gK l).map hZ)):=by
 rw[h.val];exact Xj h.iD.sh
theorem aG_{X Z:List fj}(ai:X.length=Z.length)(h:∀ k,k<Z.length->jh (X.getD k [])=Z.getD k []):X.map jh=Z:=by
 have:=aFL   jh id X Z [] [] ai λk aj=>h k (by omega);simp_all
theorem z6.aG'(h:z6 l x cs)(b8:∀ t∈l,gP t)(qU:l.length<=40)(E:∀ k,(sI k cs).length<=1) :
  jd (mz (k7 l) x).1=(l,Xn (cs.foldl nx ((gK l).map hZ)),0):=by
 have hlen:=h.iD.len;have aQq:=aG_ hlen λk aj=>(h.one b8 aj (E k)).2;have ij:¬(cs.foldl nx ((gK l).map hZ)).any vk=true:=λk=>by
  obtain⟨b,U,an⟩:=List.any_eq_true.1 k;obtain⟨i,G,rfl⟩:=List.mem_iff_getElem.1 U;have:=(h.one b8   (by omega) (E i)).1;grind
 unfold jd;rw[h.aG9];grind [aFt]
end
end Go.Fer
namespace Go.Fer
theorem ak4:∀ (l:z4') (f:List UInt8),(l.foldl qW f).length=f.length
 | [],f=>rfl
 | s::l,f=>by
  rw[aQQ,ak4 l];grind [qW]
theorem aHa(f:List UInt8)(l:z4'):(mz f l).1.length<=f.length:=by
 grind [mz,ak4]
section
variable {l:z2'} (b8:∀ t∈l,gP t) (qU:l.length<=40)
include b8 qU
theorem aHb:Fm.sh l=mpure (k7 l,0):=(bO (show l.length<2 ^ 63 by omega) _).trans (by grind [ajw,akg])
theorem aHc{x:z4'}(an:x.length<=10):Ps.sh (k7 l,x)=mpure (mz (k7 l) x):=by
 have:=Xz b8 qU;exact bO (show (k7 l).length<65536/\x.length<65536 by omega) _
theorem aHd(x:z4'):(mz (k7 l) x).1.length<65536:=by
 grind [Xz,aHa]
end
end Go.Fer
namespace Go.Fer
abbrev FE:aQ:=⟨.aw W.yb .str,.aw W.wD (.aw W.yb (.int .i64)),λx=>x.2.length<65536/\((jd x.2).2.2=0->W.Wp (x.1,(jd x.2).1)),λx=>if (jd x.2).2.2≠0 then ([],W.We,(jd x.2).2.2) else W.Cr x.1 (jd x.2).1⟩
theorem aHe(x):a_ (akA W.Cy.sh qP.sh x) (FE.sh x):=bu λh=>by
 obtain⟨d,f⟩:=x;obtain⟨E,M⟩:=h;unfold akA;rw[show qP.sh f=mpure (jd f) from bO E _,aP];by_cases he:(jd f).2.2=0
 ·rw[if_neg (by grind),show W.Cy.sh (d,(jd f).1)=mpure (W.Cr d (jd f).1) from bO (M he) _,aP];grind
 grind
theorem aHf{d:bD}(ay:W.eQ d){l:z2'}(b8:∀ t∈l,gP t)(qU:l.length<=40){x:z4'}{cs:List qY}(h:z6 l x cs)(E:∀ k,(sI k cs).length<=1) :
  FE.sh (d,(mz (k7 l) x).1)=W.Cy.sh (d,l):=by
 have D:=h.aG' b8 qU E;have ak:W.Wp (d,l):=⟨ay.iR,ay.iN,by grind,λs ax=>by have:=(b8 s ax).1;omega⟩
 refine (bO (⟨aHd b8 qU x,λ_=>by grind⟩) _).trans ((bO ak _).trans ?_).symm;grind
def FF(c:bc×z1'×Bool):bc×Bool:=(c.1,(List.range c.2.1.length).foldl (λcb i=>(c.2.1.take i).foldl (λcb v=>cb&&decide (c.2.1.getD i 0≠v)) cb) c.2.2)
theorem XG{af:Type}(p:af->Bool):∀ (l:List af) (b:Bool),l.foldl (λcb v=>cb&&p v) b=(b&&l.all p)
 | [],b=>by simp
 | v::l,b=>by rw[aQQ,XG p l,aRd,Bool.and_assoc]
theorem aHg{c:bc×z1'×Bool}(h:(FF c).2=true):c.2.2=true/\∀ i k,k<i->i<c.2.1.length->c.2.1.getD i 0≠c.2.1.getD k 0:=by
 unfold FF at h;rw[funext λcb=>funext λi=>XG _ _ _,XG,amX]at h;refine⟨h.1,λi k aj G=>?_⟩;have E:=List.all_eq_true.1 h.2 i (List.mem_range.2 G);grind [List.mem_iff_getElem]
theorem aHh{x:z1'}(h:∀ i k,k<i->i<x.length->x.getD i 0≠x.getD k 0)(v:Int):O2 x v<=1:=by
 have ak:x.Pairwise λa b=>a≠b:=List.pairwise_iff_getElem.2 λi j G aM AX e=>h j i AX aM (by grind);unfold O2;have bC:=ak.filter λw=>decide (w=v);match aC:x.filter λw=>decide (w=v) with
 | []=>simp
 | [a]=>simp
 | a::b::l=>
  have aZ:=aQR (List.mem_filter.1 (by grind:a∈x.filter λw=>decide (w=v))).2;have U:=aQR (List.mem_filter.1 (by grind:b∈x.filter λw=>decide (w=v))).2;simp_all
abbrev JN:aQ:=⟨.aw (.slice .str) (.slice (.ae (.aw (.int .i64) (.int .i64)))),.aw .str .bool,λx=>(∀ t∈x.1,gP t)/\x.1.length<=40,λx=>if List.length x.2 > 10 then ([],false) else FF (mz (k7 x.1) x.2)⟩
theorem aHi(x):a_ (akz Fm.sh Ps.sh x) (JN.sh x):=bu λh=>by
 obtain⟨l,x⟩:=x;obtain⟨b8,qU⟩:=h;have g_:=Xz b8 qU;unfold akz;dsimp only;rw[aHb b8 qU,aP];by_cases an:x.length > 10
 ·grind
 ·have oR:x.length<=10:=by omega
  rw[if_neg (by grind),aHc b8 qU oR,aP];rw[if_neg an];generalize hc:mz (k7 l) x=c;obtain⟨now,b,cb⟩:=c;have U:b.length<=10:=by
   grind [mz]
  rw[eW (List.range b.length) (λi cb=>(now,b,cb,(i:Int),())) (λi cb=>.az ((b.take i).foldl (λcb v=>cb&&decide (b.getD i 0≠v)) cb)) (λcb=>.az (now,cb,())) (λ_ _=>True) cb ?_ ?_ ?_ ?_]
  ·rw[ew,aP];rfl
  ·rfl
  ·simp
  ·intro i G cb _;rw[aR7]at G;have hw:=bA (n:=i+1);rw[eW (b.take i) (λk cb=>(now,b,cb,(i:Int),(k:Int),())) (λv cb=>.az (cb&&decide (b.getD i 0≠v))) (λcb=>.az (now,b,cb,i,())) (λ_ _=>True) cb ?_ ?_ ?_ ?_]
   ·simp_all[ew]
   ·rfl
   ·omega
   ·intro k aj cb _;rw[aRb]at aj;have BP:k<i:=by omega
    have oz:k<b.length:=by omega
    have nl:=bA (n:=k+1);simp_all
   simp_all[Nat.le_of_lt]
  simp
end Go.Fer
namespace Go.Fer.W
open H (hk)
def ny(n:Int):bc:=if n<0 then VW else Go.Lib.decDigits n.toNat
theorem Px(u:Nat):Go.Lib.decDigits u=(if u<10 then [] else Go.Lib.decDigits (u / 10))++[UInt8.ofNat (48+u % 10)]:=by
 grind [Go.Lib.decDigits]
theorem ak5(k:Nat):UInt8.ofNat (Int.toNat (IntKind.wrap .u8 (IntKind.wrap .i64 (Add.add 48 (Int.tmod (k:Int) 10)))))=UInt8.ofNat (48+k % 10):=by
 grind [bA,Cz]
theorem ak6:∀ (k u:Nat),u<10 ^ (k+1)->Go.Lib.nDigits u<=k+1
 | 0,u,h=>by grind [Go.Lib.nDigits_small]
 | k+1,u,h=>by
  unfold Go.Lib.nDigits;split
  ·omega
  ·have:=ak6 k (u / 10) (by omega);omega
abbrev oJ:aQ:=⟨.int .i64,.str,λn=>n<2 ^ 63,ny⟩
theorem WL(x):a_ (agJ x) (oJ.sh x):=bu λh=>by
 change x<2 ^ 63 at h;unfold agJ e1 bl bS b4 bg;show _=mpure (ny x);unfold ny;by_cases an:x<0
 ·rw[if_pos (aQN an),if_pos an]
 ·rw[if_neg (by simpa using an),if_neg an,bd (by decide)];obtain⟨u,rfl⟩:∃ u:Nat,x=u:=⟨x.toNat,by omega⟩
  have Fw:=Go.Lib.nDigits_le20 u (by omega);rw[<-Go.Lib.decDigits_length]at Fw;have e:=Px u;rw[anb (res:=aL.az (Go.Lib.decDigits u,())) (λs=>∃ k:Nat,s.1=(k:Int)/\k<=u/\Go.Lib.decDigits u=(if k<10 then [] else Go.Lib.decDigits (k / 10))++s.2.1) (λs=>s.1.toNat) ?_ _ ⟨u,rfl,amY _,by rw[ak5];exact e⟩,aP]
  ·rfl
  ·rintro⟨n,t,⟨⟩⟩ ⟨k,E,M,al⟩;change n=(k:Int) at E;subst E;change _=_++t at al;have aHj:=congrArg List.length al;rw[aQW]at aHj;have Oz:Int.tdiv (k:Int) 10=((k / 10:Nat):Int):=rfl;by_cases aj:k<10
   ·right;rw[if_pos aj,aRa]at al;simp only[Oz];rw[if_neg (by simp;omega),aP,al]
   ·left;rw[if_neg aj,Px (k / 10),aQ1]at al;refine⟨(((k / 10:Nat):Int),[UInt8.ofNat (48+k / 10 % 10)]++t,()),?_,⟨k / 10,rfl,by omega,al⟩,by show (((k / 10:Nat):Int)).toNat<((k:Int)).toNat;omega⟩;simp only[Oz];rw[if_pos (by simp;omega),bd (by decide),bd (by decide),bd (hk (by simp only[kv];omega)),bA,ak5]
theorem XH{n:Int}(h:n<=999999):(ny n).length<=6:=by
 unfold ny;split
 ·decide
 ·rw[Go.Lib.decDigits_length];exact ak6 5 _ (by omega)
def rQ(w:bc)(l:z1'):bc:=l.foldl (λs n=>s++([32]++ny n)) w
abbrev Py:aQ:=⟨.aw .str hG,.str,λx=>x.1.length<=1000/\x.2.length<=1000/\∀ n∈x.2,n<=999999,λx=>rQ x.1 x.2⟩
theorem aHk(x):a_ (agO oJ.sh x) (Py.sh x):=bu λh=>by
 obtain⟨w,l⟩:=x;obtain⟨E,M,al⟩:w.length<=1000/\l.length<=1000/\∀ n∈l,n<=999999:=h;unfold agO gx bF bh bS b4 bg;rw[eW l (λi s=>(s,l,(i:Int),())) (λn s=>.az (s++([32]++ny n))) (λs=>.az (s,())) (λi s=>s.length<=1000+7*i) w ?_ (by omega) ?_ ?_]
 ·rw[ew,aP];rfl
 ·rfl
 ·intro i G s ax;have hw:=bA (n:=i+1);have aA:=al _ (amV G);have aH:=XH aA;refine⟨?_,λbk dZ=>?_⟩
  ·simp only[cD,dQ G,d' G,dH G,ck,dn,hw];rw[show oJ.sh l[i]=mpure (ny l[i]) from bO (show l[i]<2 ^ 63 by omega) _,aP,bd (hk (by grind)),bd (hk (by grind))];rfl
  grind
 simp
variable {l:z1'}
theorem XI{w:bc}(E:w.length<=1000)(M:l.length<=1000)(al:∀ n∈l,n<=999999):Py.sh (w,l)=mpure (rQ w l):=bO ⟨E,M,al⟩ _
theorem CR{n:Nat}:∀ {l:z1'} {w:bc},(∀ n∈l,n<=999999)->w.length<=n->(rQ w l).length<=n+7*l.length
 | [],w,_,h=>h
 | k::l,w,h,hw=>by
  have aH:=XH (h k (by simp));have:=CR (n:=n+7) (l:=l) (w:=w++([32]++ny k)) (λn aA=>h n (by grind)) (by grind);grind [rQ]
theorem ak7:∀ (a b:bc),dt (a++32::b)=dt a++dt b
 | [],b=>by rfl
 | c::a,b=>by
  have aR:=ak7 a b;grind [Cn,dt]
theorem ak8:∀ (w:bc),(∀ c∈w,c≠32)->dt w=[w]
 | [],_=>rfl
 | c::w,h=>by
  have aR:=ak8 w λd ay=>h d (by grind);grind [dt]
theorem aHl(u:Nat):∀ c∈Go.Lib.decDigits u,c≠32:=by
 induction u using Nat.strongRecOn with
 | _ u aR=>
  intro c hc;rw[Px,aRH]at hc;rcases hc with hc | hc
  ·grind
  ·rw[aRA]at hc;subst hc;have:=Wy (u % 10) (by omega);intro e;rw[e]at this;grind
theorem aHm(n:Int):dt (ny n)=[ny n]:=by
 grind [ak8,ny,aHl]
theorem ak9:∀ (l:z1') (w:bc),dt (rQ w l)=dt w++l.map ny
 | [],w=>by simp[rQ]
 | n::l,w=>by
  show dt (rQ (w++32::ny n) l)=_;rw[ak9 l,ak7,aHm];simp
theorem aHn{n:Int}(aV:0<=n)(E:n<=999999):gm (ny n)=n:=by
 grind [XH,ny,aiE,gm,aiD]
theorem aHo(h:∀ n∈l,0<=n/\n<=999999):I' (l.map ny)=some l:=by
 unfold I';have e:(l.map ny).map gm=l:=by
  conv=>rhs;rw[<-List.map_id l]
  grind [List.map_congr_left,aHn]
 rw[e,if_pos];grind
theorem XJ{w:bc}{k:Int}{m:Bool}{j:Nat}(hw:dt w=[w])(aC:rN w nZ 0=some (k,m,j))(aj:k<=(l.length:Int)/\((l.length:Int)<=k\/m=true))(ai:∀ n∈l,0<=n/\n<=999999):wH (rQ w l)=some (j,l):=by
 grind [wH,ak9,aHo]
abbrev JO:aQ:=⟨.aw wD bK,.bool,λx=>(∀ a∈x.1,a=wG)/\x.2=(x.1.length:Int)/\x.1.length<2 ^ 63,λ_=>true⟩
theorem aHp(x):a_ (agL x) (JO.sh x):=bu λh=>by
 obtain⟨l,n⟩:=x;obtain⟨E,M,al⟩:(∀ a∈l,a=wG)/\n=l.length/\l.length<2 ^ 63:=h;subst M;unfold agL gx bF bl bh aY bS di b4 bg;rw[e2 l (λi (_)=>(l,(l.length:Int),(i:Int),())) (λ_ b=>.az b) (λ_=>.az (l,l.length,())) () ?_ ?_ ?_]
 ·simp_all[ew]
 ·rfl
 ·intro i G _;have hw:=bA (n:=i+1);have:=E _ (amV G);simp_all
 simp
abbrev JP:aQ:=⟨yb,yb,λd=>zE d.1/\H.M1 d.2,λd=>d⟩
theorem aHq(x):a_ (agK N3.sh H.xM.sh x) (JP.sh x):=bu λh=>by
 unfold agK dy;rw[show N3.sh x.1=mpure x.1 from bO h.1 _,show H.xM.sh x.2=mpure x.2 from bO h.2 _];simp
variable {d:bD}
theorem eQ.aHr(h:eQ d):H.M1 d.2:=by
 have:=h.Fe;exact⟨by have:=this.eH;omega,by have:=this.ej;omega,by have:=this.jJ;omega,by have:=this.n4;omega⟩
theorem aHs(h:eQ d):JP.sh d=mpure d:=bO ⟨h.copy,h.aHr⟩ _
theorem aHt(E:h0 d.1)(M:H.nC d.2):Ji.sh (d,[])=mpure (ye d []):=bO ⟨E,M,by simp⟩ _
theorem aHu(E:h0 d.1)(M:H.nC d.2)(aC:ye d []=false)(he:pc d=0):eQ d/\d.1.1.1.length<=6/\d.1.1.2.2.2.length<=10/\d.1.2.2.2.1.length<=3/\d.1.2.2.1.length<=4/\d.1.2.2.2.2.1.length<=3:=by
 have ay:eQ d:=(aCR (l:=[]) (n:=40) E M (by rw[aC,he];rfl)).1;refine⟨ay,?_⟩;have ax:=ay.yc;have hc:c_ d.1.1=0:=(Vo ax).1;have aO:u' d.1=false:=by
  unfold ye at aC;split at aC
  ·cases aC
  ·grind
 unfold u' at aO;split at aO
 ·cases aO
 ·rename_i cH;split at aO
  ·cases aO
  split at aO
  ·grind
  have aT:nm d.1.1=false:=by grind
  unfold nm at aT;grind
end Go.Fer.W
namespace Go.Fer.H
structure iW(c d:bb):Prop where
 cH:d.1=c.1
 b1:d.2.2.2=c.2.2.2
 ac:gH d=gH c
 aO:c_ c=0
 aT:c_ d=0
section
variable {c d:bb}
theorem iW.jx(h:iW c d)(w:z1')(u:Int):cL d w u=cL c w u:=by unfold cL qJ;rw[h.ac]
theorem iW.XK(h:iW c d)(w:z1')(u:Int):iM d w u=iM c w u:=by unfold iM;rw[h.jx]
theorem iW.aHv(h:iW c d)(w:z1'):j2 d w=j2 c w:=by
 unfold j2 u1;rw[h.cH];refine congrArg _ ?_;exact congrArg (List.all (fy 0 9)) (funext λu=>by rw[h.jx])
theorem iW.ak_(h:iW c d):∀ (l:z4') (w:z1'),nW d l w=nW c l w
 | [],w=>by unfold nW;rw[h.aHv]
 | s::l,w=>by
  refine congrArg (λf=>List.flatMap f _) (funext λn=>?_);exact h.ak_ l _
theorem iW.dw(h:iW c d):Go.Fer.H.dw d=Go.Fer.H.dw c:=by
 unfold Go.Fer.H.dw;rw[h.cH];exact h.ak_ _ _
theorem iW.Pz(h:iW c d)(b:Bool):fq d b=fq c b:=by
 unfold fq;rw[h.aO,h.aT,h.dw]
theorem iW.ak'(h:iW c d)(w:z1')(n:Int):lZ d w n=lZ c w n:=by
 unfold lZ;rw[h.b1];exact congrArg (λf=>List.findSome? f (fy 0 9)) (funext λu=>by rw[h.XK])
theorem iW.aHw(h:iW c d)(n:Int):xT d n=xT c n:=by unfold xT;rw[h.ac]
theorem iW.aHx(h:iW c d)(n:Int):mr d n=mr c n:=by
 unfold mr;rw[h.aHw,h.Pz];simp  [h.ak']
theorem iW.aHy(h:iW c d)(n:Int):zf d n=zf c n:=by
 unfold zf;rw[h.aHx,h.b1]
theorem iW.sum(h:iW c d)(w:z1')(g:Int):EC d w g=EC c w g:=by
 unfold EC;rw[h.ac,h.b1];simp  [h.ak']
theorem iW.aHz(h:iW c d)(g:Int):xV d g=xV c g:=by
 unfold xV;rw[h.Pz];simp  [h.sum]
theorem iW.aHA(h:iW c d)(u t:Int):qL d u t=qL c u t:=by
 unfold qL Nd;rw[h.Pz];simp  [h.XK]
theorem iW.a8(h:iW c d)(w:z1')(t:Int):BT d w t=BT c w t:=by
 unfold BT;simp  [h.XK]
theorem iW.ke(h:iW c d)(t:Int):xW d t=xW c t:=by
 unfold xW;rw[h.Pz,h.b1];simp  [h.a8]
end
theorem aHB{a b:List bt}(aZ:tw a)(h:∀ s,s∈a<->s∈b):eg a=eg b:=by
 have key:∀ id,(a.find? λs=>s.1 == id)=b.find? λs=>s.1 == id:=by
  intro id;cases aC:b.find? λs=>s.1 == id with
  | none=>
   grind
  | some s=>
   have E:=aQU aC;have M:=List.find?_some aC;have al:(a.find? λs=>s.1 == id).isSome=true:=List.find?_isSome.2 ⟨s,(h s).2 E,M⟩;obtain⟨t,aH⟩:=Option.isSome_iff_exists.1 al;have a7:=aQU aH;have bR:=List.find?_some aH;simp  at M bR;rw[aH,aZ t a7 s ((h s).2 E) (by omega)]
 unfold eg;simp_all
theorem XL{l:List bt}(aA:tw l)(hid:∀ s∈l,cz s.1 0 99=true)(s:bt):s∈eg l<->s∈l:=by
 refine⟨zc,λax=>?_⟩;refine List.mem_filterMap.2 ⟨s.1,rD.2 (pS.1 (hid s ax)),?_⟩;have al:(l.find? λt=>t.1 == s.1).isSome=true:=List.find?_isSome.2 ⟨s,ax,by simp⟩;obtain⟨t,aH⟩:=Option.isSome_iff_exists.1 al;have a7:=aQU aH;have bR:=List.find?_some aH;simp  at bR;rw[aH,aA t a7 s ax bR]
theorem JQ{a b:List bt}(h:tw b)(ax:∀ s∈a,s∈b):tw a:=λx an y bf he=>h x (ax x an) y (ax y bf) he
theorem PA{c:bb}(aB:im c){sl:List bt}{fA:z1'}(E:sl.length<=12)(M:∀ s∈sl,s∈c.2.1)(al:fA.length<=12)(a7:∀ n∈fA,cz n 0 99=true):c_ (fJ c sl fA)=0:=by
 have e:kR (fJ c sl fA)=true:=by
  have:=aB.kX;unfold kR u0 at this ⊢;simp only[amX,aQA,aQ5,aQE,aQL]at this ⊢;obtain⟨⟨⟨⟨⟨bz,aV⟩,aO⟩,aT⟩,b7⟩,gZ⟩:=this;exact⟨⟨⟨⟨⟨⟨⟨⟨bz.1.1.1,by show ¬((sl.length:Int) > 12);omega⟩,by show ¬((fA.length:Int) > 12);omega⟩,bz.2⟩,aV⟩,aO⟩,λs ax=>aT s (M s ax)⟩,a7⟩,gZ⟩
 have aA:tw (fJ c sl fA).2.1:=JQ aB.qI M;grind [c_,xR]
theorem aHC{c:bb}(aB:im c){sl:List bt}{fA:z1'}(E:sl.length<=12)(M:∀ s,s∈sl<->s∈c.2.1)(al:fA.length<=12)(a7:∀ n,n∈fA<->n∈c.2.2.1):iW c (fJ c sl fA):=by
 have ag:=(Cm aB.Io).fA;refine⟨rfl,rfl,?_,aB.Io,PA aB E (λs ax=>(M s).1 ax) al λn aA=>ag n ((a7 n).1 aA)⟩;unfold gH;show (eg sl).filter (λs=>!fA.contains s.1)=_;rw[aHB (JQ aB.qI λs ax=>(M s).1 ax) M];grind
end Go.Fer.H
namespace Go.Fer.W
open H (hk bt bb)
theorem aHD(a b:List bt):H.eg (H.eg a++b)=H.eg (a++b):=by
 grind [ah_,H.eg,aCz,rD]
theorem aHE(V aJ v:z1'):H.h' (H.h' V aJ) v=H.h' V (aJ++v):=by
 unfold H.h';grind [List.filter_congr]
def lH(s:bc):List bt×z1':=match wH s with
 | some (0,l)=>([(bT l 0,bT l 1,bT l 2,1,bT l 3,bT l 4)],[])
 | some (1,l)=>([(bT l 0,bT l 1,bT l 2,2,bT l 3,0)],[])
 | some (2,l)=>([],l)
 | _=>([],[])
def JR(s:bc):Prop:=∃ j l,wH s=some (j,l)/\j<3
theorem aHF{s:bc}(h:JR s)(d:bD):pb d s=sy d (lH s).1 (lH s).2:=by
 obtain⟨j,l,ak,aM⟩:=h;unfold pb lH;rw[ak];match j,aM with
 | 0,_=>rfl
 | 1,_=>rfl
 | 2,_=>rfl
structure vl(c:bb)(L:List bt)(aJ:z1'):Prop where
 qI:H.tw (c.2.1++L)
 fC:(H.eg (c.2.1++L)).length<=12
 fR:(H.h' c.2.2.1 aJ).length<=12
 ids:∀ s∈c.2.1++L,cz s.1 0 99=true
theorem XM(a b:z1'):(H.h' a b).Nodup:=((H.VT 0 99).filter _).imp λh=>by omega
variable {c:bb}
theorem vl.mono{L XN:List bt}{aJ ala:z1'}(h:vl c XN ala)(qm:∀ s∈L,s∈XN)(iI:∀ n∈aJ,n∈ala):vl c L aJ:=by
 have ax:∀ s∈c.2.1++L,s∈c.2.1++XN:=λs ax=>by grind
 refine⟨H.JQ h.qI ax,am5 ?_ h.fC,am5 ((XM _ _).length_le_of_subset λn aA=>?_) h.fR,λs hm=>h.ids s (ax s hm)⟩
 ·have:=(H.UG (c.2.1++L)).length_le_of_subset   λn aA=>by
   obtain⟨s,hm,rfl⟩:=List.mem_map.1 aA;exact aQ' ((H.XL h.qI h.ids s).2 (ax s (H.zc hm)))
  grind
 ·grind [H.h']
def nz(c:bb)(L:List bt)(aJ:z1'):bb:=H.fJ c (H.eg (c.2.1++L)) (H.h' c.2.2.1 aJ)
theorem aHG{L m:List bt}{aJ v:z1'}(h:vl c L aJ)(hc:H.c_ (nz c L aJ)=0) :
  ((H.nu (nz c L aJ) m v).2=0->(H.nu (nz c L aJ) m v).1=nz c (L++m) (aJ++v)/\H.c_ (H.fJ c m v)=0/\vl c (L++m) (aJ++v))/\
  (H.c_ (H.fJ c m v)=0->vl c (L++m) (aJ++v)->(H.nu (nz c L aJ) m v).2=0):=by
 have bW:H.eg (H.eg (c.2.1++L)++m)=H.eg (c.2.1++(L++m)):=by grind [aHD]
 have kU:∀ s,s∈H.eg (c.2.1++L)++m<->s∈c.2.1++(L++m):=λs=>by rw[<-aQ1,aRH,aRH,H.XL h.qI h.ids]
 have jn:H.nu (nz c L aJ) m v=if H.c_ (nz c L aJ)≠0 then (H.zH,H.c_ (nz c L aJ)) else if H.c_ (H.fJ c m v)≠0 then (H.zH,H.c_ (H.fJ c m v)) else
  if H.mn (H.eg (c.2.1++L)++m)=true then (H.zH,91) else
  if (decide (Int.ofNat (H.eg (H.eg (c.2.1++L)++m)).length > 12)||decide (Int.ofNat (H.h' (H.h' c.2.2.1 aJ) v).length > 12))=true then (H.zH,90) else (H.fJ c (H.eg (H.eg (c.2.1++L)++m)) (H.h' (H.h' c.2.2.1 aJ) v),0):=rfl
 rw[bW,aHE,if_neg (by omega)]at jn;by_cases aj:H.c_ (H.fJ c m v)=0
 ·rw[if_neg (by omega)]at jn;have hid:∀ s∈c.2.1++(L++m),cz s.1 0 99=true:=λs ax=>by
   rw[<-aQ1,aRH]at ax;rcases ax with ax | ax
   ·exact h.ids s ax
   ·exact (H.Cm aj).ids s ax
  by_cases ai:H.mn (H.eg (c.2.1++L)++m)=true
  ·rw[if_pos ai]at jn;rw[jn];refine⟨λh=>absurd (h) (by decide),λ_ aB=>?_⟩;rw[(H.xR _).2 (H.JQ aB.qI λs ax=>(kU s).1 ax)]at ai;grind
  ·rw[if_neg ai]at jn;have aA:=H.JQ ((H.xR _).1 (by grind)) λs ax=>(kU s).2 ax;by_cases bz:(decide (Int.ofNat (H.eg (c.2.1++(L++m))).length > 12)||decide (Int.ofNat (H.h' c.2.2.1 (aJ++v)).length > 12))=true
   ·rw[if_pos bz]at jn;rw[jn];refine⟨λh=>absurd (h) (by decide),λ_ aB=>?_⟩;have:=aB.fC;have:=aB.fR;grind
   ·rw[if_neg bz]at jn;rw[jn];simp at bz;exact⟨λ_=>⟨rfl,aj,aA,by omega,by omega,hid⟩,λ_ _=>rfl⟩
 grind
def uD(ad:List bc):List bt:=ad.flatMap λs=>(lH s).1
def CS(ad:List bc):z1':=ad.flatMap λs=>(lH s).2
theorem alb(c:bb)(z:bN):∀ (ad:List bc) (L:List bt) (aJ:z1'),vl c L aJ->eQ (z,nz c L aJ)->(∀ s∈ad,JR s/\s.length<=10000)->
  ((∀ a∈(mw (z,nz c L aJ) ad).1,a=wG)->(mw (z,nz c L aJ) ad).2=(z,nz c (L++uD ad) (aJ++CS ad))/\(∀ s∈ad,H.c_ (H.fJ c (lH s).1 (lH s).2)=0)/\vl c (L++uD ad) (aJ++CS ad))/\
  ((∀ s∈ad,H.c_ (H.fJ c (lH s).1 (lH s).2)=0)->vl c (L++uD ad) (aJ++CS ad)->∀ a∈(mw (z,nz c L aJ) ad).1,a=wG)
 | [],L,aJ,aB,ay,iJ=>by
  grind [uD,CS,mw]
 | s::ad,L,aJ,aB,ay,iJ=>by
  obtain⟨ax,FW⟩:=iJ s (by simp);obtain⟨t1,bX⟩:=aHG     aB ay.rO;have aj:=Wn ay FW;have e:=aHF ax (z,nz c L aJ);have cH:∀ X,L++((lH s).1++X)=L++(lH s).1++X:=λX=>(aQ1 ..).symm;have b1:∀ X,aJ++((lH s).2++X)=aJ++(lH s).2++X:=λX=>(aQ1 ..).symm;simp only[uD,CS,aQV,cH,b1,mw,List.forall_mem_cons];by_cases hm:(H.nu (nz c L aJ) (lH s).1 (lH s).2).2=0
  ·obtain⟨cU,hd,e5⟩:=t1 hm;have bB:pb (z,nz c L aJ) s=(wG,(z,nz c (L++(lH s).1) (aJ++(lH s).2))):=by
    grind [sy]
   rw[bB]at aj ⊢;obtain⟨i1,i2⟩:=alb c z ad _ _ e5 aj λt aH=>iJ t (by grind);refine⟨λ⟨_,h⟩=>?_,λ⟨_,h⟩ uv=>⟨rfl,i2 h uv⟩⟩;obtain⟨o4,nh,aHH⟩:=i1 h;exact⟨o4,⟨hd,nh⟩,aHH⟩
  ·have bB:(pb (z,nz c L aJ) s).1=Co:=by
    grind [sy]
   rw[bB];refine⟨λ⟨h,_⟩=>absurd h (by decide),λ⟨h,_⟩ uv=>absurd (bX h (uv.mono (λx an=>?_) λx an=>?_)) hm⟩<;>grind
variable {d:bD}
theorem aHI(aA:aia d):nz d.2 [] []=d.2:=by
 unfold nz;rw[aQD,aA.aib,aA.aic];rfl
def CT(n:Int):bc:=rQ [118,111,105,100] [n]
def yn(s:bt):bc:=if s.2.2.2.1=1 then rQ [108,101,110,100] [s.1,s.2.1,s.2.2.1,s.2.2.2.2.1,s.2.2.2.2.2] else rQ [98,97,99,107] [s.1,s.2.1,s.2.2.1,s.2.2.2.2.1]
def lI(c:bb):List bc:=c.2.2.1.map CT++c.2.1.map yn
abbrev XO(s:bt):Prop:=(0<=s.1/\s.1<=99)/\(0<=s.2.1/\s.2.1<=3)/\(0<=s.2.2.1/\s.2.2.1<=9999)/\(0<=s.2.2.2.2.1/\s.2.2.2.2.1<=9)/\(0<=s.2.2.2.2.2/\s.2.2.2.2.2<=99)/\(s.2.2.2.1=1\/s.2.2.2.1=2/\s.2.2.2.2.2=0)
variable {s:bt}
theorem XP(h:H.c_ c=0)(ax:s∈c.2.1):XO s:=by
 have aB:=H.o8 h;have:=aB.kX;unfold H.kR at this;have aA:=aB.eH;grind [H.nk,H.cz]
theorem XQ{n:Int}(h:0<=n/\n<=99):JR (CT n)/\lH (CT n)=([],[n]):=by
 have e:wH (CT n)=some (2,[n]):=XJ (k:=1) (m:=false) (by decide) (by decide) (by simp) (by grind);refine⟨⟨2,[n],e,by decide⟩,?_⟩;unfold lH;grind
theorem XR(h:XO s):JR (yn s)/\lH (yn s)=([s],[]):=by
 unfold yn;by_cases aj:s.2.2.2.1=1
 ·rw[if_pos aj];have e:wH (rQ [108,101,110,100] [s.1,s.2.1,s.2.2.1,s.2.2.2.2.1,s.2.2.2.2.2])=some (0,[s.1,s.2.1,s.2.2.1,s.2.2.2.2.1,s.2.2.2.2.2]):=XJ (k:=5) (m:=false) (by decide) (by decide) (by simp) (by grind);refine⟨⟨_,_,e,by decide⟩,?_⟩;unfold lH;grind
 ·rw[if_neg aj];have e:wH (rQ [98,97,99,107] [s.1,s.2.1,s.2.2.1,s.2.2.2.2.1])=some (1,[s.1,s.2.1,s.2.2.1,s.2.2.2.2.1]):=XJ (k:=4) (m:=false) (by decide) (by decide) (by simp) (by grind);refine⟨⟨_,_,e,by decide⟩,?_⟩;grind [lH]
theorem aHJ(h:XO s):(yn s).length<=100:=by
 unfold yn;split
 ·exact am5 (CR (n:=4) (by grind) (by decide)) (by simp)
 ·exact am5 (CR (n:=4) (by grind) (by decide)) (by simp)
theorem aHK{n:Int}(h:0<=n/\n<=99):(CT n).length<=100:=am5 (CR (n:=4) (by grind) (by decide)) (by simp)
theorem XS{af bet:Type}{f:af->List bet}{g:af->bet}:∀ (l:List af),(∀ a∈l,f a=[g a])->l.flatMap f=l.map g
 | [],_=>rfl
 | a::l,h=>by rw[aQV,h a (by simp),XS l λb U=>h b (by grind)];rfl
theorem Kb{af bet:Type}{f:af->List bet}:∀ (l:List af),(∀ a∈l,f a=[])->l.flatMap f=[]
 | [],_=>rfl
 | a::l,h=>by rw[aQV,h a (by simp),Kb l λb U=>h b (by simp[U])];rfl
theorem aHL(ay:eQ d):(∀ a∈(mw (lF (d.1,H.fJ d.2 [] [])) (lI d.2)).1,a=wG)/\(mw (lF (d.1,H.fJ d.2 [] [])) (lI d.2)).2=(d.1,H.fJ d.2 (H.eg d.2.2.1) (H.h' [] d.2.2.2.1))/\eQ (d.1,H.fJ d.2 [] []):=by
 have G:=ay.Fe;have aB:=H.o8 ay.rO;have ag:=λn aA=>H.pS.1 (G.fA n aA);have ax:=λs ax=>XP (s:=s) ay.rO ax;have au:eQ (d.1,H.fJ d.2 [] []):=⟨ay.iR,ay.yc,H.PA aB (by simp) (by simp) (by simp) (by simp),ay.Cs⟩
 have bQ:lF (d.1,H.fJ d.2 [] [])=(d.1,H.fJ d.2 [] []):=aCB au ⟨show H.eg []=[] by decide,show H.h' [] []=[] by decide⟩;have f1:uD (lI d.2)=d.2.2.1:=by
  unfold uD lI;rw[aRM,aSh,aSh,Kb _ λn aA=>by rw[(XQ (ag n aA)).2],XS (g:=id) _ λs h=>by rw[(XR (ax s h)).2];rfl];simp
 have f2:CS (lI d.2)=d.2.2.2.1:=by
  unfold CS lI;rw[aRM,aSh,aSh,XS (g:=id) d.2.2.2.1 λn aA=>by grind [XQ],Kb _ λs h=>by grind [XR]];simp
 have iJ:∀ t∈lI d.2,(JR t/\t.length<=10000)/\H.c_ (H.fJ (H.fJ d.2 [] []) (lH t).1 (lH t).2)=0:=by
  intro t aH;unfold lI at aH;rw[aRH]at aH;rcases aH with aH | aH
  ·obtain⟨n,aA,rfl⟩:=List.mem_map.1 aH;obtain⟨m1,m2⟩:=XQ (ag n aA);rw[m2];refine⟨⟨m1,am5 (aHK (ag n aA)) (by decide)⟩,H.PA aB (by simp) (by simp) (by simp) λk aj=>?_⟩;rw[List.mem_singleton.1 aj];exact G.fA n aA
  ·obtain⟨s,h,rfl⟩:=List.mem_map.1 aH;obtain⟨m1,m2⟩:=XR (ax s h);rw[m2];refine⟨⟨m1,am5 (aHJ (ax s h)) (by decide)⟩,H.PA aB (by simp) (λk aj=>?_) (by simp) (by simp)⟩;grind
 have aHM:=Wo d.2.2.1;have hu:(H.h' [] d.2.2.2.1).length<=d.2.2.2.1.length:=(XM _ _).length_le_of_subset λx an=>by
  grind [H.h']
 have dT:vl (H.fJ d.2 [] []) d.2.2.1 d.2.2.2.1:=⟨aB.qI,by have:=G.ej;exact am5 aHM this,by have:=G.jJ;exact am5 hu this,G.ids⟩
 have g0:vl (H.fJ d.2 [] []) [] []:=dT.mono (by simp) (by simp);have AU:=aHI (d:=(d.1,H.fJ d.2 [] [])) ⟨show H.eg []=[] by decide,show H.h' [] []=[] by decide⟩;obtain⟨cn,cN⟩:=alb (H.fJ d.2 [] []) d.1 (lI d.2) [] [] g0 (by grind) λt aH=>(iJ t aH).1;rw[f1,f2]at cn cN;have ok:=cN (λt aH=>(iJ t aH).2) dT;rw[bQ];exact⟨ok,(cn ok).1,au⟩
theorem aHN(ay:eQ d):H.iW d.2 (H.fJ d.2 (H.eg d.2.2.1) (H.h' [] d.2.2.2.1)):=by
 have G:=ay.Fe;have aB:=H.o8 ay.rO;refine H.aHC aB (am5 (Wo _) G.ej) (H.XL aB.qI G.ids) (am5 ((XM _ _).length_le_of_subset λx an=>?_) G.jJ) λn=>?_
 ·grind [H.h']
 ·unfold H.h';simp only[List.mem_filter,rD,List.contains_nil,aRj,List.contains_iff_mem];exact⟨λh=>h.2,λh=>⟨H.pS.1 (G.fA n h),h⟩⟩
abbrev JS:aQ:=⟨H.kx,wD,λc=>H.c_ c=0,lI⟩
theorem aHO(x):a_ (agM Py.sh x) (JS.sh x):=bu λh=>by
 have G:=H.Cm h;have ej:=G.ej;have jJ:=G.jJ;unfold agM hy gx bF cy bl bh bS b4 bg ed bY;rw[eW x.2.2.1 (λi o=>((i:Int),x,o,())) (λn o=>.az (o++[CT n])) (λo=>.az (x,o,())) (λi o=>o.length=i) [] ?_ rfl ?_ ?_]
 ·rw[ew,pN,aP,db];rw[eW x.2.1 (λi o=>((i:Int),x,o,())) (λs o=>.az (o++[yn s])) (λo=>.az (o,())) (λi o=>o.length=x.2.2.1.length+i) (x.2.2.1.map CT) ?_ (by simp) ?_ ?_]
  ·rw[ew,pN,aP];rfl
  ·rfl
  ·intro i G o au;have hw:=bA (n:=i+1);obtain⟨aO,aT,b7,gZ,rh,uJ⟩:=XP h (amV G);refine⟨?_,λbk dZ=>?_⟩
   ·simp only[cD,dQ G,if_true,d' G,dH G,ck];unfold yn;by_cases aj:x.2.1[i].2.2.2.1=1
    ·rw[if_pos (aQN aj),XI (by decide) (by simp) (by grind),aP,bd (hk (by grind)),aP];simp_all
    ·rw[if_neg (by grind),XI (by decide) (by simp) (by grind),aP,bd (hk (by grind)),aP];simp_all
   grind
  simp
 ·rfl
 ·intro i dM o au;have hw:=bA (n:=i+1);have ag:=H.pS.1 (G.fA _ (amV dM));refine⟨?_,λbk dZ=>?_⟩
  ·simp only[cD,dQ dM,d' dM,dH dM,ck,dn,hw];rw[XI (by decide) (by simp) (by grind),aP,bd (hk (by grind))];rfl
  grind
 simp
theorem aHP(x):a_ (ayO x) (Jh.sh x):=aCM x
abbrev JT:aQ:=⟨.aw H.kx (.aw H.kx (.ae (.aw bK (.aw bK (.aw bK bK))))),.bool,λx=>H.iN x.1/\H.iN x.2.1/\H.iW x.2.1 x.1,λ_=>true⟩
theorem aHQ(x):a_ (agN H.BV.sh H.BW.sh H.BX.sh H.BY.sh Jh.sh x) (JT.sh x):=bu λh=>by
 obtain⟨a,b,g,u,m,s⟩:=x;obtain⟨E,M,al⟩:=h;unfold agN cu cj;simp  [show ∀ y,H.BW.sh (a,y)=mpure (H.xV a y) from λy=>bO E _,show ∀ y,H.BW.sh (b,y)=mpure (H.xV b y) from λy=>bO M _,show ∀ y,H.BY.sh (a,y)=mpure (H.qL a y.1 y.2) from λy=>bO E _,show ∀ y,H.BY.sh (b,y)=mpure (H.qL b y.1 y.2) from λy=>bO M _,show ∀ y,H.BX.sh (a,y)=mpure (H.xW a y) from λy=>bO E _,show ∀ y,H.BX.sh (b,y)=mpure (H.xW b y) from λy=>bO M _,show ∀ y,H.BV.sh (a,y)=mpure (H.zf a y) from λy=>bO E _,show ∀ y,H.BV.sh (b,y)=mpure (H.zf b y) from λy=>bO M _,al.aHz,al.aHA,al.ke,al.aHy];have:=ah2 b u m;rw[aCN (by omega)];simp
end Go.Fer.W
namespace Go.Fer
abbrev JU:aQ:=⟨.dc,.bool,λ_=>True,λ_=>true⟩
theorem aHR:zD W.Fg.1 true=(1600,0):=by decide +kernel
theorem aHS(x):a_ (aky Pq.sh E9.sh W.Oq.sh x) (JU.sh x):=bu λ_=>by
 unfold aky;have D:Pp [34,97,120,70,10,33,99,32,100,10,35,69,98,43,10,10]=([[97,98],[99]],[0],0):=by
  rfl
 rw[show Pq.sh [34,97,120,70,10,33,99,32,100,10,35,69,98,43,10,10]=mpure ([[97,98],[99]],[0],0) from (bO (show ([34,97,120,70,10,33,99,32,100,10,35,69,98,43,10,10]).length<65536 by decide) _).trans (congrArg mpure D),aP,show W.Oq.sh ()=mpure W.Fg from rfl,aP,show E9.sh W.Fg.1=mpure (1600,0) from (bO W.aCS.1 _).trans (congrArg mpure aHR)];simp
theorem aHT:JU.sh ()=mpure true:=bO trivial _
theorem aHU:∀ (u:Nat),∀ b∈Go.Lib.decDigits u,f' b=true:=by
 intro u;induction u using Nat.strongRecOn with
 | ind u aR=>
  intro b U;rw[W.Px]at U;rcases List.mem_append.1 U with h | h
  ·grind
  ·simp  at h;subst h;unfold f';simp;omega
theorem PB:∀ (l:z1') (w:bc),w.all f'=true->(∀ n∈l,0<=n)->(W.rQ w l).all f'=true
 | [],w,hw,_=>hw
 | n::l,w,hw,h=>by
  refine PB l (w++([32]++W.ny n)) ?_ λm hm=>h m (by grind);have:=h n (by simp);rw[List.all_append,hw];unfold W.ny;rw[if_neg (by omega)];simp;exact⟨by decide,aHU _⟩
theorem aHV{d:bD}(ay:W.eQ d):∀ t∈W.lI d.2,gP t:=λt aH=>by
 have G:=ay.Fe;have ag:=λn aA=>H.pS.1 (G.fA n aA);unfold W.lI at aH;rw[aRH]at aH;rcases aH with aH | aH
 ·obtain⟨n,aA,rfl⟩:=List.mem_map.1 aH;exact⟨am5 (W.CR (n:=4) (by grind) (by decide)) (by simp),PB _ _ (by decide) (by grind)⟩
 ·obtain⟨s,h,rfl⟩:=List.mem_map.1 aH;obtain⟨aO,aT,b7,gZ,rh,uJ⟩:=W.XP ay.rO h;unfold W.yn;split
  ·exact⟨am5 (W.CR (n:=4) (by grind) (by decide)) (by simp),PB _ _ (by decide) (by grind)⟩
  ·exact⟨am5 (W.CR (n:=4) (by grind) (by decide)) (by simp),PB _ _ (by decide) (by grind)⟩
theorem am'(x:bD×z4'×Int×Int×Int×Int)(E:h0 x.1.1)(M:H.nC x.1.2) :
  Xu W.Ji.sh W.vc.sh FE.sh W.JP.sh JU.sh W.JS.sh JN.sh W.JO.sh H.iU.sh W.JT.sh x=mpure true:=by
 obtain⟨d,x,f⟩:=x;unfold Xu;rw[W.aHt E M,aP,show W.vc.sh d=mpure (W.pc d) from bO ⟨E,M⟩ _,ov,aP,aHT];by_cases hc:W.ye d []=false/\W.pc d=0
 ·obtain⟨aC,he⟩:=hc;obtain⟨ay,_⟩:=W.aHu E M aC he;rw[if_neg (by grind)];have G:=ay.Fe;obtain⟨cn,cN,au⟩:=W.aHL ay;have aZ:=W.aHN ay;have b8:=aHV ay;have U:∀ t∈W.lI d.2,t.length<=10000:=λt aH=>by have:=(b8 t aH).1;omega
  have XT:(W.lI d.2).length<=40:=by
   have:=G.ej;have:=G.jJ;grind [W.lI]
  rw[show W.JS.sh d.2=mpure (W.lI d.2) from bO ay.rO _,aP,show JN.sh (W.lI d.2,x)=mpure (if x.length > 10 then ([],false) else FF (mz (k7 (W.lI d.2)) x)) from bO ⟨b8,XT⟩ _,aP];by_cases an:x.length > 10
  ·simp_all
  ·rw[if_neg an];cases hm:(FF (mz (k7 (W.lI d.2)) x)).2 with
   | false=>simp
   | true=>
    obtain⟨m1,m2⟩:=aHg hm;obtain⟨cs,h⟩:=aG7 b8 m1;have JJ:(mz (k7 (W.lI d.2)) x).2.1=Pw cs:=by rw[h.val]
    rw[JJ]at m2;have tf:∀ k,(sI k cs).length<=1:=λk=>by rw[<-aG5];exact aHh m2 _
    rw[if_neg (by decide),W.aHs ay,aP];have D:FE.sh ((d.1,d.2.1,[],[],d.2.2.2.2),(FF (mz (k7 (W.lI d.2)) x)).1)=_:=(aHf au b8 XT h tf).trans (W.aCT au XT U);rw[D];have aj:=W.aCC (W.aie au) U;have ai:=W.aBT (W.lF (d.1,H.fJ d.2 [] [])) (W.lI d.2);rw[cN]at aj ⊢;generalize (W.mw (W.lF (d.1,H.fJ d.2 [] [])) (W.lI d.2)).1=a at *
    have mT:W.JO.sh (a,((W.lI d.2).length))=mpure true:=bO ⟨cn,by grind,by grind⟩ _;have c6:H.iU.sh (H.fJ d.2 (H.eg d.2.2.1) (H.h' [] d.2.2.2.1))=mpure 0:=by
     have e:H.iU.sh (H.fJ d.2 (H.eg d.2.2.1) (H.h' [] d.2.2.2.1))=mpure (H.c_ (H.fJ d.2 (H.eg d.2.2.1) (H.h' [] d.2.2.2.1))):=bO aj.nC _;rw[e,aj.rO]
    have cM:W.JT.sh (H.fJ d.2 (H.eg d.2.2.1) (H.h' [] d.2.2.2.1),d.2,f)=mpure true:=bO ⟨aj.iN,ay.iN,aZ⟩ _;simp_all
 simp_all
end Go.Fer
namespace Go.Fer.Sk
open Go.Proofs Go.Proofs.Tryz
set_option maxRecDepth 100000
noncomputable section
abbrev ad:cZ:=.fe
abbrev S(a b:cZ):cZ:=.seq a b
abbrev ct:cZ:=S ad ad
abbrev C(a b:cZ):cZ:=.cond a b
abbrev B(a:cZ):cZ:=.block a
abbrev J(s:List (Nat×cf))(b:List (Nat×cc))(x y:cZ):cZ:=.join ⟨s,b⟩ x y
abbrev W(s:List (Nat×cf))(b:List (Nat×cc))(x:cZ):cZ:=.loop ⟨s,b⟩ x
abbrev cr(s:List (Nat×cf))(b:List (Nat×cc))(t:List (Nat×cf))(c:List (Nat×cc))(u:List (Nat×cf))(d:List (Nat×cc))(x y:cZ):cZ:=.range ⟨s,b⟩ ⟨t,c⟩ ⟨u,d⟩ x y
abbrev X(s:List (Nat×cf))(b:List (Nat×cc))(x:cZ):cZ:=S ad (B (W s b x))
abbrev K(s:List (Nat×cf))(b:List (Nat×cc))(x y:cZ):cZ:=S ad (J s b x y)
abbrev bG(n:Nat):cf:=.eZ n 0
abbrev ao:cf:=.val bX
abbrev b1:cc:=.bo bX
abbrev qZ:cf:=.val hd
abbrev aHW:cf:=.val e5
abbrev gl:cc:=.bo e5
abbrev lb:cf:=.val kM
abbrev fK:cc:=.bo kM
abbrev q0:cf:=.val HY
abbrev sJ:cf:=.val HZ
abbrev tR:cf:=.val Mu
abbrev XU:cc:=.gE qB
abbrev eX:cf:=.val gy
abbrev JV:cc:=.bo gy
abbrev CU:cf:=.val Mv
abbrev FG:cf:=.val Mw
abbrev sK:cf:=.val H2
abbrev FH:cc:=.gE t32
abbrev nA:cf:=.val ti
abbrev sL:cf:=.val qC
abbrev alc:cc:=.gE Tc
abbrev FI:cc:=.gE wY
abbrev JW:cc:=.gE Ad
abbrev l6:cf:=.val nS
abbrev FJ:cc:=.bo Ka
abbrev XV:cc:=.bo BC
abbrev ald:cc:=.gE BC
abbrev aHX:cf:=.val ach
abbrev PC:cc:=.bo uR
abbrev JX:cc:=.gE uR
abbrev ale:cf:=.val rB
abbrev z7:cc:=.bo rB
abbrev aHY:cf:=.val my
abbrev alf:cc:=.bo my
abbrev aHZ:cf:=.val Te
abbrev JY:cc:=.gE tj
abbrev XW:cc:=.bo y6
abbrev z8:cc:=.bo uQ
abbrev aH0:cc:=.gE uQ
abbrev alg:cf:=.val ly
abbrev z_:cc:=.bo ly
abbrev mR:cf:=.val rC
abbrev aH1:cf:=.val acp
abbrev alh:cf:=.val acq
abbrev JZ:cf:=.val D7
abbrev FK:cf:=.val FA
abbrev J0:cc:=.bo FA
abbrev ali:cc:=.gE Td
abbrev FL:cc:=.bo D5
abbrev alj:cc:=.gE D5
abbrev aH2:cf:=.val Mt
abbrev J1:cc:=.bo y5
abbrev alk:cc:=.bo D6
abbrev alm:cc:=.gE D6
abbrev XX:cf:=.val y7
abbrev aln:cf:=.val acs
abbrev alo:cf:=.val sa
abbrev J2:cc:=.bo sa
abbrev aH3:cf:=.val acu
abbrev XY:cf:=.val Th
abbrev iO:cc:=.bo tk
abbrev CV:cc:=.gE tk
abbrev alp:cf:=.val Tf
abbrev alq:cf:=.val Tg
abbrev aH4:cf:=.val Tk
abbrev XZ:cf:=.val Tl
abbrev alr:cf:=.val acv
abbrev FM:cf:=.val My
abbrev J3:cf:=.val acw
abbrev aH5:cf:=.val acx
abbrev aH6:cf:=.val acA
abbrev aH7:cf:=.val acB
abbrev FN:cf:=.val acC
abbrev aH8:cf:=.val acD
abbrev aH9:cf:=.val acF
abbrev aH_:cf:=.val acG
abbrev PD:cf:=.val H5
abbrev p0:List (Nat×cf):=[(6,bG 17),(56,.fG [30000,30001,30002,30003,30004,30005,30006,30007,30008,30009]),(57,ao)]
abbrev p_:List (Nat×cf):=[(1,bG 1)]
abbrev als:List (Nat×cf):=[(1,bG 1),(2,bG 2),(3,bG 1),(38,ao),(39,ao)]
abbrev alu:List (Nat×cf):=[(2,bG 2),(7,bG 22),(8,bG 8),(9,bG 9),(10,.own 10),(11,bG 11),(24,q0),(25,ao),(26,ao)]
abbrev alv:List (Nat×cf):=[(2,bG 2),(3,bG 3),(4,.own 4),(5,.own 5),(7,XX),(8,ao),(9,ao),(23,ao),(29,XY),(30,ao),(31,ao)]
abbrev wW:List (Nat×cf):=[(1,bG 1),(3,ao)]
abbrev alw:List (Nat×cf):=[(2,bG 2),(7,bG 30),(10,ao),(11,ao),(46,ao),(47,ao),(52,sJ),(53,ao),(54,ao),(61,ao),(62,ao)]
abbrev aH':List (Nat×cf):=[(1,bG 1),(2,bG 2),(3,bG 1),(5,.ke 22),(38,ao),(39,ao),(60,ao),(61,ao)]
abbrev alx:List (Nat×cf):=[(0,mR),(1,eX),(2,ao),(3,.iw),(9,ao),(29,CU),(30,ao),(31,ao),(1000000,.aS gy)]
abbrev aly:List (Nat×cf):=[(0,mR),(1,.own 200001),(2,sK),(3,ao),(4,.hq 100002),(16,nA),(17,ao),(18,ao)]
abbrev X0:List (Nat×cf):=[(1,bG 1),(2,bG 2)]
abbrev alz:List (Nat×cf):=[(2,bG 2),(3,bG 3),(4,.own 4),(5,.own 5),(7,XX),(8,ao),(9,ao),(23,ao)]
abbrev alA:List (Nat×cf):=[(2,bG 2),(7,bG 30),(10,ao),(46,ao),(47,ao),(52,sJ),(53,ao),(54,ao)]
abbrev alB:List (Nat×cf):=[(0,FK),(3,bG 3),(4,.own 4),(5,.own 5),(13,FK),(14,ao),(15,ao)]
abbrev alC:List (Nat×cf):=[(0,.iw),(2,.eL y7),(10,alq),(11,ao),(1000000,.aS (.aw ly bX))]
abbrev X1:List (Nat×cf):=[(1,bG 1),(2,bG 2),(3,bG 3),(4,ao)]
abbrev alD:List (Nat×cf):=[(2,ao),(6,bG 6),(8,bG 8),(9,qZ),(17,alp),(18,ao),(19,ao)]
abbrev alE:List (Nat×cf):=[(4,bG 4),(5,bG 5),(10,.hq 24),(28,XY),(29,ao),(30,ao)]
abbrev alF:List (Nat×cf):=[(2,bG 2),(3,bG 3),(4,.own 4),(5,.own 5),(7,XX),(23,ao)]
abbrev FO:List (Nat×cf):=[(1,bG 1),(5,ao)]
abbrev alG:List (Nat×cf):=[(0,alr),(1,ao),(2,ao),(3,ao),(9,ao),(18,eX),(19,ao),(20,ao)]
abbrev alH:List (Nat×cf):=[(0,FK),(3,bG 3),(4,.own 4),(5,.own 5),(40,ao),(41,ao)]
abbrev alI:List (Nat×cf):=[(1,ao),(6,mR),(8,.own 8),(9,.own 50260),(29,ao),(30,ao)]
abbrev alJ:List (Nat×cf):=[(1,l6),(2,bG 2),(5,ao),(6,ao),(7,ao),(8,ao),(10,ao)]
abbrev PE:List (Nat×cf):=[(1,bG 1),(3,ao),(4,ao)]
abbrev alK:List (Nat×cf):=[(1,aH3),(4,bG 4),(5,qZ),(13,XY),(14,ao),(15,ao)]
abbrev alL:List (Nat×cf):=[(0,mR),(1,sK),(5,.own 50140),(6,ao),(16,ao),(17,ao)]
abbrev lJ:List (Nat×cc):=[(17,.cells H4 [eX,.own 30000,.own 30001,.own 30002,.own 30003,.own 30004,.own 30005,.own 30006,.own 30007,.own 30008,.own 30009]),(30000,iO),(30001,iO),(30002,iO),(30003,iO),(30004,iO),(30005,iO),(30006,iO),(30007,iO),(30008,iO),(30009,iO),(100000,.cells uS [nA,sL,eX,nA,ao,ao,ao,ao,ao,ao,ao,sL,.own 100002]),(100002,J2)]
abbrev wX:List (Nat×cc):=[(12,CV),(17,.cells H4 [eX,.own 30000,.own 30001,.own 30002,.own 30003,.own 30004,.own 30005,.own 30006,.own 30007,.own 30008,.own 30009]),(30000,iO),(30001,iO),(30002,iO),(30003,iO),(30004,iO),(30005,iO),(30006,iO),(30007,iO),(30008,iO),(30009,iO),(100000,.cells uS [nA,sL,eX,nA,ao,ao,ao,ao,ao,ao,ao,sL,.own 100002]),(100002,J2)]
abbrev PF:List (Nat×cc):=[(1,.cells t32 [.own 17,.own 22,ao,.own 27,.own 84,.own 87,.own 90,.own 93,ao]),(2,.cells t32 [.dd,.dd,ao,.dd,.dd,.dd,.dd,.dd,ao]),(17,FL),(22,J1),(27,FJ),(84,b1),(87,XV),(90,XW),(93,z8)]
abbrev alM:List (Nat×cc):=[(1,.cells t32 [.own 17,.own 22,ao,.own 27,eX,CU,FG,sK,ao]),(2,.cells t32 [.dd,.dd,ao,.dd,.dd,.dd,.dd,.dd,ao]),(17,FL),(22,.ie y5 (.own 50530)),(27,FJ),(50530,alk)]
abbrev z':List (Nat×cc):=[(2,FH),(28,.mp uQ bX),(30,.cells H3 [q0,sJ,ao,tR,eX,CU,FG,sK,ao,.dd,.hq 28])]
abbrev alN:List (Nat×cc):=[(1,.cells t32 [.own 17,.own 22,ao,.own 27,eX,CU,FG,sK,ao]),(2,.cells t32 [.dd,.dd,ao,.dd,.dd,.dd,.dd,.dd,ao]),(17,FL),(22,J1),(27,FJ)]
abbrev X2:List (Nat×cc):=[(1,FH),(2,.cells t32 [.dd,.dd,ao,.dd,.dd,.dd,.dd,.dd,ao]),(3,.cells t32 [q0,sJ,ao,tR,.own 11,.own 16,.own 20,.own 24,ao]),(11,b1),(16,XV),(20,XW),(24,z8)]
abbrev alO:List (Nat×cc):=[(1,XU),(2,.cells qB [.dd,.dd,ao,.dd]),(3,.cells qB [.own 8,.own 59,ao,.own 12]),(5,.cells y5 [.own 26]),(8,FL),(12,FJ),(26,alk),(59,J1)]
abbrev alP:List (Nat×cc):=[(4,fK),(5,.cells Ad [.dd,.dd,ao,.dd,.dd,.dd,.dd,.dd,ao,.dd,.dd,.dd,.dd,ao,ao,ao,ao,ao,ao,ao]),(50230,JY)]
abbrev FP:List (Nat×cc):=[(3,JX),(4,b1),(5,b1),(140000,.bU e5)]
abbrev J4:List (Nat×cc):=[(3,.cells qD [.hS 3,.own 30000]),(30000,gl)]
abbrev alQ:List (Nat×cc):=[(1,XU),(2,.cells qB [.dd,.dd,ao,.dd]),(3,.cells qB [.own 8,.own 59,ao,.own 12]),(8,FL),(12,FJ),(59,J1)]
abbrev FQ:List (Nat×cc):=[(2,FI),(3,.ix bX),(4,b1),(5,b1)]
abbrev alR:List (Nat×cc):=[(2,FH),(28,.mp uQ bX),(30,.cells H3 [q0,sJ,ao,tR,eX,CU,FG,sK,ao,.own 109,.hq 28]),(109,PC)]
abbrev alS:List (Nat×cc):=[(28,.mp uQ bX),(30,.cells H3 [q0,sJ,ao,tR,eX,CU,FG,sK,ao,.own 109,.hq 28]),(109,PC)]
abbrev alT:List (Nat×cc):=[(100000,.cells uS [nA,sL,eX,nA,ao,ao,ao,ao,ao,ao,ao,sL,.own 100002]),(100002,J2)]
abbrev X3:List (Nat×cc):=[(4,fK),(5,.cells qD [.hS 5,.own 30000]),(30000,gl)]
abbrev qa:List (Nat×cc):=[(1,XU)]
abbrev q1:List (Nat×cc):=[(1,FI)]
abbrev alU:List (Nat×cc):=[(2,.ix qB),(22,.cells BD [q0,sJ,ao,tR,.own 61]),(61,JV)]
abbrev alV:List (Nat×cc):=[(100010,JX),(100011,.cells my [aHY]),(140000,.bU e5)]
abbrev X4:List (Nat×cc):=[(3,b1),(50150,J0),(140000,.bU e5)]
abbrev tS:List (Nat×cc):=[(1,FH)]
abbrev X5:List (Nat×cc):=[(100002,.mp bX bX),(200001,b1)]
abbrev bQ:cZ:=S ad (C ct ad)
abbrev eR:cZ:=C ad ad
abbrev aF:cZ:=S ad eR
abbrev bB:cZ:=S ad (S eR (S (B ct) ad))
abbrev ph:cZ:=S ad bQ
abbrev c7:cZ:=S ad (S eR (S (B ph) ad))
abbrev bW:cZ:=S ad ct
abbrev gS:cZ:=S ad (S ad (K X0 alN (X als alN (S ad (S eR (J als alM (B (S ad (S ad (S (.oW 5 ad) (X aH' alM bB))))) (.LD 22 ad))))) (K X0 PF (X [(1,bG 1),(2,bG 2),(100,ao),(101,ao)] PF bB) (J X0 PF (X [(1,bG 1),(2,bG 2),(119,ao),(120,ao)] PF bB) ct))))
abbrev kU:cZ:=K [(0,eX),(1,ao)] [] aF (K [(0,eX),(6,J3)] [] aF (S ad (K [(7,.own 30)] [(30,b1)] (B (W [(7,.own 30),(8,ao)] [(30,b1)] (S aF (B ad)))) ct)))
abbrev jn:cZ:=S aF (S (B bQ) ad)
abbrev alW:cZ:=S ad (K [(4,.hq 12)] [(12,.mp bX ly)] (X [(4,.hq 12),(13,sL),(14,ao),(15,ao)] [(12,.mp bX ly)] (S ad (S eR (S (B (S ad (S ph ad))) ad)))) (K [(9,.own 9)] [(9,z_)] (X [(4,.hq 12),(9,.own 9),(39,eX),(40,ao),(41,ao)] [(9,z_),(12,.lh bX ly)] bB) ct))
abbrev l7:cZ:=S ad (S bQ ct)
abbrev qb:cZ:=S ad (S ad bW)
abbrev tT:cZ:=S aF (S (B ad) ad)
abbrev alX:cZ:=S ad (K [(7,.own 7)] [(7,gl)] (X [(1,ao),(7,.own 7),(15,JZ),(16,ao),(17,ao)] [(7,gl)] bB) ct)
abbrev Aa:cZ:=B (S ad (S ad aF))
abbrev FR:cZ:=S ad (S ad (S bQ bW))
abbrev J5:cZ:=S aF (S (B ph) ad)
abbrev vm:cZ:=B (S ad aF)
abbrev PG:cZ:=S ad (S eR (S (B bW) ad))
abbrev alY:cZ:=K [] [] (X [(0,eX),(3,ao)] [] jn) ct
abbrev alZ:cZ:=X [(1,bG 1),(4,ao)] tS jn
abbrev al0:cZ:=S ad (S ad (S ad (S ad (S ad (S ad qb)))))
abbrev X6:cZ:=S ad (S bQ (S bQ ct))
abbrev al1:cZ:=S ad (S (S ad (B (S ad (C ct bQ)))) ct)
abbrev nB:=cO.mk ⟨[(0,bG 100000),(1,.val gy)],[(100000,.gE tj)]⟩ ⟨[(0,.val kM)],[(100000,.gE tj)]⟩ [none] 2
def aIa:=mk aGk func192 dC bW ayR
def aIb:=mk aIa func114 H.dC bW H.av6
def aIc:=mk aIb func113 H.y' bW H.av_
def aId:=mk aIc func115 H.BO l7 H.awa
def aIe:=mk aId func54 H.zb (S ad (S bQ (J p_ q1 (X wW q1 jn) (J p_ q1 (X [(1,bG 1),(4,ao)] q1 jn) (J p_ q1 (X FO q1 jn) (J [] [] (X [(1,bG 1),(6,ao)] q1 J5) ct)))))) H.awI
def aIf:=mk aIe func55 H.M0 bW H.awf
def T1:=mk aIf func22 H.iU (S ad (S bQ (J [] [] (X wW q1 (S aF (J wW q1 (B (X PE q1 jn)) ad))) ct))) H.awK
def aIg:=mk T1 func211 rI bW ayW
def aIh:=mk aIg func268 x2 alY ayX
def aIi:=mk aIh func212 wy (K p_ [(1,alm)] (X wW [(1,alm)] jn) ct) ayZ
def aIj:=mk aIi func213 sq bW ayS
def aIk:=mk aIj func269 ER bW ayU
def aIl:=mk aIk func214 u4 bW ayV
def aIm:=mk aIl func144 zp (S ad (S bQ (J p_ qa (X wW qa J5) (J p_ qa (X FO qa (S aF (J FO qa (B (S bQ (X [(1,bG 1),(5,ao),(6,ao)] qa jn))) ad))) (J [] [] (X [(1,bG 1),(7,ao)] qa J5) ct))))) ay1
def aIn:=mk aIm func71 iU (S ad (S bQ (J [] [] (X wW qa (S aF (J wW qa (B (X PE qa J5)) ad))) ct))) ay3
def aIo:=mk aIn func72 dC bW azS
def aIp:=mk aIo func145 NG (K [] [] (X [(0,eX),(1,ao),(5,ao)] [] jn) ct) azW
def aIq:=mk aIp func73 NI l7 az5
def aIr:=mk aIq func74 Vk bW az6
def aIs:=mk aIr func32 sw (S ad (S ph (S bQ (J p_ tS alZ (J p_ tS (X FO tS jn) (J p_ tS (X [(1,bG 1),(6,ao)] tS jn) (J [] [] (X [(1,bG 1),(7,ao)] tS J5) ct))))))) az7
def k2:=mk aIs func8 W.vc l7 W.aCF
def aIt:=mk k2 func67 zk (S ad (S bQ (J p_ qa (X wW qa (S aF (J wW qa (B (S bQ (X PE qa jn))) ad))) (S bQ (J p_ qa (X FO qa jn) ct))))) azO
def aIu:=mk aIt func29 N4 (S ad (S bQ (J p_ tS (X wW tS jn) (J p_ tS alZ (S bQ (K FO tS (X [(1,bG 1),(5,ao),(6,ao)] tS tT) ct)))))) aBq
def aIv:=mk aIu func30 H.zk (S ad (S bQ (S bQ (K [(3,ao)] [] (X PE q1 tT) ct)))) H.ayq
def aIw:=mk aIv func68 W.Ou (S ad (K [(3,.own 5)] [(5,fK)] (X [(0,lb),(3,.own 5),(4,ao)] [(5,fK)] (S aF (J [(0,lb),(3,.own 5),(4,ao)] [(5,fK)] (B aF) ad))) ct)) W.aCI
def aIx:=mk aIw func69 W.Ot (S ad (S bQ (K [(3,ao)] [] (X [(0,lb),(3,ao),(4,ao)] [] (S aF (S (B (S bQ ad)) ad))) ct))) W.aCH
def aIy:=mk aIx func70 W.Ov (S ad qb) W.aCJ
def aIz:=mk aIy func31 W.Ox (S ad (K [(3,.own 3),(5,l6)] [(3,b1)] (X [(3,.own 3),(5,l6),(6,ao)] [(3,b1)] (S aF (S (B (S ad (S bQ ad))) ad))) (K [] [] (X [(3,.own 3),(5,l6),(8,l6),(9,eX),(10,eX),(11,ao)] [(3,b1)] jn) ct))) W.aCK
def h8:=mk aIz func7 W.Ji (S ad (S bQ (K [(1,l6),(2,bG 2),(5,ao),(6,ao),(7,ao),(8,ao)] [(2,JW)] (X [(1,l6),(2,bG 2),(5,ao),(6,ao),(7,ao),(8,ao),(9,ao)] [(2,JW)] tT) (J [(2,bG 2),(5,ao),(6,ao),(7,ao),(8,ao)] [(2,JW)] (X alJ [(2,JW)] (S aF (J alJ [(2,JW)] (B (S bQ (S ad (B (S ad (C ad (S ad (C ad (S ad (C ct aF)))))))))) ad))) ct)))) W.aCQ
def aIA:=mk h8 func342 (k3 l1) (K [] [] (X [(0,tR),(1,aH8),(7,ao),(8,ao)] [] c7) ct) (tt l1)
def aIB:=mk aIA func313 (h_ l1) bW (tu l1)
def aIC:=lA aIB [] func314 (zu l1) 1 bW (IN l1)
def aID:=nT aIC [(314,1)] func263 (lE l1) bW (IP l1)
def aIE:=mk aID func264 dC bW aza
def aIF:=mk aIE func274 B7 bW azc
def aIG:=mk aIF func275 rI bW azb
def aIH:=mk aIG func273 Nv bW azj
def aII:=mk aIH func284 (k3 bK) (K [] [] (X [(0,eX),(1,aln),(7,ao),(8,ao)] [] c7) ct) (tt bK)
def aIJ:=mk aII func233 (h_ bK) bW (tu bK)
def aIK:=lA aIJ [] func320 (zu bK) 1 bW (IN bK)
def aIL:=nT aIK [(320,1)] func277 (lE bK) bW (IP bK)
def aIM:=mk aIL func278 x2 alY azf
def aIN:=nT aIM [] func276 wy bW azk
def aIO:=mk aIN func345 (k3 tC) (K [] [] (X [(0,aH2),(1,aH5),(7,ao),(8,ao)] [] c7) ct) (tt tC)
def aIP:=mk aIO func321 (h_ tC) bW (tu tC)
def aIQ:=lA aIP [] func322 (zu tC) 1 bW (IN tC)
def aIR:=nT aIQ [(322,1)] func280 (lE tC) bW (IP tC)
def aIS:=lA aIR [] func279 EW 1 bW azl
def aIT:=mk aIS func206 sq bW azd
def aIU:=mk aIT func207 u4 bW aze
def aIV:=lA aIU [] func281 EX 1 bW azm
def aIW:=mk aIV func346 (k3 mL) (K [] [] (X [(0,q0),(1,aH9),(7,ao),(8,ao)] [] c7) ct) (tt mL)
def aIX:=mk aIW func323 (h_ mL) bW (tu mL)
def aIY:=lA aIX [] func324 (zu mL) 1 bW (IN mL)
def aIZ:=nT aIY [(324,1)] func282 (lE mL) bW (IP mL)
def aI0:=mk aIZ func347 (k3 np) (K [] [] (X [(0,sJ),(1,aH_),(7,ao),(8,ao)] [] c7) ct) (tt np)
def aI1:=mk aI0 func325 (h_ np) bW (tu np)
def aI2:=lA aI1 [] func326 (zu np) 1 bW (IN np)
def aI3:=nT aI2 [(326,1)] func283 (lE np) bW (IP np)
def aI4:=nT aI3 [(279,1),(281,1)] func224 zp (S ad (S ad qb)) azn
def aI5:=mk aI4 func160 iU (S ad (S bQ (K [] [] (X [(3,.hq 12),(14,tR),(15,ao),(16,ao)] [(12,.mp uQ bX)] (S ad (S eR (S (B (S ad (S ad (S ph ad)))) ad)))) ct))) azr
def aI6:=mk aI5 func210 dC bW azR
def aI7:=mk aI6 func226 u7 bW azT
def aI8:=mk aI7 func227 NF (K [] [] (X [(0,eX),(1,aln),(7,eX),(8,ao),(9,ao)] [] c7) ct) azV
def aI9:=lA aI8 [] func228 Vi 1 bW azY (hc:=λx h=>by obtain⟨w,p,aC,_⟩:=h;exact uT ⟨⟨trivial,tl (congrArg (λo=>o.1) aC)⟩,tl (congrArg (λo=>o.2) aC)⟩)
def aI_:=lA aI9 [(228,1)] func225 IU 1 bW azZ (hc:=λx h=>by obtain⟨_,w,aC,_⟩:=h;exact uT ⟨trivial,tl aC⟩)
def aI':=mk aI_ func230 u7 bW azU
def aJa:=nT aI' [] func229 IV bW az0
def aJb:=lA aJa [] func231 IW 1 bW az1 (hc:=λx h=>by obtain⟨w,aC,_⟩:=h;exact uT ⟨trivial,tl aC⟩)
def aJc:=mk aJb func232 IX bW az2
def aJd:=mk aJc func285 (k3 pX) (K [] [] (X [(0,CU),(1,aH6),(7,ao),(8,ao)] [] c7) ct) (tt pX)
def aJe:=mk aJd func234 (h_ pX) bW (tu pX)
def aJf:=mk aJe func286 (k3 pY) (K [] [] (X [(0,FG),(1,aH1),(7,ao),(8,ao)] [] c7) ct) (tt pY)
def aJg:=mk aJf func235 (h_ pY) bW (tu pY)
def aJh:=mk aJg func287 (k3 sv) (K [] [] (X [(0,sK),(1,aH7),(7,ao),(8,ao)] [] c7) ct) (tt sv)
def aJi:=mk aJh func236 (h_ sv) bW (tu sv)
def aJj:=nT aJi [(225,1),(231,1)] func161 Vj (S ad (S ad (S ad qb))) az3
def aJk:=mk aJj func83 sw (S ad (S ph (S bQ ct))) az4
def aJl:=mk aJk func124 H.dC bW H.av7
def aJm:=mk aJl func257 (H.k3 H.i') (K [] [] (X [(0,sL),(1,XZ),(7,ao),(8,ao)] [] c7) ct) H.awg
def aJn:=mk aJm func202 (H.h_ H.i') bW H.awh
def aJo:=mk aJn func237 H.y' (K p_ [(1,alc)] (X [(1,bG 1),(13,.own 13),(14,ao),(15,ao)] [(1,alc),(13,b1)] c7) ct) H.av'
def aJp:=mk aJo func118 H.El bW H.av9
def aJq:=mk aJp func239 H.BO (S ad bW) H.awb
def aJr:=lA aJq [] func238 H.Ij 1 bW H.awc
def aJs:=mk aJr func240 H.Em bW H.awd
def X7:=nT aJs [(238,1)] func162 H.zb (S ad (S bQ (J p_ q1 (X [(1,bG 1),(38,nA),(39,ao),(40,ao)] q1 c7) (J p_ q1 (X [(1,bG 1),(57,nA),(58,ao),(59,ao)] q1 c7) (S ad bW))))) H.awJ
def al2:cO:=⟨⟨[(0,.dd),(1,.val Ti)],[]⟩,⟨[(0,.own 50000)],[(50000,.bo bX)]⟩,[none],2,H.Er⟩
theorem aJt:cW Tryz.prog dV 260 al2:=ey X7 [] trivial func260 (S ad (S (S ad (B (cr [(2,bG 2)] [(2,.cells gy [.own 50000]),(50000,b1)] [(2,bG 100002),(7,ao)] [(100002,.cells gy [.own 150000]),(150000,b1)] [] [(100002,.cells gy [.own 150000]),(150000,b1)] ad (B ad)))) ct)) H.awC
def al3:cO:=⟨⟨[(0,.val Ti)],[]⟩,⟨[(0,.own 50040)],[(50040,.bo bX)]⟩,[none],1,H.Er⟩
theorem aJu:cW Tryz.prog dV 199 al3:=ey X7 [(260,.eE al2)] ⟨aJt,trivial⟩ func199 bW H.awD
def X8:=nU X7 lz [(166,.eE WA),(199,.eE al3)] ⟨aiL,aJu,trivial⟩ func127 H.wh qb H.awE
def al4:cO:=⟨⟨[(0,.iw),(1,.eL Mz),(1000000,.aS bX)],[]⟩,⟨[(1000000,.aS bX)],[]⟩,[],2,H.T_⟩
theorem aJv:cW Tryz.prog dV 288 al4:=ey (S:=H.T_) X8 [] trivial func288 (X [(0,.iw),(5,.l9 5),(1000000,.aS bX)] [(5,.cI bX ly)] (S ad (S eR vm))) (λx=>w0 _)
theorem aJw:yr Tryz.prog 288 ⟨[Mz],bX,H.lV⟩:=Mq (c:=al4) aJv lz (λx l ad=>(l,x.getD [],(l,ad,[],false),())) rfl (by decide) (by simp[h3])
 (λx l ad i an=>by
  obtain⟨T,aU⟩:=an;obtain⟨m,hm,_⟩:=aU;subst hm;by_cases aV:i=0
  ·subst aV;exact .inr (.inr (.inl ⟨rfl,rfl⟩))
  ·by_cases E:i=1
   ·subst E;exact .inr (.inl ⟨by decide,by decide,_,_,rfl,rfl⟩)
   by_cases M:i=cd
   ·subst M;exact .inr (.inr (.inr ⟨rfl,rfl⟩))
   ·refine .inl ?_;exact (if_neg aV).trans ((if_neg E).trans (if_neg M)))
 rfl (λbn=>⟨_,_,_,_,rfl⟩) (λx l an=>by
  obtain⟨T,aU⟩:=an;obtain⟨m,hm,_⟩:=aU;subst hm;have h:=H.axC l m;refine⟨h.1,λbn gN ev gj p fH=>?_⟩;have e:aN.aS bn.1.1 bX bn.1.2.1 bn.1.2.2.1 bn.1.2.2.2=.aS ev bX gj p false:=fH;injection e with aF bB c7 bW gS
  rw[<-bW];exact h.2 bn gN gS)
def aJx:=nU X8 (X8.u [] [(288,⟨[Mz],bX,H.lV⟩)] ⟨aJw,trivial⟩) [] trivial func241 H.Et bW H.awH
def aJy:=mk aJx func163 H.Ew alW H.awS
def aJz:=mk aJy func84 H.iU (S ad (S bQ (S ph ct))) H.awU
def aJA:=mk aJz func42 W.vc l7 W.aCy
def X9:=nU aJA lz [(242,.eE aiN)] ⟨aDz,trivial⟩ func164 H.N9 (S ad (K [(0,FN),(3,ao)] [] (X [(0,FN),(3,ao),(9,FN),(10,ao),(11,ao)] [] (S ad (S eR (J [(0,FN),(3,ao),(9,FN),(10,ao),(11,ao)] [] Aa ad)))) (K [(6,.own 50240)] [(50240,z_)] (X [(6,.own 50240),(25,FN),(26,ao),(27,ao)] [(50240,z_)] bB) ct))) H.aBz
def al5:cO:=⟨⟨[(0,.val My)],[]⟩,⟨[(0,.own 50240)],[(50240,.bo cU)]⟩,[none],1,H.N_⟩
theorem aJB:cW Tryz.prog dV 165 al5:=ey X9 [(243,.eE aiM)] ⟨aDy,trivial⟩ func165 (S ad (K [(0,FM),(3,ao)] [] (X [(0,FM),(3,ao),(9,FM),(10,ao),(11,ao)] [] (S ad (S eR (J [(0,FM),(3,ao),(9,FM),(10,ao),(11,ao)] [] Aa ad)))) (K [(6,.own 50240)] [(50240,b1)] (X [(6,.own 50240),(25,FM),(26,ao),(27,ao)] [(50240,b1)] bB) ct))) H.aBA
def al6:cO:=⟨⟨[(0,.own 200001)],[(200001,.bo cU)]⟩,⟨[(0,.sub 200001)],[(200001,.bo cU)]⟩,[none],1,H.N'⟩
theorem aJC:cW Tryz.prog dV 167 al6:=ey X9 [] trivial func167 (S ad (S bQ (J [(0,.own 200001)] [(200001,b1)] (X [(0,.own 200001),(3,ao)] [(200001,b1)] (S aF (J [(0,.own 200001),(3,ao)] [(200001,b1)] (B (S ad (C (K [(0,.own 200001),(3,ao)] [(200001,b1)] (X [(0,.own 200001),(3,ao),(4,.sub 200001),(5,ao)] [(200001,b1)] (S aF (J [(0,.own 200001),(3,ao),(4,.sub 200001),(5,ao)] [(200001,b1)] (B bQ) ad))) bW) ad))) ad))) ct))) H.aBG
def aJD:=mk X9 func168 H.I_ l7 H.aBN
def yo:=nU aJD lz [(165,.eE al5),(166,.eE WA),(167,.eE al6)] ⟨aJB,aiL,aJC,trivial⟩ func85 H.Fb (S ad (S ph (S ad (S ad (S ph (S ad (S bQ (S ad FR)))))))) H.aBP
def aJE:cO:=⟨⟨[(0,.val HY)],[]⟩,⟨[(0,.own 60)],[(60,.bo D5)]⟩,[none],1,W.tN⟩
theorem aJF:cW Tryz.prog dV 169 aJE:=ey yo [] trivial func169 l7 W.zJ
abbrev X_:gw:=.mI (jN.mI (W.hP mL).dL)
theorem al7:gw.j5 Tryz.prog dV 169 X_:=CB (sh:=(W.hP mL).sh) aJF (λx h=>⟨h,λbn gN=>by have h:bn=_:=gN;subst h;exact (iK).symm⟩)
def aJG:cO:=⟨⟨[(0,.val HZ)],[]⟩,⟨[(0,.own 60)],[(60,.bo y5)]⟩,[none],1,W.tN⟩
theorem aJH:cW Tryz.prog dV 170 aJG:=ey yo [] trivial func170 l7 W.zJ
abbrev X':gw:=.mI (jN.mI (W.hP np).dL)
theorem al8:gw.j5 Tryz.prog dV 170 X':=CB (sh:=(W.hP np).sh) aJH (λx h=>⟨h,λbn gN=>by have h:bn=_:=gN;subst h;exact (iK).symm⟩)
def aJI:cO:=⟨⟨[(0,.val Mu)],[]⟩,⟨[(0,.own 60)],[(60,.bo H0)]⟩,[none],1,W.tN⟩
theorem aJJ:cW Tryz.prog dV 171 aJI:=ey yo [] trivial func171 l7 W.zJ
abbrev Ya:gw:=.mI (jN.mI (W.hP l1).dL)
theorem al9:gw.j5 Tryz.prog dV 171 Ya:=CB (sh:=(W.hP l1).sh) aJJ (λx h=>⟨h,λbn gN=>by have h:bn=_:=gN;subst h;exact (iK).symm⟩)
def Yb:cO:=⟨⟨[(0,.val Mt)],[]⟩,⟨[(0,.own 60)],[(60,.bo D6)]⟩,[none],1,W.tN⟩
theorem al_:cW Tryz.prog dV 172 Yb:=ey yo [] trivial func172 l7 W.zJ
def al':cO:=⟨⟨[(0,.val gy)],[]⟩,⟨[(0,.own 60)],[(60,.bo cU)]⟩,[none],1,W.Od⟩
theorem ama:cW Tryz.prog dV 173 al':=ey yo [] trivial func173 l7 W.aCf
abbrev Yc:gw:=.mI (jN.mI H.wg.dL)
theorem amb:gw.j5 Tryz.prog dV 173 Yc:=CB (sh:=H.wg.sh) ama (λx h=>⟨h,λbn gN=>by have h:bn=_:=gN;subst h;exact (iK).symm⟩)
def aJK:cO:=⟨⟨[(0,.val Mv)],[]⟩,⟨[(0,.own 60)],[(60,.bo BC)]⟩,[none],1,W.tN⟩
theorem aJL:cW Tryz.prog dV 174 aJK:=ey yo [] trivial func174 l7 W.zJ
abbrev Yd:gw:=.mI (jN.mI (W.hP pX).dL)
theorem amc:gw.j5 Tryz.prog dV 174 Yd:=CB (sh:=(W.hP pX).sh) aJL (λx h=>⟨h,λbn gN=>by have h:bn=_:=gN;subst h;exact (iK).symm⟩)
def aJM:cO:=⟨⟨[(0,.val Mw)],[]⟩,⟨[(0,.own 60)],[(60,.bo y6)]⟩,[none],1,W.tN⟩
theorem aJN:cW Tryz.prog dV 175 aJM:=ey yo [] trivial func175 l7 W.zJ
abbrev PH:gw:=.mI (jN.mI (W.hP pY).dL)
theorem Ye:gw.j5 Tryz.prog dV 175 PH:=CB (sh:=(W.hP pY).sh) aJN (λx h=>⟨h,λbn gN=>by have h:bn=_:=gN;subst h;exact (iK).symm⟩)
def aJO:cO:=⟨⟨[(0,.val H2)],[]⟩,⟨[(0,.own 60)],[(60,.bo uQ)]⟩,[none],1,W.tN⟩
theorem aJP:cW Tryz.prog dV 176 aJO:=ey yo [] trivial func176 l7 W.zJ
abbrev Yf:gw:=.mI (jN.mI (W.hP sv).dL)
theorem amd:gw.j5 Tryz.prog dV 176 Yf:=CB (sh:=(W.hP sv).sh) aJP (λx h=>⟨h,λbn gN=>by have h:bn=_:=gN;subst h;exact (iK).symm⟩)
def ame:=nU yo lz [(169,X_),(170,X'),(171,Ya),(172,.eE Yb),(173,Yc),(174,Yd),(175,PH),(176,Yf)] ⟨al7,al8,al9,al_,amb,amc,Ye,amd,trivial⟩ func86 W.Og gS W.aCi
def amf:cO:=⟨⟨[(0,.val Ad)],[]⟩,⟨[(0,bG 17)],[(17,.gE tj)]⟩,[none],1,W.xY⟩
theorem aJQ:cW Tryz.prog dV 43 amf:=ey ame [] trivial func43 (S ad bW) W.UA
def J6:=mk ame func44 W.Om bW W.aCu
def PI:cO:=⟨⟨[(0,bG 100000),(1,.val qC),(2,.val gy)],[(100000,.gE tj)]⟩,⟨[(0,.val kM)],[(100000,.gE tj)]⟩,[none],3,W.Ff⟩
theorem Yg:cW Tryz.prog dV 177 PI:=ey J6 [] trivial func177 FR W.aBZ
def Yh:cO:=nB (W.gO 5 W.VX)
theorem aJR:cW Tryz.prog dV 87 Yh:=ey J6 [(177,.eE PI)] ⟨Yg,trivial⟩ func87 bW W.aB0
def aJS:cO:=nB (W.gO 4 W.VY)
theorem aJT:cW Tryz.prog dV 88 aJS:=ey J6 [(177,.eE PI)] ⟨Yg,trivial⟩ func88 bW W.aB1
def aJU:cO:=nB (W.gO 1 W.VZ)
theorem aJV:cW Tryz.prog dV 89 aJU:=ey J6 [(177,.eE PI)] ⟨Yg,trivial⟩ func89 bW W.UB
def aJW:=mk J6 func181 W.Ct (S ad (S bQ (K [(3,.own 3)] [(3,fK)] (X [(3,.own 3),(9,eX),(10,ao),(11,ao)] [(3,fK)] bB) ct))) W.aBV
def aJX:=mk aJW func180 W.tM al1 W.aBW
def aJY:=mk aJX func178 W.Cu bW W.aBX
def aJZ:=mk aJY func332 H.Ud bW H.awj
def aJ0:=mk aJZ func312 H.Ue (S ad (S ad (S ad (S (S ad (C (S bQ ct) ad)) (S bQ (S bQ (S bQ ct))))))) H.awk
def aJ1:=mk aJ0 func311 H.tv bW H.awl
def aJ2:=mk aJ1 func258 Nu (K [] [] (X [(0,eX),(1,ao),(7,ao),(8,ao)] [] c7) ct) azh
def aJ3:=mk aJ2 func195 sj bW azi
def J7:=lA aJ3 [] func194 H.ED 1 bW H.UB
abbrev CW:=Eb (auc J7) [(194,1)] []
def amg:cO:=⟨⟨[(0,.val qC)],[]⟩,⟨[(0,.own 9),(1,.val hd)],[(9,.bo ly)]⟩,[none,none],1,H.M7⟩
theorem aJ4:cW Tryz.prog CW 163 amg:=ey J7 [] trivial func163 alW H.awT
def amh:cO:=⟨⟨[(0,.own 200001),(1,.val Tl)],[(200001,.bo ly)]⟩,⟨[(0,.sub 200001)],[(200001,.bo ly)]⟩,[none],2,H.M9⟩
theorem aJ5:cW Tryz.prog CW 193 amh:=ey J7 [] trivial func193 (S ad (S ad (S bQ (J [(0,.own 200001),(5,ao)] [(200001,z_)] (X [(0,.own 200001),(1,XZ),(5,ao),(6,ao)] [(200001,z_)] (S aF (J [(0,.own 200001),(1,XZ),(5,ao),(6,ao)] [(200001,z_)] (B ph) ad))) bW)))) H.awV
def aJ6:=mk J7 func173 H.wg l7 H.awi
def aJ7:=mk aJ6 func299 H.Uf (K [(0,J3),(2,ao)] [] bQ (J [(0,J3),(2,ao)] [] bQ (J [(0,J3),(2,ao)] [] bQ ct))) H.awm
def FT:=mk aJ7 func245 H.Ug (S ad (S (C ct ad) ct)) (H.awn (λ_=>eb))
def ami:cO:=⟨⟨[(0,.own 200001),(1,.val bX),(2,.val bX),(3,.val H5)],[(200001,.bo tk)]⟩,⟨[],[(200001,.bo tk)]⟩,[],4,H.M3⟩
theorem aJ8:cW Tryz.prog CW 355 ami:=ey FT [] trivial func355 (X [(0,.own 200001),(1,ao),(2,ao),(3,PD),(8,ao)] [(200001,iO)] (S aF (J [(0,.own 200001),(1,ao),(2,ao),(3,PD),(8,ao)] [(200001,iO)] (B (X [(0,.own 200001),(1,ao),(2,ao),(3,PD),(8,ao),(9,ao)] [(200001,iO)] tT)) ad))) H.awy
def amj:cO:=⟨⟨[(0,.own 200001),(1,.val bX),(2,.val bX),(3,.val bX),(4,.val H5)],[(200001,.bo tk)]⟩,⟨[],[(200001,.bo tk)]⟩,[],5,H.M4⟩
theorem aJ9:cW Tryz.prog CW 341 amj:=ey FT [(355,.eE ami)] ⟨aJ8,trivial⟩ func341 (S ad (X [(0,.own 200001),(1,ao),(2,ao),(3,ao),(4,PD),(10,qZ),(11,qZ)] [(200001,iO)] (B (S ad (S bQ ad))))) H.awz
def amk:cO:=⟨⟨[(0,.own 200001),(1,.val H5)],[(200001,.bo tk)]⟩,⟨[],[(200001,.bo tk)]⟩,[],2,H.Ep⟩
theorem aJ_:cW Tryz.prog CW 310 amk:=ey FT [(341,.eE amj)] ⟨aJ9,trivial⟩ func310 ct H.awB
def aml:cO:=⟨⟨[(0,bG 100000),(1,.val gy)],[(100000,.cells uS [.val ti,.val qC,.val gy,.val ti,.val bX,.val bX,.val bX,.val bX,.val bX,.val bX,.val bX,.val qC,.own 100002]),(100002,.bo sa)]⟩,⟨[(0,.val sa),(1,.val hd)],[(100000,.cells uS [.val ti,.val qC,.val gy,.val ti,.val bX,.val bX,.val bX,.val bX,.val bX,.val bX,.val bX,.val qC,.own 100002]),(100002,.bo sa)]⟩,[none,none],2,H.xY⟩
theorem aJ':cW Tryz.prog CW 259 aml:=ey FT [(310,.eE amk)] ⟨aJ_,trivial⟩ func259 (K [(0,bG 100000),(1,eX),(6,bG 17)] [(17,.cells H4 [eX,.own 30000,.own 30001,.own 30002,.own 30003,.own 30004,.own 30005,.own 30006,.own 30007,.own 30008,.own 30009]),(100000,.cells uS [nA,sL,eX,nA,ao,ao,ao,ao,ao,ao,ao,sL,.own 100002]),(100002,J2),(30000,iO),(30001,iO),(30002,iO),(30003,iO),(30004,iO),(30005,iO),(30006,iO),(30007,iO),(30008,iO),(30009,iO)] ad (J [(6,bG 17)] lJ (X [(1,eX),(6,bG 17),(21,sL),(22,ao),(23,ao)] lJ (S ad (S eR (J [(1,eX),(6,bG 17),(21,sL),(22,ao),(23,ao)] lJ (B (S ad (.split 8 4 10 ad))) ad)))) (J [(6,bG 17)] lJ (S ad (B (.iP (.num 57 0 (S ad (S eR (J p0 lJ (B (S ad (S ad (X [(6,bG 17),(10,.own 30000),(56,.fG [30000,30001,30002,30003,30004,30005,30006,30007,30008,30009]),(57,ao),(62,.own 30000),(63,ao),(64,ao)] lJ (S ad (S eR (S (B (S ad (K [(6,bG 17),(10,.own 30000),(11,ao),(12,bG 12),(13,ao),(56,.fG [30000,30001,30002,30003,30004,30005,30006,30007,30008,30009]),(57,ao),(62,.own 30000),(63,ao),(64,ao)] wX aF bQ))) ad))))))) ad)))) (.iP (.num 57 1 (S ad (S eR (J p0 lJ (B (S ad (S ad (X [(6,bG 17),(10,.own 30001),(56,.fG [30000,30001,30002,30003,30004,30005,30006,30007,30008,30009]),(57,ao),(62,.own 30001),(63,ao),(64,ao)] lJ (S ad (S eR (S (B (S ad (K [(6,bG 17),(10,.own 30001),(11,ao),(12,bG 12),(13,ao),(56,.fG [30000,30001,30002,30003,30004,30005,30006,30007,30008,30009]),(57,ao),(62,.own 30001),(63,ao),(64,ao)] wX aF bQ))) ad))))))) ad)))) (.iP (.num 57 2 (S ad (S eR (J p0 lJ (B (S ad (S ad (X [(6,bG 17),(10,.own 30002),(56,.fG [30000,30001,30002,30003,30004,30005,30006,30007,30008,30009]),(57,ao),(62,.own 30002),(63,ao),(64,ao)] lJ (S ad (S eR (S (B (S ad (K [(6,bG 17),(10,.own 30002),(11,ao),(12,bG 12),(13,ao),(56,.fG [30000,30001,30002,30003,30004,30005,30006,30007,30008,30009]),(57,ao),(62,.own 30002),(63,ao),(64,ao)] wX aF bQ))) ad))))))) ad)))) (.iP (.num 57 3 (S ad (S eR (J p0 lJ (B (S ad (S ad (X [(6,bG 17),(10,.own 30003),(56,.fG [30000,30001,30002,30003,30004,30005,30006,30007,30008,30009]),(57,ao),(62,.own 30003),(63,ao),(64,ao)] lJ (S ad (S eR (S (B (S ad (K [(6,bG 17),(10,.own 30003),(11,ao),(12,bG 12),(13,ao),(56,.fG [30000,30001,30002,30003,30004,30005,30006,30007,30008,30009]),(57,ao),(62,.own 30003),(63,ao),(64,ao)] wX aF bQ))) ad))))))) ad)))) (.iP (.num 57 4 (S ad (S eR (J p0 lJ (B (S ad (S ad (X [(6,bG 17),(10,.own 30004),(56,.fG [30000,30001,30002,30003,30004,30005,30006,30007,30008,30009]),(57,ao),(62,.own 30004),(63,ao),(64,ao)] lJ (S ad (S eR (S (B (S ad (K [(6,bG 17),(10,.own 30004),(11,ao),(12,bG 12),(13,ao),(56,.fG [30000,30001,30002,30003,30004,30005,30006,30007,30008,30009]),(57,ao),(62,.own 30004),(63,ao),(64,ao)] wX aF bQ))) ad))))))) ad)))) (.iP (.num 57 5 (S ad (S eR (J p0 lJ (B (S ad (S ad (X [(6,bG 17),(10,.own 30005),(56,.fG [30000,30001,30002,30003,30004,30005,30006,30007,30008,30009]),(57,ao),(62,.own 30005),(63,ao),(64,ao)] lJ (S ad (S eR (S (B (S ad (K [(6,bG 17),(10,.own 30005),(11,ao),(12,bG 12),(13,ao),(56,.fG [30000,30001,30002,30003,30004,30005,30006,30007,30008,30009]),(57,ao),(62,.own 30005),(63,ao),(64,ao)] wX aF bQ))) ad))))))) ad)))) (.iP (.num 57 6 (S ad (S eR (J p0 lJ (B (S ad (S ad (X [(6,bG 17),(10,.own 30006),(56,.fG [30000,30001,30002,30003,30004,30005,30006,30007,30008,30009]),(57,ao),(62,.own 30006),(63,ao),(64,ao)] lJ (S ad (S eR (S (B (S ad (K [(6,bG 17),(10,.own 30006),(11,ao),(12,bG 12),(13,ao),(56,.fG [30000,30001,30002,30003,30004,30005,30006,30007,30008,30009]),(57,ao),(62,.own 30006),(63,ao),(64,ao)] wX aF bQ))) ad))))))) ad)))) (.iP (.num 57 7 (S ad (S eR (J p0 lJ (B (S ad (S ad (X [(6,bG 17),(10,.own 30007),(56,.fG [30000,30001,30002,30003,30004,30005,30006,30007,30008,30009]),(57,ao),(62,.own 30007),(63,ao),(64,ao)] lJ (S ad (S eR (S (B (S ad (K [(6,bG 17),(10,.own 30007),(11,ao),(12,bG 12),(13,ao),(56,.fG [30000,30001,30002,30003,30004,30005,30006,30007,30008,30009]),(57,ao),(62,.own 30007),(63,ao),(64,ao)] wX aF bQ))) ad))))))) ad)))) (.iP (.num 57 8 (S ad (S eR (J p0 lJ (B (S ad (S ad (X [(6,bG 17),(10,.own 30008),(56,.fG [30000,30001,30002,30003,30004,30005,30006,30007,30008,30009]),(57,ao),(62,.own 30008),(63,ao),(64,ao)] lJ (S ad (S eR (S (B (S ad (K [(6,bG 17),(10,.own 30008),(11,ao),(12,bG 12),(13,ao),(56,.fG [30000,30001,30002,30003,30004,30005,30006,30007,30008,30009]),(57,ao),(62,.own 30008),(63,ao),(64,ao)] wX aF bQ))) ad))))))) ad)))) (.iP (.num 57 9 (S ad (S eR (J p0 lJ (B (S ad (S ad (X [(6,bG 17),(10,.own 30009),(56,.fG [30000,30001,30002,30003,30004,30005,30006,30007,30008,30009]),(57,ao),(62,.own 30009),(63,ao),(64,ao)] lJ (S ad (S eR (S (B (S ad (K [(6,bG 17),(10,.own 30009),(11,ao),(12,bG 12),(13,ao),(56,.fG [30000,30001,30002,30003,30004,30005,30006,30007,30008,30009]),(57,ao),(62,.own 30009),(63,ao),(64,ao)] wX aF bQ))) ad))))))) ad)))) (.iP (.num 57 10 (S ad (S eR ad))) ad))))))))))))) ct))) H.UA
def Yi(f:Nat):cO:=⟨⟨[(0,bG 100000),(1,.val gy)],[(100000,.cells uS [.val ti,.val qC,.val gy,.val ti,.val bX,.val bX,.val bX,.val bX,.val bX,.val bX,.val bX,.val qC,.own 100002]),(100002,.bo sa)]⟩,⟨[],[(100000,.cells uS [.val ti,.val qC,.val gy,.val ti,.val bX,.val bX,.val bX,.val bX,.val bX,.val bX,.val bX,.val qC,.own 100002]),(100002,.bo sa)]⟩,[],2,H.BZ f⟩
theorem amm:∀f,cW Tryz.prog CW 196 (Yi f)
 |0=>Tq func196 H.axt
 |f+1=>ey FT [(196,.eE (Yi f)),(259,.eE aml)] ⟨amm f,aJ',trivial⟩ func196 (S ad (S (S ad (C (J [] alT (S ad aF) ad) ad)) (X [(0,bG 100000),(1,eX),(4,ao),(7,ao)] alT tT))) (H.axw f)
def aKa:=nU FT (J7.u [(194,1)] [] trivial) [(163,.eE amg),(193,.eE amh),(196,.eE (Yi 5))] ⟨aJ4,aJ5,amm 5,trivial⟩ func116 H.qP (S ad (S ph (S ad (S ad (K [(7,bG 15)] [(15,.cells uS [nA,sL,eX,nA,ao,ao,ao,ao,ao,ao,ao,.sub 50200,.own 30000]),(50200,z_),(30000,J2)] bQ l7))))) H.UC
def aKb:=mk aKa func119 H.EF (K [(4,bG 4),(5,qZ)] [(4,JX)] (X alK [(4,JX)] (S ad (S eR (J alK [(4,JX)] (B (S ad (S ad (B (S ad (C ad aF)))))) ad)))) ct) H.axA
def aKc:=lA aKb [] func203 H.EK 1 bW H.axT
def aKd:=lA aKc [(203,1)] func201 H.UM 1 bW H.axU (hc:=λx h=>by obtain⟨_,f,aC,_⟩:=h;exact uT ⟨trivial,tl aC⟩)
def Yj:=mk aKd func198 H.zd (S ad (K [(7,ao)] [] (X [(1,ao),(2,ao),(7,ao),(14,nA),(15,ao),(16,ao)] [] bB) ct)) H.aw6
def amn:cO:=⟨⟨[(0,.iw),(1,.eL sa),(2,.eL y7),(1000000,.aS (.aw ly bX))],[]⟩,⟨[(1000000,.aS (.aw ly bX))],[]⟩,[],3,(H.MV H.zd.sh)⟩
theorem aKe:cW Tryz.prog dV 197 amn:=ey (S:=(H.MV H.zd.sh)) Yj [] trivial func197 (X alC [] (S ad (S eR (J alC [] (B (S ad (X [(0,.iw),(2,.eL y7),(5,alp),(6,ao),(10,alq),(11,ao),(1000000,.aS (.aw ly bX))] [] (S aF (S (B aF) ad))))) ad)))) (λx=>w0 _)
theorem aKf:yr Tryz.prog 197 ⟨[sa,y7],(.aw ly bX),H.wv⟩:=Mq (c:=amn) aKe lz (λx l ad=>(l,x.1.getD none,x.2.getD none,(l,ad,[],false),())) rfl (by decide) (by simp[h3])
 (λx l ad i an=>by
  obtain⟨T,aU⟩:=an;obtain⟨t,b,E,M,ak,_⟩:=aU;obtain⟨mD,q9⟩:=x;change mD=some (some t) at E;change q9=some (some b) at M;subst E;subst M;by_cases aV:i=0
  ·subst aV;exact .inr (.inr (.inl ⟨rfl,rfl⟩))
  ·by_cases E:i=1
   ·subst E;exact .inr (.inl ⟨by decide,by decide,_,_,rfl,rfl⟩)
   by_cases al:i=2
   ·subst al;exact .inr (.inl ⟨by decide,by decide,_,_,rfl,rfl⟩)
   by_cases M:i=cd
   ·subst M;exact .inr (.inr (.inr ⟨rfl,rfl⟩))
   ·refine .inl ?_;exact (if_neg aV).trans ((if_neg E).trans ((if_neg al).trans (if_neg M))))
 rfl (λbn=>⟨_,_,_,_,rfl⟩) (λx l an=>by
  obtain⟨T,aU⟩:=an;obtain⟨t,b,E,M,ak,_⟩:=aU;obtain⟨mD,q9⟩:=x;change mD=some (some t) at E;change q9=some (some b) at M;subst E;subst M;have h:=H.axF l t b ak;refine⟨h.1,λbn gN ev gj p fH=>?_⟩;have e:aN.aS bn.1.1 (.aw ly bX) bn.1.2.1 bn.1.2.2.1 bn.1.2.2.2=.aS ev (.aw ly bX) gj p false:=fH;injection e with aF bB c7 bW gS
  rw[<-bW];exact h.2 bn gN gS)
def aKg:=nU Yj (Yj.u [] [(197,⟨[sa,y7],(.aw ly bX),H.wv⟩)] ⟨aKf,trivial⟩) [] trivial func121 H.EG bW H.axJ
def aKh:=lA aKg [] func204 H.UN 1 (S ad (S (S ad (B (cr [(2,.eL bX),(3,.eL Tj),(5,bG 5),(6,bG 6)] [(5,.cells bX [ao]),(6,.cells hd [qZ])] [(2,.eL bX),(3,.eL Tj),(5,bG 100005),(6,bG 100006),(12,alg),(13,ao)] [(100005,.cells bX [ao]),(100006,.cells hd [qZ])] [] [(100005,.cells bX [ao]),(100006,.cells hd [qZ])] ct (B bQ)))) ct)) H.axV (hc:=λx h=>by obtain⟨_,_,_,_,rfl,_⟩:=h;exact uT ⟨⟨⟨trivial,rfl⟩,rfl⟩,rfl⟩)
def aKi:=nT aKh [(201,1),(204,1)] func131 H.EL (S ad (S ad (S bQ l7))) H.axW
def aKj:=mk aKi func246 H.B1 bW H.axX
def amo:=nT aKj [] func179 H.Nc bW H.axY
def aKk:cO:=nB (W.gO 1 W.V0)
theorem aKl:cW Tryz.prog dV 90 aKk:=ey amo [] trivial func90 bW W.aB2
def aKm:=mk amo func122 H.ze l7 H.aw8
def aKn:=lA aKm [] func132 H.B2 1 bW H.axZ
def amp:=nT aKn [(132,1)] func59 H.BV bW H.ax1
def aKo:cO:=nB (W.gO 1 W.V1)
theorem aKp:cW Tryz.prog dV 91 aKo:=ey amp [] trivial func91 bW W.aB3
def aKq:=lA amp [] func117 H.UP 1 bW H.ax2
def aKr:=lA aKq [] func120 H.UQ 1 (S ad (S ad (S (S ad (B (cr [(2,.eL bX),(3,.eL wY),(7,bG 7)] [(7,.cells bX [ao])] [(2,.eL bX),(3,.eL wY),(7,bG 100007),(13,alg),(14,ao)] [(100007,.cells bX [ao])] [] [(100007,.cells bX [ao])] ct (B aF)))) ct))) H.ax3 (hc:=λx h=>by obtain⟨_,_,_,_,rfl,_⟩:=h;exact uT ⟨⟨⟨trivial,rfl⟩,rfl⟩,rfl⟩)
def amq:=nT aKr [(117,1),(120,1)] func56 H.BW FR H.ax6
def aKs:cO:=nB (W.gO 1 W.V2)
theorem aKt:cW Tryz.prog dV 92 aKs:=ey amq [] trivial func92 bW W.aB4
def aKu:=mk amq func125 H.BN bW H.av8
def aKv:=lA aKu [] func129 H.EM 1 bW H.afS
def aKw:=mk aKv func126 H.B3 (S ad (S ad (K [(6,bG 6),(8,bG 8),(9,qZ)] [(6,CV),(8,CV)] (X alD [(6,CV),(8,CV)] (S ad (S eR (J alD [(6,CV),(8,CV)] vm ad)))) ct))) H.ax8
def aKx:=lA aKw [] func130 H.UU 1 (S ad (K [(6,ao)] [] (X [(0,alo),(1,.eL bX),(2,.eL wY),(6,ao),(10,ao)] [] (S ad (S eR (J [(0,alo),(1,.eL bX),(2,.eL wY),(6,ao),(10,ao)] [] Aa ad)))) ct)) H.ax' (hc:=λx h=>by obtain⟨_,_,_,rfl,_⟩:=h;exact uT ⟨⟨trivial,rfl⟩,rfl⟩)
def amr:=nT aKx [(129,1),(130,1)] func58 H.BX FR H.ayb
def aKy:cO:=nB (W.gO 1 W.V3)
theorem aKz:cW Tryz.prog dV 93 aKy:=ey amr [] trivial func93 bW W.aB5
def Yk:=lA amr [] func123 H.UY 1 bW H.ayf (hc:=λx h=>by obtain⟨a,b,aC⟩:=h;exact uT ⟨⟨trivial,tl (congrArg (λo=>o.1) aC)⟩,tl (congrArg (λo=>o.2) aC)⟩)
def ams:cO:=⟨⟨[(0,.iw),(1,.eL Mx),(1000000,.aS bX)],[]⟩,⟨[(1000000,.aS bX)],[]⟩,[],2,H.T9⟩
theorem aKA:cW Tryz.prog dV 200 ams:=ey (S:=H.T9) Yk [] trivial func200 (X [(0,.iw),(5,.l9 5),(1000000,.aS bX)] [(5,.cI bX bX)] (S ad (S eR vm))) (λx=>w0 _)
theorem aKB:yr Tryz.prog 200 ⟨[Mx],bX,H.lV⟩:=Mq (c:=ams) aKA lz (λx l ad=>(l,x.getD [],(l,ad,[],false),())) rfl (by decide) (by simp[h3])
 (λx l ad i an=>by
  obtain⟨T,aU⟩:=an;obtain⟨m,hm,_⟩:=aU;subst hm;by_cases aV:i=0
  ·subst aV;exact .inr (.inr (.inl ⟨rfl,rfl⟩))
  ·by_cases E:i=1
   ·subst E;exact .inr (.inl ⟨by decide,by decide,_,_,rfl,rfl⟩)
   by_cases M:i=cd
   ·subst M;exact .inr (.inr (.inr ⟨rfl,rfl⟩))
   ·refine .inl ?_;exact (if_neg aV).trans ((if_neg E).trans (if_neg M)))
 rfl (λbn=>⟨_,_,_,_,rfl⟩) (λx l an=>by
  obtain⟨T,aU⟩:=an;obtain⟨m,hm,_⟩:=aU;subst hm;have h:=H.axB l m;refine⟨h.1,λbn gN ev gj p fH=>?_⟩;have e:aN.aS bn.1.1 bX bn.1.2.1 bn.1.2.2.1 bn.1.2.2.2=.aS ev bX gj p false:=fH;injection e with aF bB c7 bW gS
  rw[<-bW];exact h.2 bn gN gS)
def aKC:=nU Yk (Yk.u [] [(200,⟨[Mx],bX,H.lV⟩)] ⟨aKB,trivial⟩) [] trivial func128 H.M5 bW H.awG
def amt:=nT aKC [(123,1)] func57 H.BY (S ad (S ad (S bQ (K [(10,.hq 24)] [(24,.mp bX bX)] (X alE [(4,.ix bX),(5,.ix bX),(24,.mp bX bX)] (S ad (S eR (J alE [(4,.ix bX),(5,.ix bX),(24,.mp bX bX)] Aa ad)))) ct)))) H.ayg
def aKD:cO:=nB (W.gO 2 W.V5)
theorem aKE:cW Tryz.prog dV 94 aKD:=ey amt [] trivial func94 (S ad X6) W.aB7
def aKF:=lA amt [] func248 H.EM 1 bW H.ax_
def Yl:=nT aKF [(248,1)] func182 H.Nf (S ad (S ad (S bQ (J [(4,.own 4),(5,.own 5)] [(4,b1),(5,b1)] (X alF FQ (S ad (S eR (J alF FQ (B (S ad (K alz FQ (X alv FQ (S ad (S eR (J alv FQ Aa ad)))) (J alz FQ aF aF)))) ad)))) ct)))) H.ayk
def aKG:cO:=nB (W.gO 1 W.V7)
theorem aKH:cW Tryz.prog dV 95 aKG:=ey Yl [] trivial func95 (S ad l7) W.aB9
def FU:cO:=⟨⟨[(0,.val t32)],[]⟩,⟨[(0,.val HY),(1,.val HZ),(2,.val bX),(3,.own 28),(4,.own 11),(5,.own 16),(6,.own 20),(7,.own 24),(8,.val bX)],[(28,.bo H0),(11,.bo bX),(16,.bo BC),(20,.bo y6),(24,.bo uQ)]⟩,[some 9],1,W.zK⟩
theorem J8:cW Tryz.prog dV 86 FU:=ey Yl [(169,X_),(170,X'),(171,Ya),(172,.eE Yb),(173,Yc),(174,Yd),(175,PH),(176,Yf)] ⟨al7,al8,al9,al_,amb,amc,Ye,amd,trivial⟩ func86 gS W.aCh
def aKI:=mk Yl func262 IL (S ad bW) azt
def aKJ:=lA aKI [] func261 IS 1 bW azu (hc:=λx h=>by obtain⟨i,w,n,aC,_⟩:=h;exact uT ⟨⟨⟨trivial,tl (congrArg (λo=>o.1) aC)⟩,tl (congrArg (λo=>o.2.1) aC)⟩,tl (congrArg (λo=>o.2.2) aC)⟩)
def aKK:=nT aKJ [(261,1)] func205 EY (S ad (S ph (S bQ (K [(7,bG 22)] [(22,.cells BD [q0,sJ,ao,tR,.own 61]),(61,JV)] (X [(2,bG 2),(7,bG 22),(24,q0),(25,ao),(26,ao)] alU (S ad (S eR (J [(2,bG 2),(7,bG 22),(24,q0),(25,ao),(26,ao)] alU (B (S ad (K [(2,bG 2),(7,bG 22),(10,.own 10),(24,q0),(25,ao),(26,ao)] [(2,.ix qB),(10,b1),(22,.cells BD [q0,sJ,ao,tR,.own 61]),(61,JV)] (X alu [(2,.ix qB),(8,.ix bX),(9,alj),(10,b1),(11,.cells bX [ao]),(22,.cells BD [q0,sJ,ao,tR,.own 61]),(61,JV)] (S aF (J alu [(2,.ix qB),(8,.ix bX),(9,alj),(10,b1),(11,.ix bX),(22,.cells BD [q0,sJ,ao,tR,.own 61]),(61,JV)] vm (S ct ad)))) (S bQ ad)))) ad)))) ct)))) azy
def amu:=mk aKK func133 EU FR azG
def aKL:cO:=nB (W.gO 4 W.Cq)
theorem aKM:cW Tryz.prog dV 96 aKL:=ey amu [(86,.eE FU)] ⟨J8,trivial⟩ func96 (S ad (S ad (S ad (S ad (S bQ (S ph bW)))))) W.aCl
def aKN:=mk amu func265 Nt al1 azz
def aKO:=mk aKN func208 NA (S ad (K [(0,alr),(1,ao),(9,ao)] [] (X alG [] (S ad (S eR (J alG [] vm ad)))) ct)) azE
def yp:=mk aKO func134 EV (S ad l7) azI
def aKP:cO:=nB (W.gO 3 W.V8)
theorem aKQ:cW Tryz.prog dV 97 aKP:=ey yp [] trivial func97 (S ad l7) W.aB'
def J9:cO:=⟨⟨[(0,bG 100000),(1,.val t32)],[(100000,.gE tj)]⟩,⟨[(0,.val kM)],[(100000,.gE tj)]⟩,[none],2,W.zL⟩
theorem PJ:cW Tryz.prog dV 183 J9:=ey yp [] trivial func183 (S ad (S bQ bW)) W.aCj
def aKR:cO:=nB (W.gO 2 W.Ja)
theorem aKS:cW Tryz.prog dV 98 aKR:=ey yp [(86,.eE FU),(183,.eE J9)] ⟨J8,PJ,trivial⟩ func98 FR W.aCm
def aKT:cO:=nB (W.gO 3 W.V9)
theorem aKU:cW Tryz.prog dV 99 aKT:=ey yp [(86,.eE FU),(183,.eE J9)] ⟨J8,PJ,trivial⟩ func99 qb W.aCn
def aKV:cO:=nB (W.gO 4 W.V_)
theorem aKW:cW Tryz.prog dV 100 aKV:=ey yp [(86,.eE FU),(183,.eE J9)] ⟨J8,PJ,trivial⟩ func100 qb W.aCo
def aKX:cO:=nB (W.gO 5 W.V')
theorem aKY:cW Tryz.prog dV 101 aKX:=ey yp [(86,.eE FU),(183,.eE J9)] ⟨J8,PJ,trivial⟩ func101 qb W.aCp
def amv:cO:=⟨⟨[(0,.own 200001),(1,.val cU),(2,.val cU)],[(200001,.bo y6)]⟩,⟨[(0,.sub 200001)],[(200001,.bo y6)]⟩,[none],3,(W.Oe W.Wk)⟩
theorem aKZ:cW Tryz.prog dV 184 amv:=ey yp [] trivial func184 (S ad (S ad (S bQ qb))) (W.aCg W.Wk)
def aK0:cO:=nB (W.gO 1 W.Jb)
theorem aK1:cW Tryz.prog dV 102 aK0:=ey yp [(175,PH),(184,.eE amv)] ⟨Ye,aKZ,trivial⟩ func102 (S ad (S bQ (S .LF ct))) W.aCq
def aK2:=mk yp func267 wA (S ad (S ad al0)) az9
def aK3:=mk aK2 func209 wA (S ad (S (C bW ad) bW)) (az' (λ_=>eb))
def aK4:=mk aK3 func135 NL (K [(0,nA),(1,ao)] [] aF (K [(0,nA),(6,J3)] [] aF (S ad (K [(7,.own 30)] [(30,PC)] (B (W [(7,.own 30),(8,ao)] [(30,PC)] (S aF (B ad)))) ct)))) aAg
def amw:=mk aK4 func61 E3 (S ad (S ph (S bQ (K [(2,bG 2),(7,bG 30)] z' (S ad (C ph ad)) (J [(2,bG 2),(7,bG 30)] z' (X [(2,bG 2),(7,bG 30),(46,ao),(47,ao)] z' (S ad (S eR (J [(2,bG 2),(7,bG 30),(46,ao),(47,ao)] z' (B (S ad (X alA z' (S ad (S eR (J alA z' (B (S ad (X alw z' (S ad (S eR (J alw z' Aa ad)))))) ad)))))) ad)))) (J [(2,bG 2),(7,bG 30)] alR (X [(2,bG 2),(7,bG 30),(92,eX),(93,ao),(94,ao)] alR bB) (J [(7,bG 30)] alS (X [(7,bG 30),(114,sK),(115,ao),(116,ao)] alS bB) ct))))))) aAt
def amx:cO:=⟨⟨[(0,.val gy),(1,.val cU)],[]⟩,⟨[(0,.own 30)],[(30,.bo cU)]⟩,[none],2,zv⟩
theorem aK5:cW Tryz.prog dV 136 amx:=ey amw [] trivial func136 kU ahj
def aK6:=mk amw func141 Ca (S ad (S (B (S ad (C ct (S ad (C ct bQ))))) ct)) aAl
def amy:=mk aK6 func64 NR (S ad (K [(6,.own 6)] [(6,z8)] (X [(0,mR),(6,.own 6),(14,eX),(15,ao),(16,ao)] [(6,z8)] (S ad (S eR (J [(0,mR),(6,.own 6),(14,eX),(15,ao),(16,ao)] [(6,z8)] (B (S ad (S aF (S ad (K [(0,mR),(6,.own 6),(10,bG 10),(11,ao),(14,eX),(15,ao),(16,ao)] [(6,z8),(10,ald)] (S ad (B (S ad (C ct aF)))) (S bQ (X [(0,mR),(6,.own 6),(10,bG 10),(11,ao),(14,eX),(15,ao),(16,ao),(58,eX),(59,ao),(60,ao)] [(6,z8),(10,ald)] bB))))))) ad)))) ct)) aAF
def amz:cO:=⟨⟨[(0,.val gy),(1,.val bX)],[]⟩,⟨[(0,.own 30)],[(30,.bo bX)]⟩,[none],2,zv⟩
theorem aK7:cW Tryz.prog dV 136 amz:=ey amy [] trivial func136 kU ahj
def amA:=mk amy func142 E7 bW aAN
def Ym(f:Nat):cO:=⟨⟨[(0,.val rC),(1,.own 200001),(2,.val H2),(3,.val bX),(4,.hq 100002)],[(100002,.mp bX bX),(200001,.bo bX)]⟩,⟨[(0,.val hd)],[(100002,.mp bX bX),(200001,.bo bX)]⟩,[none],5,x_ f⟩
theorem amB:∀f,cW Tryz.prog dV 143 (Ym f)
 |0=>Tq func143 aAX
 |f+1=>ey amA [(143,.eE (Ym f))] ⟨amB f,trivial⟩ func143 (K [] X5 (X aly X5 (S ad (S eR (J aly X5 (B (S ad (S aF (S ad (S ad (C bW ad)))))) ad)))) ct) (aAW f)
def aK8:=nU amA lz [(136,.eE amz),(143,.eE (Ym 201))] ⟨aK7,amB 201,trivial⟩ func66 NU (S ad (S ad (K [(6,ao)] [] (X alL [(50140,b1)] (S ad (S eR (J alL [(50140,b1)] vm ad)))) ct))) aAZ
def aK9:=mk aK8 func139 Cj (S ad bW) aA0
def aK_:=mk aK9 func249 Vm bW aAj
def amC:=nU aK_ lz [(136,.eE amx)] ⟨aK5,trivial⟩ func185 N1 (S ad (S ad (S bQ (S ad (K [(8,.own 8)] [(8,b1)] (X alI [(8,b1),(50260,b1)] (S ad (S eR (J alI [(8,b1),(50260,b1)] Aa ad)))) ct))))) aBk
def aK':cO:=nB (W.gO 1 W.Wa)
theorem aLa:cW Tryz.prog dV 103 aK':=ey amC [] trivial func103 (S ad bW) W.aCb
def aLb:=mk amC func138 zB (K [(4,ao)] [] (X [(0,mR),(4,ao),(7,eX),(8,ao),(9,ao)] [] (S ad (S eR (J [(0,mR),(4,ao),(7,eX),(8,ao),(9,ao)] [] vm ad)))) ct) aAH
def aLc:=mk aLb func300 Vn bW aAk
def aLd:=mk aLc func250 NM (K [(1,eX),(2,bG 2)] [(2,FH)] (X [(1,eX),(2,bG 2),(7,eX),(8,ao),(9,ao)] [(2,FH)] c7) ct) aAm
def amD:=mk aLd func186 N2 (S ad X6) aBm
def aLe:cO:=nB (W.gO 0 W.Wb)
theorem aLf:cW Tryz.prog dV 104 aLe:=ey amD [(173,.eE al')] ⟨ama,trivial⟩ func104 (S ad (K [(0,bG 100000),(5,.own 50100)] [(50100,b1),(100000,JY)] (X [(0,bG 100000),(5,.own 50100),(12,ao),(13,ao)] [(50100,b1),(100000,JY)] bB) bW)) W.aCc
def Yn:=mk amD func136 NJ kU aAf
def PK(f:Nat):cO:=⟨⟨[(0,.val rC),(1,.val gy),(2,.val bX),(3,.iw),(1000000,.aS gy)],[]⟩,⟨[(0,.val hd),(1000000,.aS gy)],[]⟩,[none],4,u_ f⟩
theorem Yo:∀f,cW Tryz.prog dV 140 (PK f)
 |0=>Tq func140 aA_
 |f+1=>ey Yn [(140,.eE (PK f))] ⟨Yo f,trivial⟩ func140 (S ad (S ad (S bQ (J [(0,mR),(1,eX),(2,ao),(3,.iw),(9,ao),(1000000,.aS gy)] [] (X alx [] (S ad (S eR (J alx [] (B (S ad (S aF bQ))) ad)))) ct)))) (aA9 f)
def amE:cO:=⟨⟨[(0,.val rC),(1,.iw),(1000000,.aS gy)],[]⟩,⟨[(1000000,.aS gy)],[]⟩,[],2,(MR (u_ 10))⟩
theorem aLg:cW Tryz.prog dV 137 amE:=ey (S:=(MR (u_ 10))) Yn [(140,.eE (PK 10))] ⟨Yo 10,trivial⟩ func137 ad (λx=>w0 _)
def PL:DB:=⟨rC,gy,Ck,NW⟩
theorem aLh:Ho Tryz.prog 137 PL:=ab9 (c:=amE) aLg lz (ic:=PL) (λx l ad=>(x,l,(l,ad,[],false),())) rfl (by decide) (by simp[PL])
 (λx l ad i=>by
  by_cases aV:i=0
  ·subst aV;exact .inr (.inl ⟨by decide,rfl⟩)
  ·by_cases E:i=1
   ·subst E;exact .inr (.inr (.inl ⟨rfl,rfl⟩))
   ·by_cases M:i=cd
    ·subst M;exact .inr (.inr (.inr ⟨rfl,rfl⟩))
    ·refine .inl ?_;exact (if_neg aV).trans ((if_neg E).trans (if_neg M)))
 rfl (λbn=>⟨_,_,_,_,rfl⟩) (λx l ak=>by
  obtain⟨s,ax,ag⟩:=ak;subst ax;have h:=aA' s ag l;refine⟨h.1,λbn gN ev gj n fH=>?_⟩;have e:aN.aS bn.1.1 gy bn.1.2.1 bn.1.2.2.1 bn.1.2.2.2=.aS ev gy gj n false:=fH;injection e with aF bB c7 bW gS
  exact bW.symm.trans ((h.2 bn gN).2.2 gS))
def aLi:=nU Yn lz [(137,.cI PL)] ⟨aLh,trivial⟩ func62 VP (S ad (S ad (S (S ad (B (cr [(1,bG 1),(3,bG 3)] [(1,.cells rC [mR]),(3,.cells gy [eX])] [(1,bG 100001),(3,bG 100003),(15,eX)] [(100001,.cells rC [mR]),(100003,.cells gy [eX])] [] [(100001,.cells rC [mR]),(100003,.cells gy [eX])] ad (B aF)))) ct))) aBf
def aLj:=mk aLi func110 VR (S ad l7) aBg
def Yp:=mk aLj func50 E9 bW aBh
def aLk:cO:=nB (W.gO 0 W.Wc)
theorem aLl:cW Tryz.prog dV 105 aLk:=ey Yp [] trivial func105 (S ad bW) W.aCd
def amF:cO:=⟨⟨[(0,.val rC),(1,.iw),(1000000,.aS gy)],[]⟩,⟨[(1000000,.aS gy)],[]⟩,[],2,(MS (u_ 10))⟩
theorem aLm:cW Tryz.prog dV 63 amF:=ey (S:=(MS (u_ 10))) Yp [(140,.eE (PK 10))] ⟨Yo 10,trivial⟩ func63 ad (λx=>w0 _)
def PM:DB:=⟨rC,gy,Ck,VL⟩
theorem aLn:Ho Tryz.prog 63 PM:=ab9 (c:=amF) aLm lz (ic:=PM) (λx l ad=>(x,l,(l,ad,[],false),())) rfl (by decide) (by simp[PM])
 (λx l ad i=>by
  by_cases aV:i=0
  ·subst aV;exact .inr (.inl ⟨by decide,rfl⟩)
  ·by_cases E:i=1
   ·subst E;exact .inr (.inr (.inl ⟨rfl,rfl⟩))
   ·by_cases M:i=cd
    ·subst M;exact .inr (.inr (.inr ⟨rfl,rfl⟩))
    ·refine .inl ?_;exact (if_neg aV).trans ((if_neg E).trans (if_neg M)))
 rfl (λbn=>⟨_,_,_,_,rfl⟩) (λx l ak=>by
  obtain⟨s,ax,ag⟩:=ak;subst ax;have h:=aBa s ag l;refine⟨h.1,λbn gN ev gj n fH=>?_⟩;have e:aN.aS bn.1.1 gy bn.1.2.1 bn.1.2.2.1 bn.1.2.2.2=.aS ev gy gj n false:=fH;injection e with aF bB c7 bW gS
  exact bW.symm.trans ((h.2 bn gN).2.2 gS))
def aLo:=mk Yp func65 VF (K [] [] (X [(0,mR),(9,sK),(10,ao),(11,ao)] [] (S ad (S eR (J [(0,mR),(9,sK),(10,ao),(11,ao)] [] (B (S ad (K [(0,mR),(7,qZ),(9,sK),(10,ao),(11,ao)] [] (X [(0,mR),(6,bG 6),(7,qZ),(9,sK),(10,ao),(11,ao),(20,ao),(21,ao)] [(6,aH0)] bB) bQ))) ad)))) ct) aAP
def Yq:=nU aLo lz [(63,.cI PM)] ⟨aLn,trivial⟩ func26 N0 (S ad (S ad (S bQ (S ad (S (S ad (B (cr [(4,bG 4),(6,bG 6)] [(4,.cells rC [mR]),(6,.cells bX [ao])] [(4,bG 100004),(6,bG 100006),(21,eX)] [(100004,.cells rC [mR]),(100006,.cells bX [ao])] [] [(100004,.cells rC [mR]),(100006,.cells bX [ao])] ad (B (S ad (S aF (S ad aF))))))) (S bQ ct)))))) aBi
def aLp:cO:=nB (W.gO 0 W.Wd)
theorem aLq:cW Tryz.prog dV 106 aLp:=ey Yq [] trivial func106 (S ad bW) W.aCe
theorem aLr:∀ k∈[87,88,89,90,91,92,93,94,95,96,97,98,99,100,101,102,103,104,105,106],cW Tryz.prog dV k {Yh with sh:=W.Jf k}:=Jj.mem (l:=[87,88,89,90,91,92,93,94,95,96,97,98,99,100,101,102,103,104,105,106]) ⟨aJR,aJT,aJV,aKl,aKp,aKt,aKz,aKE,aKH,aKM,aKQ,aKS,aKU,aKW,aKY,aK1,aLa,aLf,aLl,aLq,trivial⟩
def amG:cO:=⟨⟨[(0,bG 100000),(1,.val Te),(2,.val kM)],[(100000,.gE tj)]⟩,⟨[(0,.val kM)],[(100000,.gE tj)]⟩,[none],3,W.Oo⟩
theorem aLs:cW Tryz.prog dV 45 amG:=ey Yq [(999999,.Ll Yh W.Jf [87,88,89,90,91,92,93,94,95,96,97,98,99,100,101,102,103,104,105,106])] ⟨aLr,trivial⟩ func45 (S ad (S ad (S ad (S ph (K [(0,bG 100000),(8,bG 8),(11,.own 48)] [(8,ali),(48,b1),(100000,JY)] (X [(0,bG 100000),(8,bG 8),(11,.own 48),(50,l6),(51,ao),(52,ao)] [(8,ali),(48,b1),(100000,JY)] (S ad (S eR (S (B (S ad (S ad (S bQ ad)))) ad)))) ct))))) W.aCw
def qF:=nU Yq lz [(43,.eE amf),(45,.eE amG)] ⟨aJQ,aLs,trivial⟩ func13 W.Cy (S ad (S ph (S bQ (K [(4,.own 4),(5,bG 5),(8,bG 50230)] alP (X [(4,.own 4),(5,bG 5),(8,bG 50230),(9,aHZ),(25,l6),(26,ao),(27,ao)] alP bB) ct)))) W.aCD
def aLt:=lA qF [] func147 wS 1 bW aFc (hc:=λx h=>by obtain⟨w,hw⟩:=h;exact uT ⟨trivial,tl hw⟩)
def aLu:=mk aLt func216 (k3 (.slice (.int .u8))) (K [] [] (X [(0,JZ),(1,aH4),(7,ao),(8,ao)] [] c7) ct) aEu
def PN:=mk aLu func148 (h_ (.slice (.int .u8))) bW aEv
def PO:cO:=⟨⟨[(0,bG 100001)],[(100001,.cells qD [.hS 100001,.own 100002]),(100002,.bo e5)]⟩,⟨[(0,.val kM)],[(100001,.cells qD [.hS 100001,.undef])]⟩,[none],1,zO⟩
theorem Yr:cW Tryz.prog dV 82 PO:=ey PN [] trivial func82 bW aEj
def amH:cO:=⟨⟨[(0,bG 100001),(1,.val rB)],[(100001,.cells qD [.hS 100001,.own 100002]),(100002,.bo e5)]⟩,⟨[(0,.val bX)],[(100001,.cells qD [.hS 100001,.own 100002]),(100002,.bo e5)]⟩,[none,none],2,OJ⟩
theorem aLv:cW Tryz.prog dV 158 amH:=ey PN [(155,.eE Pr)] ⟨Xs,trivial⟩ func158 qb aEh
def amI:cO:=⟨⟨[(0,bG 100001),(1,.val e5)],[(100001,.cells qD [.hS 100001,.own 100002]),(100002,.bo e5)]⟩,⟨[],[(100001,.cells qD [.hS 100001,.own 100002]),(100002,.bo e5)]⟩,[none],2,Jr⟩
theorem aLw:cW Tryz.prog dV 159 amI:=ey PN [(155,.eE Pr)] ⟨Xs,trivial⟩ func159 qb aEg
def aLx:=nU PN lz [(82,.eE PO),(158,.eE amH),(159,.eE amI)] ⟨Yr,aLv,aLw,trivial⟩ func81 oJ (K [(0,JZ),(3,bG 3)] J4 ad (J [(3,bG 3)] J4 (X [(3,bG 3),(6,JZ),(7,ao),(8,ao)] J4 PG) bW)) WL
def aLy:=mk aLx func77 (k3 .str) (K [] [] (X [(0,l6),(1,aHX),(7,ao),(8,ao)] [] c7) ct) aEs
def aLz:=mk aLy func37 (h_ .str) bW aEt
def Ys:=mk aLz func38 Jx bW aEw
def amJ:cO:=⟨⟨[(0,.iw),(1,.eL nS),(2,.eL bX),(1000000,.aS nS)],[]⟩,⟨[(1000000,.aS nS)],[]⟩,[],3,OD⟩
theorem aLA:cW Tryz.prog dV 154 amJ:=ey (S:=OD) Ys [] trivial func154 (X [(0,.iw),(1,.eL nS),(2,.eL bX),(4,ao),(1000000,.aS nS)] [] (S aF (S vm ad))) (λx=>w0 _)
theorem aLB:yr Tryz.prog 154 ⟨[nS,bX],nS,yh⟩:=Mq (c:=amJ) aLA lz (λx l ad=>(l,x.1.getD [],x.2.getD 0,(l,ad,[],false),())) rfl (by decide) (by simp[h3])
 (λx l ad i an=>by
  obtain⟨T,aU⟩:=an;obtain⟨s,hm,ax,_⟩:=aU;subst hm;by_cases aV:i=0
  ·subst aV;exact .inr (.inr (.inl ⟨rfl,rfl⟩))
  ·by_cases E:i=1
   ·subst E;exact .inr (.inl ⟨by decide,by decide,_,_,rfl,rfl⟩)
   by_cases al:i=2
   ·subst al;exact .inr (.inl ⟨by decide,by decide,_,_,rfl,rfl⟩)
   by_cases M:i=cd
   ·subst M;exact .inr (.inr (.inr ⟨rfl,rfl⟩))
   ·refine .inl ?_;exact (if_neg aV).trans ((if_neg E).trans ((if_neg al).trans (if_neg M))))
 rfl (λbn=>⟨_,_,_,_,rfl⟩) (λx l an=>by
  obtain⟨T,aU⟩:=an;obtain⟨s,hm,ax,_⟩:=aU;subst hm;have h:=aFT l s ax;refine⟨h.1,λbn gN ev gj p fH=>?_⟩;have e:aN.aS bn.1.1 nS bn.1.2.1 bn.1.2.2.1 bn.1.2.2.2=.aS ev nS gj p false:=fH;injection e with aF bB c7 bW gS
  rw[<-bW];exact h.2 bn gN gS)
def Yt:=nU Ys (Ys.u [] [(154,⟨[nS,bX],nS,yh⟩)] ⟨aLB,trivial⟩) [] trivial func78 OT (K [(2,bG 2),(3,bG 3)] [(2,.cells nS [l6]),(3,.cells bX [ao])] aF ct) aEp
def Yu:cO:=⟨⟨[(0,bG 100001),(1,.val kM)],[(100001,.cells qD [.hS 100001,.own 100002]),(100002,.bo e5)]⟩,⟨[(0,.val bX)],[(100001,.cells qD [.hS 100001,.own 100002]),(100002,.bo e5)]⟩,[none,none],2,CF⟩
theorem amK:cW Tryz.prog dV 79 Yu:=ey Yt [(155,.eE Pr)] ⟨Xs,trivial⟩ func79 qb aEi
def amL:cO:=⟨⟨[(0,bG 100000),(1,.val e5)],[(100000,.cells bX [.val bX])]⟩,⟨[],[(100000,.cells bX [.val bX])]⟩,[],2,OH⟩
theorem aLC:cW Tryz.prog dV 217 amL:=ey Yt [] trivial func217 ad aEc
def aLD:=mk Yt func156 wM bW aEa
def aLE:=mk aLD func218 wM bW aEb
def amM:=nU aLE lz [(217,.eE amL)] ⟨aLC,trivial⟩ func149 p3 (S ad (K [(3,bG 3)] [(3,.cells bX [ao])] (X [(3,bG 3),(6,ale),(7,ao),(8,ao)] [(3,.cells bX [ao])] bB) ct)) aEd
def amN:cO:=⟨⟨[(0,.own 200001),(1,.val bX),(2,.val bX)],[(200001,.bo rB)]⟩,⟨[(0,.own 7)],[(7,.bo e5),(200001,.bo rB)]⟩,[none],3,OL⟩
theorem aLF:cW Tryz.prog dV 150 amN:=ey amM [] trivial func150 (S ad (K [(7,.own 7)] [(7,gl),(200001,z7)] (X [(1,ao),(7,.own 7),(15,.sub 200001),(16,ao),(17,ao)] [(7,gl),(200001,z7)] bB) ct)) aEm
def aLG:=nU amM lz [(150,.eE amN)] ⟨aLF,trivial⟩ func80 Ju (S ad (S ad (K [(0,l6),(3,.own 3),(4,ao)] [(3,z7)] (X [(0,l6),(3,.own 3),(4,ao),(12,l6),(13,ao),(14,ao)] [(3,z7)] bB) (J [(3,.own 3),(4,ao)] [(3,z7)] (X [(3,.own 3),(4,ao),(23,l6),(24,ao),(25,ao)] [(3,z7)] PG) (K [(3,.own 3),(10,.own 10)] [(3,z7),(10,gl)] (X [(3,.own 3),(10,.own 10),(51,ao),(52,ao)] [(3,z7),(10,gl)] bB) ct))))) aEo
def aLH:=nU aLG lz [(79,.eE Yu),(82,.eE PO)] ⟨amK,Yr,trivial⟩ func40 OV (K [(0,l6),(3,bG 3)] J4 ad (S (S ad (B (cr [(3,bG 3)] J4 [(3,bG 100003),(7,l6)] [(100003,.cells qD [.hS 100003,.own 130000]),(130000,gl)] [] [(100003,.cells qD [.hS 100003,.own 130000]),(130000,gl)] ad (B ad)))) ct)) aEr
def mJ:=nT aLH [] func10 Fm X6 aEx
def aLI:=mk mJ func190 OK (S ad (K [(3,.own 3)] [(3,fK)] (X [(3,.own 3),(11,JZ),(12,ao),(13,ao)] [(3,fK)] PG) ct)) aEl
def aLJ:=nU aLI lz [(79,.eE Yu),(82,.eE PO)] ⟨amK,Yr,trivial⟩ func109 yk (S ad (K [(0,alh),(4,.own 4),(5,bG 5)] X3 ad (J [(4,.own 4),(5,bG 5)] X3 (X [(4,.own 4),(5,bG 5),(10,alh),(11,ao),(12,ao)] X3 PG) bW))) aFw
def tU:=mk aLJ func150 yg alX aEe
def aLK:cO:=⟨⟨[(0,.val D7),(1,.val bX),(2,.val bX)],[]⟩,⟨[(0,.own 7)],[(7,.bo e5)]⟩,[none],3,akt⟩
theorem aLL:cW Tryz.prog dV 150 aLK:=ey tU [] trivial func150 alX aFV
theorem aLM:F4 Tryz.prog 150 (.aw D7 (.aw cU cU)) rB yg.sh:=(aDG (ts:=(.aw D7 (.aw cU cU))) (e:=e5) (by decide) rfl aLL lz (b0:=7) (λx=>(x.1,x.2.1,x.2.2,())) (λx=>rfl) rfl (by decide) rfl (λbn=>bn.1) (λbn=>⟨rfl,rfl⟩) (λx h=>⟨h,λbn aH=>congrArg (λz=>z.1) aH⟩)).2
def Ab:dX:={tZ:=λ_=>none,t_:=λk=>if k=147 then some ⟨[rB],[bX],hd,wS.sh⟩ else none,Ao:=λk=>if k=81 then some ⟨(.slice my),e5,kM,oJ.pre,oJ.g,false⟩ else if k=109 then some ⟨(.slice (.slice my)),e5,(.aw nS hd),yk.pre,yk.g,false⟩ else if k=148 then some ⟨(.aw (.slice my) Tk),e5,hd,(h_ (.slice (.int .u8))).pre,(h_ (.slice (.int .u8))).g,false⟩ else if k=149 then some ⟨my,e5,e5,p3.pre,p3.g,false⟩ else if k=150 then some ⟨(.aw (.slice my) (.aw bX bX)),e5,rB,yg.pre,yg.g,true⟩ else none}
theorem aLN:q2 Tryz.prog Ab where
 tZ:=by
  intro k v h;cases h
 t_:=by
  intro k v h;simp only[Ab]at h;split at h
  ·cases h;subst_vars;exact⟨rfl,(tU.ok (147,wS.dL) (uW (by kernel_rfl))).1⟩
  cases h
 Ao:=by
  intro k v h;simp only[Ab]at h;split at h
  ·cases h;subst_vars;exact⟨(tU.ok (81,oJ.dL) (uW (by kernel_rfl))).1,λh=>by cases h⟩
  split at h
  ·cases h;subst_vars;exact⟨(tU.ok (109,yk.dL) (uW (by kernel_rfl))).1,λh=>by cases h⟩
  split at h
  ·cases h;subst_vars;exact⟨(tU.ok (148,(h_ (.slice (.int .u8))).dL) (uW (by kernel_rfl))).1,λh=>by cases h⟩
  split at h
  ·cases h;subst_vars;exact⟨(tU.ok (149,p3.dL) (uW (by kernel_rfl))).1,λh=>by cases h⟩
  split at h
  ·cases h;subst_vars;exact⟨(tU.ok (150,yg.dL) (uW (by kernel_rfl))).1,λ_=>aLM⟩
  cases h
def amO:cO:=⟨⟨[(0,.val kM)],[(140000,.bU e5)]⟩,⟨[(0,.own 50140),(1,.val hd)],[(50140,.bo FA),(140000,.bU e5)]⟩,[none,none],1,Xe⟩
theorem aLO:cW Tryz.prog Ab 75 amO:=Xt tU [(107,.dL Pl.dL)] ⟨⟨aGf,λ_ _=>sc⟩,trivial⟩ func75 (S ad (K [(4,.own 4)] [(4,J0),(140000,.bU e5)] (B (W [(0,lb),(4,.own 4)] [(4,J0),(140000,.bU e5)] (S aF (B (S ad (S bQ (K [(4,.own 4),(6,lb),(8,.own 8)] [(4,J0),(8,alf),(140000,.bU e5)] (X [(4,.own 4),(6,lb),(8,.own 8),(24,l6),(25,ao),(26,ao)] [(4,J0),(8,alf),(140000,.bU e5)] bB) (S ad (S ad (S bQ ad)))))))))) ct)) aFd
def amP:cO:=⟨⟨[(0,.val e5),(1,bG 100011),(2,bG 100010)],[(100010,.gE uR),(100011,.cells my [.val my]),(140000,.bU e5)]⟩,⟨[(0,.val hd)],[(100010,.gE uR),(100011,.cells my [.val my]),(140000,.bU e5)]⟩,[none],3,O5⟩
theorem aLP:cW Tryz.prog Ab 153 amP:=Xt tU [] trivial func153 qb aEO
def amQ:cO:=⟨⟨[(0,.val rB),(1,.jl 153 [(100011,0),(100010,0)])],[(100010,.gE uR),(100011,.cells my [.val my]),(140000,.bU e5)]⟩,⟨[(0,.val bX)],[(100010,.gE uR),(100011,.cells my [.val my]),(140000,.bU e5)]⟩,[none],2,O_⟩
theorem aLQ:cW Tryz.prog Ab 219 amQ:=ey tU [(153,.eE amP)] ⟨aLP,trivial⟩ func219 (K [] alV (X [(0,ale),(1,.jl 153 [(100011,0),(100010,0)]),(7,ao),(8,ao)] alV c7) ct) aES
def amR:cO:=⟨⟨[(0,.val rB),(1,.jl 153 [(100011,0),(100010,0)])],[(100010,.gE uR),(100011,.cells my [.val my]),(140000,.bU e5)]⟩,⟨[(0,.val hd)],[(100010,.gE uR),(100011,.cells my [.val my]),(140000,.bU e5)]⟩,[none],2,O'⟩
theorem aLR:cW Tryz.prog Ab 151 amR:=ey tU [(219,.eE amQ)] ⟨aLQ,trivial⟩ func151 bW aEV
def amS:=mk tU func152 Jq (S ad (K [(1,.own 1)] [(1,gl)] (X [(1,.own 1),(2,aHW)] [(1,gl)] tT) ct)) aEf
def amT:cO:=⟨⟨[(0,.val FA)],[(140000,.bU e5)]⟩,⟨[(0,.val bX),(1,.val uR)],[(140000,.bU e5)]⟩,[none,none],1,JD⟩
theorem aLS:cW Tryz.prog Ab 76 amT:=Xt amS [(151,.eE amR)] ⟨aLR,trivial⟩ func76 (S ad (K [(0,FK),(3,bG 3),(4,.own 4),(5,.own 5)] FP (X alB FP (S ad (S eR (J alB FP Aa ad)))) (J [(0,FK),(3,bG 3),(4,.own 4),(5,.own 5)] FP (X alH FP (S ad (S eR (J alH FP vm ad)))) (S bQ (S bQ (S ad (S ad (S ad (S (S ad (C bW ad)) ct))))))))) aEX
def aLT:=aGl amS aLN [(75,.eE amO),(76,.eE amT)] ⟨aLO,aLS,trivial⟩ func46 qP (S ad (S ad (S bQ (K [(3,.own 3),(5,.own 50150)] X4 (X [(3,.own 3),(5,.own 50150),(7,ao),(20,.own 50150),(21,ao),(22,ao)] X4 (S ad (S eR (S (B (S ad (K [(3,.own 3),(5,.own 50150),(7,ao),(9,FK),(10,ao),(20,.own 50150),(21,ao),(22,ao)] X4 (S ad (S ad (B (S ad (C ct aF))))) ct))) ad)))) l7)))) UC
def wb:=mk aLT func14 FE (S ad l7) aHe
def aLU:=mk wb func33 Pq (S ad (K [(2,l6),(3,.own 3),(4,ao)] [(3,b1)] (X [(2,l6),(3,.own 3),(4,ao),(14,eX),(15,ao),(16,ao)] [(3,b1)] (S ad (S eR (J [(2,l6),(3,.own 3),(4,ao),(14,eX),(15,ao),(16,ao)] [(3,b1)] vm ad)))) ct)) aFK
def aLV:=mk aLU func191 Vg bW azP
def aLW:=mk aLV func111 N5 bW aBr
def aLX:=mk aLW func51 W.Oq bW W.aCE
def Ia:=mk aLX func17 JU qb aHS
def aLY:=mk Ia func27 W.oJ (S ad (S bQ (K [(3,lb)] [] (B (W [(0,ao),(3,lb)] [] (S aF (B ct)))) ct))) W.WL
def aLZ:=mk aLY func25 W.Py (K [(0,lb)] [] (X [(0,lb),(1,eX),(5,ao)] [] tT) ct) W.aHk
def Ib:=mk aLZ func18 W.JS (S ad (K [(1,bG 1),(3,.own 3)] [(1,FI),(3,fK)] (X [(1,bG 1),(3,.own 3),(4,ao)] [(1,FI),(3,fK)] tT) (J [(3,.own 3)] [(3,fK)] (X [(1,bG 1),(3,.own 3),(5,ao)] [(1,FI),(3,fK)] (S aF (J [(1,bG 1),(3,.own 3),(5,ao)] [(1,FI),(3,fK)] vm ad))) ct))) W.aHO
def aL0:=mk Ib func41 O3 (S ad (S bQ (K [(6,ao)] [] (X [(0,lb),(1,ao),(6,ao),(7,ao)] [] (S aF (J [(0,lb),(1,ao),(6,ao),(7,ao)] [] (B aF) ad))) ct))) aEM
def jb:=mk aL0 func11 Ps (S ad (K [(4,lb),(5,.own 5)] [(5,b1)] (X [(0,lb),(1,nA),(4,lb),(5,.own 5),(7,ao)] [(5,b1)] (S aF (J [(0,lb),(1,nA),(4,lb),(5,.own 5),(7,ao)] [(5,b1)] (B (S ad (S bQ (J [(0,lb),(1,nA),(4,lb),(5,.own 5),(7,ao),(8,ao)] [(5,b1)] (X [(0,lb),(1,nA),(4,lb),(5,.own 5),(7,ao),(8,ao),(10,ao)] [(5,b1)] jn) ct)))) ad))) ct)) aGs
def Ic:=mk jb func19 JN (S ad (S ad (S bQ (K [(8,lb),(10,qZ)] [] (X [(8,lb),(9,eX),(10,qZ),(11,ao)] [] (S aF (J [(8,lb),(9,eX),(10,qZ),(11,ao)] [] (B (X [(8,lb),(9,eX),(10,qZ),(11,ao),(12,ao)] [] tT)) ad))) ct)))) aHi
def aL1:=mk Ic func112 xM (S ad (S ad (S ad (K [(2,bG 2),(3,bG 3)] [(2,.cells qB [.dd,.dd,ao,.dd]),(3,.cells qB [.own 8,.own 59,ao,.own 12]),(8,FL),(12,FJ),(59,J1)] (X X1 alQ (S aF (J X1 alQ (B (K [(1,bG 1),(2,bG 2),(3,bG 3),(4,ao),(5,bG 5)] alO (X [(1,bG 1),(2,bG 2),(3,bG 3),(4,ao),(5,bG 5),(6,ao)] alO tT) ad)) ad))) ct)))) Uc
def aL2:=mk aL1 func52 N3 (S ad (S ad (S ad (S ad (K [(1,bG 1),(2,bG 2),(3,bG 3)] X2 (X X1 X2 tT) (J [(2,bG 2),(3,bG 3)] [(2,.cells t32 [.dd,.dd,ao,.dd,.dd,.dd,.dd,.dd,ao]),(3,.cells t32 [q0,sJ,ao,tR,.own 11,.own 16,.own 20,.own 24,ao]),(11,b1),(16,XV),(20,XW),(24,z8)] (X [(1,bG 1),(2,bG 2),(3,bG 3),(5,ao)] X2 tT) ct)))))) aBp
def aL3:=mk aL2 func53 H.xM qb H.Uc
def TZ:=mk aL3 func20 W.JP bW W.aHq
def T0:=mk TZ func21 W.JO (K [(0,l6),(1,ao)] [] (X [(0,l6),(1,ao),(5,ao)] [] jn) ct) W.aHp
def aL4:=mk T0 func60 W.Jh (S ad (S bQ (J [] [] (X [(0,eX),(1,eX),(5,ao)] [] jn) ct))) W.aHP
def T2:=mk aL4 func23 W.JT al0 W.aHQ
theorem am_:hI Tryz.prog 4 (.aw Ad (.aw PS Ka)) hd (λx=>Xu W.Ji.sh W.vc.sh FE.sh W.JP.sh JU.sh W.JS.sh JN.sh W.JO.sh H.iU.sh W.JT.sh x):=MC T2 lz (sp:=[]) trivial func4 (ann:=(S ad (S bQ (S ad (S ad (S bQ qb)))))) (λx=>w0 _) (by kernel_rfl) λx=>by kernel_rfl
end
end Go.Fer.Sk
namespace Go.Fer.Sk
open Go Go.Proofs
theorem am7{H:Type}{enc:TypeId×Value->H}{a:Assume}{C:Checked}{os:Os}{f:FuncId}{fn:Func}{s:ChangeSpec}{conds:List PathCond}{apart tY handsOn again:Bool}{X:World->Array Value->Prop}
  (yT:∀ (w w':World) (args:Array Value),w.heap=w'.heap->X w args->X w' args)
  (own:ownKnob C.prog.godebug=none) (started:os.Started) (aL5:C.prog.inits.idxOf? f=none) (ho:C.prog.funcs[f]?=some fn)
  (witness:∃ (w:World) (tape:Tape) (i:Input),w.os=os/\(w.forCall tape i).Shaped C.prog/\i.vars=[]/\Input.okWide C.prog (w.forCall tape i) .any w.heap.size f i/\
   ((s.pre enc C.prog fn conds apart (w.forCall tape i).memory i.args/\X (w.forCall tape i).memory i.args)/\sizedMet enc C.prog fn (OpenSpec.ofChange s) apart (w.forCall tape i).memory i.args)/\a.holds C.prog (lone (Frame.enter C.prog f i.args .normal) [] (w.forCall tape i)))
  (aL6:∀ (W:World) (base:Nat) (args:Array Value) (bE gs:List (DataW H)) (before:List MemPlace),(∀ (j:Nat) t v,fn.params[j]?=some t->args[j]?=some v->Value.okWide C.prog W .any base t v)->
   DataW.Whole enc C.prog fn.params.toList s.vars apart W args.toList bE gs before->
   W.ShapedOpen C.prog->X W args->
   Calls C.prog f args W λe tc=>∃ v,e=.returned v/\s.post enc C.prog fn apart tY handsOn again W args v tc) :
  ReturnsInHanded a C os f .any (λw args=>(s.pre enc C.prog fn conds apart w args/\X w args)/\sizedMet enc C.prog fn (OpenSpec.ofChange s) apart w args) (s.post enc C.prog fn apart tY handsOn again):=by
 refine returnsInHanded_of_calls own started aL5 witness ?_;intro w tape i _ j6 _ b8 hW aQr;obtain⟨_,_,_,aL7,aL8,_,_,_,_,BB⟩:=b8;have e:aL7=fn:=aQ7 (aL8.symm.trans ho);subst e;obtain⟨⟨⟨bE,gs,before,hw,hc⟩,an⟩,bz⟩:=hW;have DI:=DataW.Whole.of_heap (w':=w.forCall tape i) (by rfl) hw;refine (aL6 (w.forCall tape i) w.heap.size i.args bE gs before BB DI j6 (yT (w.forCall tape i).memory (w.forCall tape i) i.args rfl an)).mono λe tc ⟨v,he,ak⟩=>?_;subst he;exact ChangeSpec.post_blind ak
theorem PR{P:Program}{w:World}:∀ {l:List (String×DataW Unit)} {bw:List MemPlace},DataW.LaidVars P w l bw->∀ n d,(n,d)∈l->∃ g t cs cX p,P.globalNamed n=some g/\(P.globals[g]?).map (·.type)=some t/\w.var? P n=some cs/\DataW.trod (λ_=>()) P w 0 (λ_=>true) false cX t cs.toList=some (d,p)
 | [],_,_,_,_,hm=>by cases hm
 | (kD,Av)::r,bw,h,n,d,hm=>by
  obtain⟨g,t,cs,cX,p,q,E,M,al,a7,bR,_⟩:=h;rcases List.mem_cons.1 hm with e | e
  ·cases e;exact⟨g,t,cs,cX,p,E,M,al,a7⟩
  ·exact PR bR n d e
theorem am6{P:Program}{w:World}{n:String}{g:Nat}{t:TypeId}{d:DataW Unit}{cX:Nat}{cs:Array Value}{p:List MemPlace}(aB:P.globalNamed n=some g)(ag:w.var? P n=some cs)(hu:∃ ms,P.underlying t=some (.interface ms))
  (h:DataW.trod (λ_=>()) P w 0 (λ_=>true) false cX t cs.toList=some (d,p)):∃ v,w.cell? ⟨g,0,none⟩=some v/\(v=.nilIface\/∃ n7 oL,v=.iface n7 oL):=by
 obtain⟨ms,hu⟩:=hu;have hc:w.cell? ⟨g,0,none⟩=cs[0]?:=by
  unfold World.var? at ag;rw[aB]at ag;simp only[Option.bind_some]at ag;cases au:w.heap[g]? with
  | none=>rw[au]at ag;cases ag
  | some o=>
   rw[au]at ag;cases o with
   | cells a T wj=>cases ag;simp[World.cell?,au]
   | _=>cases ag
 have aH:cs[0]?=cs.toList[0]?:=by simp
 rw[hc,aH];generalize cs.toList=l at h;cases cX with
 | zero=>simp[DataW.trod]at h
 | succ cX=>
  match l with
  | []=>simp[DataW.trod,hu]at h
  | [.nilIface]=>exact⟨_,rfl,.inl rfl⟩
  | [.iface u v]=>exact⟨_,rfl,.inr ⟨u,v,rfl⟩⟩
  | _::_::_=>simp[DataW.trod,hu]at h
  | [x]=>cases x<;>first | exact⟨_,rfl,.inl rfl⟩ | exact⟨_,rfl,.inr ⟨_,_,rfl⟩⟩ | (simp[DataW.trod,hu]at h;done)
theorem aL9:((List.range 8).all λb=>(((begin Tryz.prog (λ_ _=>0) default).world.heap[b]?).bind Obj.row?).isSome)=true:=by kernel_rfl
theorem ana{W : World}(h : W.ShapedOpen Tryz.prog)(E : ∃ v, W.cell? ⟨1, 0, none⟩ = some v /\ (v = .nilIface \/ ∃ n7 oL, v = .iface n7 oL))(M : ∃ v, W.cell? ⟨2, 0, none⟩ = some v /\ (v = .nilIface \/ ∃ n7 oL, v = .iface n7 oL))(aH : Lib.TabIs Tryz.prog W "internal/strconv.uint64pow10" .u64 Lib.pow10Tab) : pj Tryz.prog (th W) W := λb U => by
 have ld:b<8:=aQt U (aQR (by kernel_rfl));refine⟨?_,?_⟩
 ·have D:=List.all_eq_true.1 aL9 b (List.mem_range.2 ld);obtain⟨⟨zero,t⟩,bz⟩:=Option.isSome_iff_exists.1 D;obtain⟨cs,dj,_⟩:=h.1 b zero t U bz;exact (Array.getElem?_eq_some_iff.1 dj).1
 ·match b,U,ld with
  | 0,U,_=>exact cell_of_shapedOpen_int (t:=3) (zero:=#[.int .i64 0]) h U (by kernel_rfl) rfl (by kernel_rfl) (by kernel_rfl) Tryz.underlying3
  | 1,_,_=>exact E
  | 2,_,_=>exact M
  | 3,_,_=>trivial
  | 4,_,_=>trivial
  | 5,_,_=>
   show ∀ i,W.cell? ⟨5,i,none⟩=if i<20 then some (.int .u64 (10 ^ i)) else none
   unfold Lib.TabIs World.var? at aH;rw[show Tryz.prog.globalNamed "internal/strconv.uint64pow10" = some 5 by kernel_rfl]at aH;change (match W.heap[5]? with | some (.cells cs _ _)=>some cs | _=>none)=_ at aH;intro i;cases au:W.heap[5]? with
   | none=>rw[au]at aH;cases aH
   | some o=>
    rw[au]at aH;cases o with
    | cells cs T wj=>
     simp only[amZ]at aH;simp only[World.cell?,au,aH];simp only[Option.isSome_none,amW,aQv,aRn,aRI,Lib.pow10Tab];split
     ·rename_i Fw;rw[List.getElem?_range Fw];simp
     ·rename_i Fw;rw[List.getElem?_eq_none (by simp;omega)];rfl
    | _=>cases aH
  | 6,_,_=>trivial
  | 7,_,_=>trivial
end Go.Fer.Sk
