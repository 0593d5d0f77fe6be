/- Part 8 of the proof of TopPlanned: shallow programs of Go functions, and what they compute. No condition. -/
import Derived.Test.YtjjgkigajpocoaaGreatDoorTopPlannedG
import Derived.Handed
import Derived.Shelf.Vars
import Derived.Lib.LaidTab
import Derived.Lib.ItoaNum
noncomputable section
set_option linter.unusedVariables false
set_option linter.unusedSimpArgs false
namespace Go.Fer
def W7(afw:bH×List bd->M Bool)(UM:bH->M Int)(aFN:bH×bd->M (List bd×bH×Int))(UN:bH×bH->M Bool)(Ju:Unit->M Bool)(aFO:List bd×z4'->M (bd×Bool))(agf:bJ->M (z18'))(afy:bd×z1'->M bd)(M5:bJ->M (z12'))(M1:Int->M bd)(x:bH×z4'):M Bool:=
 letI f:=Int.ofNat (List.length x.1.1.2.2.2.1);aq (afw (x.1,[])) λy=>aq (yz (!y) (UM x.1) 0) λcn=>if (y||decide (cn≠0))=true then aq (Ju ()) λy=>mpure y else aq (agf x.1.1) λy=>if (decide (y.2≠0)&&decide (y.2≠3)||decide (y.2=0)&&decide (Int.ofNat (List.length y.1)≠f))=true then mpure false else ae (0<=f/\f=f/\cb (Int.toNat f)) (aq (dA (λ(A:z4'×z1'×Int×bH×z1'×Unit)=>letI n:=A.2.2;letI p:=Int.toNat n.1;letI cr:=List.getD A.2.1 p 0;letI i:=decide (List.getD A.2.1 p (0:Int)< -1);letI g:=n.1<Int.ofNat (List.length A.2.1);letI z:=0<=n.1/\g;letI b:=(!i)=true;letI o:=b->b/\True/\True;if decide g=true then ae z (ae (b->(b/\b)/\z/\True) (ae o (ae o (ae o (ae o (ae (b->(b/\b)/\True/\True) (ae (True/\(i=false->b)) (if (i||decide (cr>=Int.ofNat (List.length n.2.1.1.2.2.1)))=true then aq (aq (mpure false) (λr=>mpure (aJ.aV r))) λr=>mpure (aJ.aV r) else ae z (ae (0<=n.1/\n.1<Int.ofNat (List.length n.2.2.1)) (mpure (aJ.aw (A.1,A.2.1,IntKind.wrap .i64 (Add.add n.1 1),n.2.1,List.set n.2.2.1 p (IntKind.wrap .i64 (Add.add cr 1)),())))))))))))) else aq (mpure (aJ.aw (A.1,n.2.1,n.2.2.1,()))) λr=>mpure (aJ.aV r)) (x.2,y.1,0,x.1,List.replicate (Int.toNat f) 0,())) (aJ.fC (λ(A:z4'×bH×z1'×Unit)=>aq (afy ([116,97,107,101,115],A.2.2.1)) λy=>aq (aFO ([y,[109,111,115,116],[101,120,116,114,97]],A.1)) λy=>if (!y.2)=true then aq (Ju ()) λy=>mpure y else aq (aFN (A.2.1,y.1)) λy=>letI u:=List.getD y.1 (Int.toNat 2) [];letI s:=decide (y.2.2≠0);letI k:=Int.ofNat (List.length y.1);letI w:=((0:Int)<=2/\2<k)/\True;letI j:=(!s)=true;letI c:=s||decide (k≠3);letI l:=(!c)=true;letI cT:=l->l/\True/\True;letI a:=c||decide (List.getD y.1 (Int.toNat 0) []≠List.getD y.1 (Int.toNat 1) []);letI h:=(!a)=true;letI v:=h->(h/\True)/\True/\True;letI q:=h->h/\True/\True;ae (j->j/\True/\True) (ae (j->(j/\True)/\True/\True) (ae (True/\(s=false->j)) (ae (l->(l/\True)/\((0:Int)<=0/\0<k)/\True) (ae cT (ae (l->(l/\True)/\((0:Int)<=1/\1<k)/\True) (ae cT (ae (l->(l/\l)/\True/\True) (ae (True/\(c=false->l)) (ae q (ae v (ae q (ae v (ae (h->(h/\h/\True)/\(UN ((y.2.1.1,[],[],[],[],0,0,0,0,0,0,0),A.2.1.1,[],[],[],[],0,0,0,0,0,0,0)).e3/\True) (ae q (ae (True/\(a=false->h)) (if (a||!(M.val (UN ((y.2.1.1,[],[],[],[],0,0,0,0,0,0,0),A.2.1.1,[],[],[],[],0,0,0,0,0,0,0)) false))=true then mpure false else aq (M5 A.2.1.1) λdZ=>letI bG:=decide (dZ.1>=0);letI t:=decide (dZ.2=3);letI m:=t&&decide (u=[110,111,110,101]);letI e:=bG=true;letI d:=bG&&decide (u=M.val (M1 dZ.1) []);if decide (dZ.2=0)=true then ae (e->(e/\True)/\w) (ae (e->e/\True/\True) (ae (e->(e/\True)/\(M1 dZ.1).e3/\True) (ae (e->(e/\e)/\True/\True) (ae (True/\(e->e)) (ae (d=true->True/\(Ju ()).e3/\True) (ae (True/\(d=true->d=true)) (mpure (d&&M.val (Ju ()) false)))))))) else ae (t=true->(t=true/\True)/\w) (aq (yz m (Ju ()) false) (λie=>mpure (m&&ie))))))))))))))))))))))
def ajW(aFP:bd->M (List bd×z1'×Int))(M4:bJ->M (z12'))(afB:Unit->M bH)(x:Unit):M Bool:=
 aq (aFP [34,97,120,70,10,33,99,32,100,10,35,69,98,43,10,10]) λy=>letI b:=Int.ofNat (List.length y.1);aq (afB ()) λcn=>aq (M4 cn.1) λdZ=>letI a:=decide (y.2.2=0)&&decide (dZ.2=0)&&decide (b=2);ae (a=true->(a=true/\True)/\((0:Int)<=0/\0<b)/\True) (mpure (a&&decide (List.getD y.1 (Int.toNat 0) []=[97,98])&&decide (Int.ofNat (List.length y.2.1)=1)&&decide (dZ.1=1600)))
def ajX(Wg:List bd->M (bd×Int))(aFQ:bd×z4'->M (bd×z1'×Bool))(x:List bd×z4'):M (bd×Bool):=
 aq (Wg x.1) λy=>if (decide (y.2≠0)||decide (Int.ofNat (List.length x.2) > 10)||decide (Int.ofNat (List.length y.1) > 8000))=true then mpure ([],false) else aq (aFQ (y.1,x.2)) λy=>aq (dA (λ(A:bd×z1'×Bool×Int×Unit)=>if decide (A.2.2.2.1<Int.ofNat (List.length A.2.1))=true then aq (dA (λ(A:bd×z1'×Bool×Int×Int×Unit)=>letI c:=Int.ofNat (List.length A.2.1);letI b:=A.2.2.2;letI a:=A.2.2.1=true;letI d:=a->a/\True/\True;if decide (b.2.1<b.1)=true then ae (a->(a/\a)/\(0<=b.1/\b.1<c)/\True) (ae d (ae (a->(a/\a)/\(0<=b.2.1/\b.2.1<c)/\True) (ae d (ae (a->(a/\a)/\True/\True) (ae (True/\(a->a)) (mpure (aJ.aw (A.1,A.2.1,A.2.2.1&&decide (List.getD A.2.1 (Int.toNat b.1) 0≠List.getD A.2.1 (Int.toNat b.2.1) 0),b.1,IntKind.wrap .i64 (Add.add b.2.1 1),())))))))) else aq (mpure (aJ.aw (A.1,A.2.1,A.2.2.1,b.1,()))) λr=>mpure (aJ.aV r)) (A.1,A.2.1,A.2.2.1,A.2.2.2.1,0,())) (aJ.fC (λ(A:bd×z1'×Bool×Int×Unit)=>mpure (aJ.aw (A.1,A.2.1,A.2.2.1,IntKind.wrap .i64 (Add.add A.2.2.2.1 1),())))) else aq (mpure (aJ.aw (A.1,A.2.2.1,()))) λr=>mpure (aJ.aV r)) (y.1,y.2.1,y.2.2,0,())) (aJ.fC (λ(A:bd×Bool×Unit)=>mpure (A.1,A.2.1)))
def ajY(afz:bH×List bd->M (List bd×bH×Int))(Wc:bd->M (List bd×z1'×Int))(x:bH×bd):M (List bd×bH×Int):=
 aq (Wc x.2) λy=>if decide (y.2.2≠0)=true then mpure ([],((([],[],0,[]),[],[],[],[],0),[],[],[],[],0,0,0,0,0,0,0),y.2.2) else aq (afz (x.1,y.1)) λy=>mpure y
def wI(f:List UInt8)(l:z4')(i:Nat):Bool:=
 !(kr f (l.getD i (0,0)).1).2||decide ((l.getD i (0,0)).2<32)||decide ((l.getD i (0,0)).2 > 126)||decide (((f.getD (l.getD i (0,0)).1.toNat 0).toNat:Int)=(l.getD i (0,0)).2)||(l.take i).any λt=>decide (t.1=(l.getD i (0,0)).1)
def qM(n:List UInt8)(s:z12'):List UInt8:=n.set s.1.toNat (UInt8.ofNat s.2.toNat)
def mn(f:List UInt8)(l:z4'):List UInt8×z1'×Bool:=
 if (List.range l.length).any (wI f l)=true then ([],[],false) else (l.foldl qM f,l.map λs=>(kr f s.1).1,true)
theorem ajZ{ag bet rho:Type}{p:ag->Bool}{h:bet->ag->bet}{r:rho}{fin:bet->rho}:∀ (l:List ag) (b:bet),fa (λv b=>if p v=true then (.aV r:aJ bet rho) else .aw (h b v)) fin l b=if l.any p=true then r else fin (l.foldl h b)
 | [],b=>by rfl
 | v::l,b=>by
  simp only[fa,aQE];by_cases ai:p v=true
  ·grind
  ·simp only[ai,aQA];exact ajZ l _
variable {ag:Type}
theorem aj0{l:List ag}{d:ag}{n:Nat}(h:n<=l.length):(List.range n).map (λk=>l.getD k d)=l.take n:=by
 refine aRa (by grind) λk E L=>?_;grind
theorem aFR{l:List ag}{d:ag}{n:Nat}(q:ag->Bool)(h:n<=l.length):((List.range n).any λk=>q (l.getD k d))=(l.take n).any q:=by
 rw[<-aj0 h,List.any_map];rfl
theorem aFS{bet:Type}{l:List ag}{d:ag}(h:bet->ag->bet)(b:bet):(List.range l.length).foldl (λb k=>h b (l.getD k d)) b=l.foldl h b:=by
 have e:=aj0 (l:=l) (d:=d) (amn _);grind [List.foldl_map]
abbrev Pa:aO:=⟨.ar .str (.slice (.ad (.ar (.int .i64) (.int .i64)))),.ar .str (.ar (.slice (.int .i64)) .bool),λx=>List.length x.1<65536/\List.length x.2<65536,λx=>mn x.1 x.2⟩
theorem aFT(x):a8 (aiY OM.sh x) (Pa.sh x):=bx λh=>by
 change List UInt8×z4' at x;obtain⟨f,l⟩:=x;obtain⟨E,L⟩:f.length<65536/\l.length<65536:=h;unfold aiY b7 dp fT cB bD bf bQ;show _=mpure (mn f l);dsimp only;rw[e2 (List.range l.length) (λi (s:List UInt8×z1')=>(f,l,s.1,(i:Int),s.2,())) (λi s=>if wI f l i=true then .aV (.aV ([],[],false)) else .aw (qM s.1 (l.getD i (0,0)),s.2++[(kr f (l.getD i (0,0)).1).1])) (λs=>.aw (s.1,s.2,())) (λi s=>s.1.length=f.length/\s.2.length=i) (f,[]) ?_ ?_ ?_ ?_]
 ·rw[ajZ (h:=λ(s:List UInt8×z1') i=>(qM s.1 (l.getD i (0,0)),s.2++[(kr f (l.getD i (0,0)).1).1]))];unfold mn;by_cases U:(List.range l.length).any (wI f l)=true
  ·rw[if_pos U,if_pos U,aN,uG]
  ·rw[if_neg U,if_neg U,aN,cY];have e:(List.range l.length).foldl (λ(s:List UInt8×z1') i=>(qM s.1 (l.getD i (0,0)),s.2++[(kr f (l.getD i (0,0)).1).1])) (f,[])=(l.foldl qM f,l.map λs=>(kr f s.1).1):=by
    rw[aFS (h:=λ(s:List UInt8×z1') v=>(qM s.1 v,s.2++[(kr f v.1).1]))];have:∀ (l:z4') (n:List UInt8) (o:z1'),l.foldl (λ(s:List UInt8×z1') v=>(qM s.1 v,s.2++[(kr f v.1).1])) (n,o)=(l.foldl qM n,o++l.map λs=>(kr f s.1).1):=by
     intro l;induction l with
     | nil=>intro n o;simp
     | cons v l aP=>intro n o;rw[aP3,aP];simp
    rw[this,aQk]
   rw[e]
 ·rfl
 ·exact⟨rfl,rfl⟩
 ·intro i G s az;obtain⟨now,W8⟩:=s;obtain⟨s1,s2⟩:now.length=f.length/\W8.length=i:=az;have G:i<l.length:=by simpa using G
  have GK:(List.range l.length)[i]'(by simpa using G)=i:=aPJ ..;rw[GK];have hw:=bs (n:=(i:Int)+1);have Cq:((i:Int)).toNat=i:=rfl;have wJ:=bP (show f.length<65536 from E) (kr f (l.getD i (0,0)).1);have sW:wI f l i=(!(kr f (l.getD i (0,0)).1).2||decide ((l.getD i (0,0)).2<32)||decide ((l.getD i (0,0)).2 > 126)||decide (((f.getD (l.getD i (0,0)).1.toNat 0).toNat:Int)=(l.getD i (0,0)).2)||(l.take i).any λt=>decide (t.1=(l.getD i (0,0)).1)):=rfl;have kh:(kr f (l.getD i (0,0)).1).2=true->0<=(l.getD i (0,0)).1/\(l.getD i (0,0)).1<(f.length:Int):=λe=>by
   unfold kr at e;by_cases hc:(l.getD i (0,0)).1<0\/(f.length:Int)<=(l.getD i (0,0)).1\/f.getD (l.getD i (0,0)).1.toNat 0=10
   ·rw[if_pos hc]at e;cases e
   ·refine⟨?_,?_⟩
    ·rcases Int.lt_or_le (l.getD i (0,0)).1 0 with k | k
     ·exact absurd (.inl k) hc
     ·exact k
    ·rcases Int.lt_or_le (l.getD i (0,0)).1 (f.length:Int) with k | k
     ·exact k
     ·exact absurd (.inr (.inl k)) hc
  have Fc:=aFR (l:=l) (d:=(0,0)) (n:=i) (λt=>decide (t.1=(l.getD i (0,0)).1)) (Nat.le_of_lt G);have aPx:l.getD i (0,0)=l[i]:=by rw[amq,ams G];rfl
  refine⟨?_,λs' vg=>?_⟩
  ·simp only[cC,dQ G,if_true,Cq,Prod.cv,Prod.fE];rw[show (0<=(i:Int)/\(i:Int)<(l.length:Int))=True from dK G];generalize ai:l.getD i (0,0)=s at wJ sW kh Fc;obtain⟨p,v⟩:=s;dsimp only at wJ sW kh Fc ⊢;rw[show OM.sh (f,p)=mpure (kr f p) from wJ];generalize pC:kr f p=N at sW kh;obtain⟨n,g⟩:=N;dsimp only at sW kh ⊢;simp only[aN,cp];cases g with
   | false=>
    simp_all
   | true=>
    obtain⟨fs,fQ⟩:=kh rfl;have iX:(0<=p/\p<(f.length:Int))=True:=by simp only[fs,fQ,aQK]
    simp only[aQm,aQu,aQA,iX,aPO,aQK,aRe,aRs,imp_self,aQa,cp];have aFU:(f.getD p.toNat 0).1.1.1=(f.getD p.toNat 0).toNat:=rfl;have aPy:=(f.getD p.toNat 0).toNat_lt;have yJ:=bs (n:=((f.getD p.toNat 0).toNat:Int));rw[aFU,yJ];cases hc:(decide (v<32)||decide (v > 126)||decide (((f.getD p.toNat 0).toNat:Int)=v)) with
    | true=>
     simp_all
    | false=>
     have aFV:wI f l i=(l.take i).any λt=>decide (t.1=p):=by
      rw[sW];have:(!true||decide (v<32)||decide (v > 126)||decide (((f.getD p.toNat 0).toNat:Int)=v))=false:=hc;rw[this,aQA]
     rw[aFV,if_neg (by decide)];have af:32<=v/\v<=126:=by
      simp only[aQo,aPX]at hc;omega
     rw[eH (List.range i) (λk (_:Unit)=>(f,l,now,(i:Int),n,(k:Int),W8,())) (λk u=>if decide ((l.getD k (0,0)).1=p)=true then .aV (.aV (.aV (.aV (.aV ([],[],false))))) else .aw u) (λ_=>.aw (f,l,now,(i:Int),n,W8,())) () ?_ ?_ ?_]
     ·rw[uH,Fc];cases (l.take i).any λt=>decide (t.1=p) with
      | true=>
       simp
      | false=>
       rw[if_neg (by decide),aN,cY];simp only[Cq,cC,Prod.cv,ai];have iy:(p+1).toNat=p.toNat+1:=by omega
       have Wx:=bs (n:=p+1);have Uv:p.toNat<now.length:=by omega
       have aFW:((now.length:Int)).toNat=now.length:=rfl;have aFX:ff [IntKind.wrap .u8 v]=[UInt8.ofNat v.toNat]:=by rw[Ce (by omega) (by omega)];rfl
       have mb:=aFd Uv (UInt8.ofNat v.toNat);simp only[dm,Wx,iy,aFW,aQc,aFX,mb];have bf:(0<=(i:Int)/\i<(l.length:Int)):=⟨by omega,by omega⟩
       rw[bc bf,bc ⟨aPP _,fs,by omega⟩,bc bf,bc (by grind [cb]),bc bf,bc ⟨by omega,by omega,aPP _⟩,bc (by grind [cb]),bc (by grind [cb]),aN,cY];rw[hw];rfl
     ·rfl
     ·intro k ak u;have ak:k<i:=by grind
      have Ei:(List.range i)[k]'(by omega)=k:=aPJ ..;rw[Ei];have nN:=bs (n:=k+1);have Jv:((k:Int)).toNat=k:=rfl;have ax:decide (k<(i:Int))=true:=aP5 (by omega);simp only[ax,Jv,Cq,dm,nN,ai];rw[bc ⟨by omega,by omega⟩,bc ⟨by omega,by omega⟩];cases decide ((l.getD k (0,0)).1=p)<;>rfl
     simp
  ·grind [qM]
 simp
theorem aFY(x:Int)(l:z1'):jd (x::l)=x - 32+jd l:=rfl
theorem aj1:∀ (a b:z1'),jd (a++b)=jd a+jd b
 | [],b=>by grind [jd]
 | x::a,b=>by
  have:=aj1 a b;grind [aFY]
def nU(f:Nat->Int):Nat->Int
 | 0=>0
 | n+1=>nU f n+f n
theorem aj2{f g:Nat->Int}:∀ (n:Nat),(∀ c,c<n->f c=g c)->nU f n=nU g n
 | 0,_=>rfl
 | n+1,h=>by
  show nU f n+f n=nU g n+g n;rw[aj2 n λc hc=>h c (by omega),h n (by omega)]
theorem aj3(f g:Nat->Int):∀ n,nU (λc=>f c+g c) n=nU f n+nU g n
 | 0=>rfl
 | n+1=>by
  have:=aj3 f g n;grind [nU]
theorem aj4(f:Nat->Int):∀ n,nU (λc=>f c % 95) n % 95=nU f n % 95
 | 0=>rfl
 | n+1=>by
  have:=aj4 f n;grind [nU]
theorem W9(r:z1'):∀ n,n<=r.length->jd (r.take n)=nU (λc=>r.getD c 0 - 32) n
 | 0,_=>rfl
 | n+1,h=>by
  have aP:=W9 r n (by omega);have aC:n<r.length:=by omega
  have aD:r.getD n 0=r[n]:=by grind
  rw[aQH,ams aC,aj1,aP];show nU (λc=>r.getD c 0 - 32) n+(r[n] - 32+0)=nU (λc=>r.getD c 0 - 32) n+(r.getD n 0 - 32)
  omega
theorem aj5(n:Nat):∀ (R:List (z1')),(∀ r∈R,n<=r.length)->nU (λc=>jd (gh R (c:Int))) n=(R.map λr=>jd (r.take n)).sum
 | [],_=>by
  have:∀ n,nU (λc=>jd (gh [] c)) n=0:=by
   intro n;induction n with
   | zero=>rfl
   | succ n aP=>show nU _ n+jd []=0;rw[aP];rfl
  grind
 | r::R,h=>by
  have aP:=aj5 n R λr D=>h r (amr _ D);have e:∀ c:Nat,jd (gh (r::R) c)=(r.getD c 0 - 32)+jd (gh R c):=λc=>rfl;simp_all[aj3,W9]
theorem aj6:∀ (l:z1'),(l.map λx=>x % 95).sum % 95=l.sum % 95
 | []=>rfl
 | x::l=>by
  have:=aj6 l;grind
theorem aFZ{R:List (z1')}(w:Nat){pad:List (z1')}(fp:R=pad.map λp=>p++[lZ p])(ai:∀ p∈pad,p.length=w/\p.all fb=true):jd (gh R (w:Int)) % 95=((pad.map jd).sum) % 95:=by
 subst fp;have e:gh (pad.map λp=>p++[lZ p]) w=pad.map lZ:=by
  unfold gh;simp_all
 rw[e];have bz:jd (pad.map lZ)=((pad.map jd).map λx=>x % 95).sum:=by
  unfold jd;rw[aQ4,aQ4];grind [List.map_congr_left,Cp,jd]
 rw[bz,aj6]
variable {x:z2'}
theorem aF0(h:∀ t∈x,gF t):j9 (jv x)=[]:=by
 have aPz:=Jg h;have W_:=WX h;refine List.eq_nil_iff_forall_not_mem.2 λv af=>?_;obtain⟨i,G,rfl,U⟩:=E8.1 af;have ho:(jv x).length=x.length+1:=by unfold jv;simp
 rw[ho]at G;by_cases e:i<x.length
 ·have j7:(jv x).getD i []=pZ (fy x) x[i]:=by
   unfold jv;rw[amq,aP1 (by simpa using e),aQV,ams e];rfl
  have ah:=Ow (w:=fy x) (W_ _ (amk e));rw[j7]at U;unfold jY pZ at U;rw[aQg]at U;refine U ?_;have aE:(pY (fy x) x[i]++[lZ (pY (fy x) x[i])]).length - 1=(pY (fy x) x[i]).length:=by simp
  rw[aE,List.take_left,amq,amu (amn _),Nat.sub_self];rfl
 ·have GK:i=x.length:=by omega
  subst GK;generalize fp:x.map (pZ (fy x))=R;have j7:(jv x).getD x.length []=sv R (fy x+2):=by
   unfold jv;rw[amq,amu (by simp),fp];have:x.length - R.length=0:=by rw[<-fp];simp
   rw[this];rfl
  have OA:∀ r∈R,r.all fb=true/\r.length=fy x+2:=λr D=>by
   rw[<-fp]at D;obtain⟨t,aH,rfl⟩:=List.mem_map.1 D;exact⟨Oy (h t aH),Ox (W_ t aH)⟩
  have aF1:R=(x.map (pY (fy x))).map λp=>p++[lZ p]:=by rw[<-fp,aQ4];rfl
  have GQ:∀ p∈x.map (pY (fy x)),p.length=fy x+1/\p.all fb=true:=λp ai=>by
   obtain⟨t,aH,rfl⟩:=List.mem_map.1 ai;exact⟨Ow (W_ t aH),Ov (h t aH)⟩
  have aF2:∀ c:Nat,c<fy x+2->(gh R (c:Int)).all fb=true:=λc hc=>Jd λr D=>⟨(OA r D).1,by have:=(OA r D).2;omega⟩
  rw[j7]at U;unfold jY at U;rw[aQg]at U;refine U ?_;have fD:(sv R (fy x+2)).length=fy x+2:=by unfold sv;simp
  have aF3:∀ c,c<fy x+2->(sv R (fy x+2)).getD c 0=lZ (gh R (c:Int)):=λc hc=>by
   unfold sv;rw[amq,aQV,List.getElem?_range hc];rfl
  have Vd:(sv R (fy x+2)).all fb=true:=List.all_eq_true.2 λv af=>by
   unfold sv at af;grind [Wk]
  have aE:fy x+2 - 1=fy x+1:=by omega
  rw[fD,aE,aF3 _ (by omega),Cp (aF2 _ (by omega)),Cp (ai4 Vd _),aFZ (fy x+1) aF1 GQ];have t1:jd ((sv R (fy x+2)).take (fy x+1))=nU (λc=>jd (gh R c) % 95) (fy x+1):=by
   grind [W9,aj2,Cp]
  have bX:=aj4 (λc=>jd (gh R c)) (fy x+1);have cX:=aj5 (fy x+1) R λr D=>by grind
  have hH:(R.map λr=>jd (r.take (fy x+1)))=(x.map (pY (fy x))).map jd:=by
   simp_all
  grind
theorem aF4(h:∀ t∈x,gF t):k3 (fy x+2) (jv x)=[]:=by
 refine List.eq_nil_iff_forall_not_mem.2 λv af=>?_;obtain⟨c,hc,rfl,U⟩:=E9.1 af;grind [jv,k2,sv]
theorem aF5(h:∀ t∈x,gF t)(E:1<=x.length)(k6:x.length<=8):j_ (hT x)=(0,0,0):=by
 have az:=ajz h E k6;unfold j_;rw[az.wide];grind [Ws,k4,aF0,aF4]
section
variable {l:z2'}
theorem aj7(h:∀ t∈l,gF t):∀ b∈(gG l).map hT,j_ b=(0,0,0):=λb U=>by
 grind [Jk,aF5]
theorem aF6(h:∀ t∈l,gF t):∀ b∈(gG l).map hT,je b=b:=λb U=>aFh (Jt h b U) (by grind [aj7])
theorem aF7:(gG l).length=(l.length+7) / 8:=by
 have h:∀ k,k<(gG l).length<->8*k<l.length:=λk=>Wu;have E:=h ((l.length+7) / 8);rcases aQF (gG l).length ((l.length+7) / 8) with k | k
 ·have:=(h (gG l).length).2 (by omega);omega
 omega
theorem W'(h:∀ t∈l,gF t)(qK:l.length<=40):(k0 l).length<=3000:=by
 rw[Js];have:∀ B:List (z2'),(∀ b∈B,(eI b).length<=600)->(B.flatMap eI).length<=600*B.length:=by
  intro B;induction B<;>grind
 have:=this ((gG l).map hT) λb U=>OK (Jt h b U);grind [aF7]
end
end Go.Fer
namespace Go.Fer
abbrev fj:Type:=z2'
def ct(l:fj)(r c:Nat)(b:UInt8):fj:=l.set r ((l.getD r []).set c b)
def wK(B:List fj)(k r c:Nat)(b:UInt8):List fj:=B.set k (ct (B.getD k []) r c b)
def Cs(B:List fj)(k r c:Nat):UInt8:=((B.getD k []).getD r []).getD c 0
structure qN(B:List fj)(k r c:Nat):Prop where
 ak:k<B.length
 D:r<(B.getD k []).length
 hc:c<((B.getD k []).getD r []).length
def rD(B:List fj)(k r c:Nat):List UInt8:=(B.take k).flatMap eI++(kq ((B.getD k []).take r)++((B.getD k []).getD r []).take c)
def Pb(B:List fj)(k r c:Nat):List UInt8:=((B.getD k []).getD r []).drop (c+1)++10::(kq ((B.getD k []).drop (r+1))++10::(B.drop (k+1)).flatMap eI)
variable {ag:Type}{k:Nat}
theorem aF8{l:List ag}{d:ag}(h:k<l.length):l=l.take k++l.getD k d::l.drop (k+1):=by
 simp_all
theorem aF9(a b:fj):kq (a++b)=kq a++kq b:=by grind [kq]
theorem Pc(r:List UInt8)(l:fj):kq (r::l)=r++10::kq l:=by grind [kq]
variable {r:Nat}{c:Nat}
theorem Jw{B:List fj}(h:qN B k r c):B.flatMap eI=rD B k r c++Cs B k r c::Pb B k r c:=by
 obtain⟨ak,D,hc⟩:=h;grind [aF8,rD,Pb,Cs,eI,aF9,Pc]
theorem aF_{l:List ag}{x d:ag}(h:k<l.length):(l.set k x).getD k d=x:=by
 grind
theorem getD_set_ne{l:List ag}{j:Nat}{x d:ag}(h:k≠j):(l.set k x).getD j d=l.getD j d:=by
 grind
theorem aF'{B:List fj}(h:qN B k r c)(b:UInt8):qN (wK B k r c b) k r c:=by
 obtain⟨ak,D,hc⟩:=h;unfold wK ct;refine⟨by grind,?_,?_⟩<;>simp_all
theorem aGa{B:List fj}(h:qN B k r c)(b:UInt8):(wK B k r c b).flatMap eI=rD B k r c++b::Pb B k r c:=by
 rw[Jw (aF' h b)];obtain⟨ak,D,hc⟩:=h;grind [rD,wK,ct,List.take_set_of_le,Pb,List.drop_set_of_lt,Cs]
theorem aGb{B:List fj}(h:qN B k r c)(b:UInt8):(B.flatMap eI).set (rD B k r c).length b=(wK B k r c b).flatMap eI:=by
 grind [aGa,Jw]
theorem aGc{B:List fj}(h:qN B k r c):(B.flatMap eI).getD (rD B k r c).length 0=Cs B k r c:=by
 grind [Jw]
theorem aj8{b:UInt8}(U:b≠10):∀ (l:fj) (q:Nat),(kq l)[q]?=some b->∃ r c,r<l.length/\c<(l.getD r []).length/\q=(kq (l.take r)++(l.getD r []).take c).length
 | [],q,h=>by simp[kq]at h
 | w::l,q,h=>by
  rw[Pc]at h;rcases aQF q w.length with bB | bB
  ·exact⟨0,q,by simp,bB,by grind [kq]⟩
  ·rw[amu bB]at h;cases ax:q - w.length with
   | zero=>
    grind
   | succ n=>
    rw[ax]at h;obtain⟨r,c,E,L,an⟩:=aj8 U l n h;refine⟨r+1,c,by grind,L,?_⟩;grind [Pc]
theorem aj9{b:UInt8}(U:b≠10):∀ (B:List fj) (p:Nat),(B.flatMap eI)[p]?=some b->∃ k r c,qN B k r c/\p=(rD B k r c).length
 | [],p,h=>by grind
 | l::B,p,h=>by
  rw[aQf]at h;rcases aQF p (eI l).length with ai | ai
  ·rw[aP1 ai]at h;unfold eI at h ai;rcases aQF p (kq l).length with bB | bB
   ·rw[aP1 bB]at h;obtain⟨r,c,E,L,an⟩:=aj8 U l p h;exact⟨0,r,c,⟨by simp,E,L⟩,by grind [rD]⟩
   grind
  ·rw[amu ai]at h;obtain⟨k,r,c,⟨E,L,an⟩,a6⟩:=aj9 U B _ h;refine⟨k+1,r,c,⟨by grind,L,an⟩,?_⟩;grind [rD]
def o_(p:Bool):List UInt8->Nat
 | []=>0
 | b::l=>(if (p&&decide (b=10))=true then 1 else 0)+o_ (decide (b=10)) l
def Fg(l:List UInt8):Nat:=((List.range (l.length - 1)).filter λk=>decide (l.getD (k+1) 0=10)&&decide (l.getD k 0=10)).length
theorem aj_:∀ (l:List UInt8) (a:UInt8),Fg (a::l)=o_ (decide (a=10)) l
 | [],a=>rfl
 | b::t,a=>by
  have aP:=aj_ t b;have e:Fg (a::b::t)=(if (decide (a=10)&&decide (b=10))=true then 1 else 0)+Fg (b::t):=by
   unfold Fg;have bN:(a::b::t).length - 1=((b::t).length - 1)+1:=by simp
   rw[bN,List.range_succ_eq_map];have aE:((List.map Nat.succ (List.range ((b::t).length - 1))).filter λk=>decide ((a::b::t).getD (k+1) 0=10)&&decide ((a::b::t).getD k 0=10)).length=((List.range ((b::t).length - 1)).filter λk=>decide ((b::t).getD (k+1) 0=10)&&decide ((b::t).getD k 0=10)).length:=by
    rw[List.filter_map,aPW];rfl
   grind
  rw[e,aP];rfl
theorem aGd(f:List UInt8)(p:Nat)(h:p<=f.length):E6 f p=o_ false (f.take p):=by
 have e:E6 f p=Fg (f.take p):=by
  grind [E6,Fg,List.filter_congr]
 rw[e];cases bB:f.take p with
 | nil=>rfl
 | cons a l=>
  grind [aj_,o_]
variable {b:UInt8}
theorem Xa(h:fW b=true):b≠10:=λe=>by rw[e]at h;exact absurd h (by decide)
theorem aj':∀ (w:List UInt8) (p:Bool),w.all fW=true->o_ p w=0
 | [],p,_=>rfl
 | b::w,p,h=>by
  simp only[aQn,amm]at h;show (if (p&&decide (b=10))=true then 1 else 0)+o_ (decide (b=10)) w=0;rw[aj' w _ h.2,aQd (Xa h.1)];simp
theorem aka:∀ (w b8:List UInt8) (p:Bool),w.all fW=true->(p=true->w≠[])->o_ p (w++10::b8)=o_ true b8
 | [],b8,p,_,ai=>by
  grind [o_]
 | b::w,b8,p,h,ai=>by
  simp only[aQn,amm]at h;show (if (p&&decide (b=10))=true then 1 else 0)+o_ (decide (b=10)) (w++10::b8)=_;rw[aQd (Xa h.1),aka w b8 false h.2 (λk=>by grind)];simp
theorem Xb:∀ (l:fj) (b8:List UInt8) (p:Bool),(∀ w∈l,w.all fW=true/\w≠[])->∃ q,o_ p (kq l++b8)=o_ q b8/\(l≠[]->q=true)
 | [],b8,p,_=>⟨p,rfl,λk=>absurd rfl k⟩
 | w::l,b8,p,h=>by
  obtain⟨E,L⟩:=h w (by simp);obtain⟨q,e,bB⟩:=Xb l b8 true λw hw=>h w (amr _ hw);refine⟨if l=[] then true else q,?_,λ_=>?_⟩
  ·rw[Pc,aQy,List.cons_append,aka w _ p E λ_=>L];by_cases ah:l=[]
   ·subst ah;rfl
   grind
  grind
variable {l:fj}
theorem akb{W:Nat}(h:gr W l):∀ w∈l,w.all fW=true/\w≠[]:=λw hw=>by
 obtain⟨E,L⟩:=h.2.2.2.2 w hw;have:=h.2.2.1;grind
theorem aGe{W:Nat}(h:gr W l)(b8:List UInt8)(p:Bool):o_ p (eI l++b8)=1+o_ true b8:=by
 have e:eI l++b8=kq l++10::b8:=by unfold eI;simp
 obtain⟨q,aE,bz⟩:=Xb l (10::b8) p (akb h);have ah:l≠[]:=λk=>by have:=h.1;grind
 grind [o_]
theorem akc:∀ (B:List fj) (b8:List UInt8) (p:Bool),(∀ l∈B,gr (fX l) l)->∃ q,o_ p (B.flatMap eI++b8)=B.length+o_ q b8
 | [],b8,p,_=>⟨p,by simp⟩
 | l::B,b8,p,h=>by
  obtain⟨q,e⟩:=akc B b8 true λl ah=>h l (amr _ ah);refine⟨q,?_⟩;rw[aQf,aQy,aGe (h l (by simp)),aQ'];omega
theorem x_{B:List fj}(h:k<B.length):B.getD k []∈B:=by grind
theorem aGf{B:List fj}(az:∀ l∈B,gr (fX l) l)(h:qN B k r c):E6 (B.flatMap eI) (rD B k r c).length=k:=by
 have mb:=Jw h;have hlen:(rD B k r c).length<=(B.flatMap eI).length:=by grind
 rw[aGd _ _ hlen,mb,List.take_left];unfold rD;obtain⟨ak,D,hc⟩:=h;have ah:=az _ (x_ ak);obtain⟨q,e⟩:=akc (B.take k) (kq ((B.getD k []).take r)++((B.getD k []).getD r []).take c) false λl ah=>az l (aP0 ah);obtain⟨cO,bz,_⟩:=Xb ((B.getD k []).take r) (((B.getD k []).getD r []).take c) q λw hw=>akb ah w (aP0 hw);have hP:(B.getD k []).getD r []∈B.getD k []:=by
  grind
 rw[e,bz,aj' _ cO (aD_ (ah.2.2.2.2 _ hP).2 _),aQl];omega
def p2(B:List fj)(k r c:Nat):Nat:=nT B k+r*(fX (B.getD k [])+1)+c
theorem aGg(B:List fj)(k:Nat):nT B k=((B.take k).flatMap eI).length:=by
 simp_all[nT]
theorem Xc{B:List fj}(az:∀ l∈B,gr (fX l) l)(h:qN B k r c):(rD B k r c).length=p2 B k r c:=by
 obtain⟨ak,D,hc⟩:=h;have ah:=az _ (x_ ak);unfold rD p2;rw[aP8,aP8,<-aGg,WY   _ λw hw=>(ah.2.2.2.2 w (aP0 hw)).1,aQl,aQl,Nat.min_eq_left (by omega)];omega
theorem akd{B:List fj}(az:∀ l∈B,gr (fX l) l)(h:qN B k r c):c<fX (B.getD k [])/\fW (Cs B k r c)=true:=by
 obtain⟨ak,D,hc⟩:=h;have ah:=az _ (x_ ak);have hP:(B.getD k []).getD r []∈B.getD k []:=by
  grind
 obtain⟨E,L⟩:=ah.2.2.2.2 _ hP;grind [Cs]
theorem aGh{B:List fj}(az:∀ l∈B,gr (fX l) l)(h:qN B k r c):kr (B.flatMap eI) ((p2 B k r c:Nat):Int)=((k:Int),true):=by
 have ai:=Xc az h;have hc:=(akd az h).2;grind [Jw,kr,Xa,aGf]
structure p3(B iL:List fj):Prop where
 len:iL.length=B.length
 sh:∀ l∈iL,gr (fX l) l
 uY:∀ k,k<B.length->(iL.getD k []).length=(B.getD k []).length/\fX (iL.getD k [])=fX (B.getD k [])
theorem p3.refl{B:List fj}(az:∀ l∈B,gr (fX l) l):p3 B B:=⟨rfl,az,λ_ _=>⟨rfl,rfl⟩⟩
theorem p3.nT{B iL:List fj}(az:∀ l∈B,gr (fX l) l)(h:p3 B iL):∀ k,k<=B.length->nT iL k=nT B k
 | 0,_=>rfl
 | k+1,ak=>by
  have aP:=p3.nT az h k (by omega);have Bx:k<B.length:=by omega
  have oj:k<iL.length:=by rw[h.len];omega
  have aE:=WZ (az _ (amk Bx));have bz:=WZ (h.sh _ (amk oj));have c_:=h.uY k Bx;rw[ajP Bx,ajP oj]at c_;rw[W1 Bx,W1 oj,aP,aE,bz,c_.1,c_.2]
variable {iL:List fj}
theorem p3.aGi{B:List fj}(az:∀ l∈B,gr (fX l) l)(h:p3 B iL)(ak:k<B.length)(r c:Nat):p2 iL k r c=p2 B k r c:=by
 unfold p2;rw[h.nT az k (by omega),(h.uY k ak).2]
theorem p3.at{B:List fj}(az:∀ l∈B,gr (fX l) l)(h:p3 B iL)(aY:qN B k r c):qN iL k r c:=by
 obtain⟨ak,D,hc⟩:=aY;obtain⟨aE,bz⟩:=h.uY k ak;have oj:k<iL.length:=by grind
 have ah:=h.sh _ (x_ oj);have Ks:=az _ (x_ ak);have c1:r<(iL.getD k []).length:=by omega
 have m1:(iL.getD k []).getD r []∈iL.getD k []:=by
  grind
 have m0:(B.getD k []).getD r []∈B.getD k []:=by
  grind
 have cj:=(ah.2.2.2.2 _ m1).1;have ep:=(Ks.2.2.2.2 _ m0).1;exact⟨oj,c1,by omega⟩
theorem Pd{W:Nat}(h:gr W l)(D:r<l.length)(U:fW b=true):gr W (ct l r c b):=by
 obtain⟨E,L,an,a6,bS⟩:=h;unfold ct;refine⟨by grind,by grind,an,a6,λw hw=>?_⟩;grind
theorem p3.put{B:List fj}(h:p3 B iL)(aY:qN iL k r c)(U:fW b=true):p3 B (wK iL k r c b):=by
 obtain⟨ak,D,hc⟩:=aY;have ah:=h.sh _ (x_ ak);have az:=Pd ah D (c:=c) U;have hw:=az.wide;unfold wK;refine⟨by rw[aQx];exact h.len,λl rZ=>?_,λj aK=>?_⟩
 ·rcases List.mem_or_eq_of_mem_set rZ with rZ | rZ
  ·exact h.sh l rZ
  grind
 ·by_cases e:k=j
  ·subst e;rw[aF_ ak,hw];refine⟨?_,(h.uY k aK).2⟩;unfold ct;rw[aQx];exact (h.uY k aK).1
  ·rw[getD_set_ne e];exact h.uY j aK
def hz(R:List (z1'))(r c:Nat)(v:Int):List (z1'):=R.set r ((R.getD r []).set c v)
variable {R:List (z1')}{v:Int}
theorem x'(D:r<R.length)(k:Nat):(hz R r c v).getD k []=if r=k then (R.getD r []).set c v else R.getD k []:=by
 grind [hz]
theorem Xd{r:z1'}(h:lA r)(U:jY r=false)(hc:c<r.length)(af:fb v=true)(eM:v≠r.getD c 0):jY (r.set c v)=true:=by
 cases bB:jY (r.set c v) with
 | true=>rfl
 | false=>
  have aW:=(E7 h).1 U;have b6:lA (jw r c v):=zD h af;have E:=(E7 b6).1 bB;rw[OS h.1 (by omega) (by omega)]at E;have g:=OQ h.2.2 hc;grind [oy]
theorem Xe{W:Nat}(h:p0 W R)(hc:c<W)(U:k2 R c=false)(D:r<R.length)(af:fb v=true)(eM:v≠(R.getD r []).getD c 0):k2 (hz R r c v) c=true:=by
 obtain⟨E,L,an,a6,bS⟩:=h;have hP:=bS _ (zI D);have hlen:(hz R r c v).length=R.length:=by unfold hz;rw[aQx]
 unfold k2 at U ⊢;rw[aPX,Decidable.not_not]at U;rw[hlen,aQg];have mx:∀ w∈R.take (R.length - 1),w.length=W/\w.all fb=true:=λw hw=>bS w (aP0 hw);by_cases e:r=R.length - 1
 ·grind [hz,List.take_set_of_le]
 ·have j7:(hz R r c v).getD (R.length - 1) []=R.getD (R.length - 1) []:=by grind [x']
  have tn:(hz R r c v).take (R.length - 1)=(R.take (R.length - 1)).set r ((R.getD r []).set c v):=by grind [hz,List.take_set]
  have C5:gh ((R.take (R.length - 1)).set r ((R.getD r []).set c v)) c=(gh (R.take (R.length - 1)) c).set r v:=by
   simp_all[gh]
  have kP:(gh (R.take (R.length - 1)) c).length=R.length - 1:=by unfold gh;simp
  have EM:=ai_ mx hc;have aam:(gh (R.take (R.length - 1)) c).getD r 0=(R.getD r []).getD c 0:=by
   unfold gh;grind
  rw[j7,tn,C5,U,Cp EM,Cp (OP EM af),Wz _ _ _ (by omega)];have g:=OQ hP.2 (i:=c) (by omega);grind [oy]
theorem ake{n i:Nat}{p:Int->Bool}(G:i<n)(h:∀ k,k<n->p (k:Int)=decide (k=i)):(np n).filter p=[(i:Int)]:=by
 have E:(np n).filter p=(np n).filter λv=>decide (v=(i:Int)):=aQT λv af=>by
  obtain⟨k,ak,rfl⟩:=List.mem_map.1 af;rw[h k (List.mem_range.1 ak)];grind
 rw[E];unfold np;have L:(List.range n).filter ((λv=>decide (v=(i:Int))) ∘ λi:Nat=>i)=[i]:=by
  have an:(List.range n).filter ((λv=>decide (v=(i:Int))) ∘ λi:Nat=>i)=(List.range n).filter λk=>decide (k=i):=aQT λk _=>decide_eq_decide.2 (by grind);have:∀ m,i<m->(List.range m).filter (λk=>decide (k=i))=[i]:=by
   intro m;induction m with
   | zero=>omega
   | succ m aP=>
    grind [List.range_succ,List.filter_eq_nil_iff]
  grind
 grind
def Ct(W:Nat)(R:List (z1')):Prop:=p0 W R/\j9 R=[]/\k3 W R=[]
theorem Ct.fB{W:Nat}(h:Ct W R)(ak:k<R.length):jY (R.getD k [])=false:=by
 cases bB:jY (R.getD k []) with
 | false=>rfl
 | true=>
  have:=E8.2 ⟨k,ak,rfl,bB⟩;rw[h.2.1]at this;grind
theorem Ct.Jx{W:Nat}(h:Ct W R)(ak:k<W):k2 R k=false:=by
 cases bB:k2 R k with
 | false=>rfl
 | true=>
  have:=E9.2 ⟨k,ak,rfl,bB⟩;rw[h.2.2]at this;grind
theorem akf(aW:0<R.length){j:Nat}(D:r<R.length)(kP:c<(R.getD r []).length)(aK:j≠c):k2 (hz R r c v) j=k2 R j:=
 ajO (by unfold hz;simp) (λk ak=>by
  grind [x']) aW
theorem aGj{W:Nat}(h:Ct W R)(D:r<R.length)(hc:c<W)(af:fb v=true)(eM:v≠(R.getD r []).getD c 0) :
  k4 W (hz R r c v)=(1,(r:Int),(c:Int))/\nS (hz R r c v) (r:Int) (c:Int)=R:=by
 have az:=h.1;have hP:=az.2.2.2.2 _ (zI D);have u1:=az.fB (zI D);have hlen:(hz R r c v).length=R.length:=by unfold hz;simp
 have aGk:j9 (hz R r c v)=[(r:Int)]:=by
  unfold j9;rw[hlen];refine ake D λk ak=>?_;have Jv:((k:Int)).toNat=k:=rfl;rw[Jv,x' D];by_cases e:k=r
  ·subst e;rw[if_pos rfl,aP5 rfl];exact Xd u1 (h.fB D) (by omega) af eM
  ·rw[if_neg λx=>e x.symm,aQd e];exact h.fB ak
 have Fb:k3 W (hz R r c v)=[(c:Int)]:=by
  refine ake hc λk ak=>?_;have Jv:((k:Int)).toNat=k:=rfl;rw[Jv];by_cases e:k=c
  ·subst e;rw[aP5 rfl];exact Xe az hc (h.Jx hc) D af eM
  ·rw[aQd e,akf (by omega) D (by omega) e];exact h.Jx ak
 have Qw:((c:Int)).toNat=c:=rfl;have hm:nS (hz R r c v) r c=R:=by
  unfold nS;have aGl:lA ((R.getD r []).set c v):=⟨by rw[aQx];exact u1.1,by rw[aQx];exact u1.2.1,OP u1.2.2 af⟩
  have aGm:jw ((R.getD r []).set c v) c ((R.getD r []).getD c 0)=R.getD r []:=by
   simp_all[jw]
  have aD:=OQ hP.2 (i:=c) (by omega);have ay:nR ((R.getD r []).set c v) c=(R.getD r []).getD c 0:=aEg aGl (by omega) (by grind) (oy.2 aD) (by rw[aGm];exact h.fB D);simp_all[hz]
 refine⟨?_,hm⟩;unfold k4;have dt:List.getD [(r:Int)] 0 0=r:=rfl;have ei:List.getD [(c:Int)] 0 0=c:=rfl;rw[aGk,Fb,dt,ei,hm,Qw,h.Jx hc];rfl
theorem akg{l:z1'}{a b:Int}(h:a≠b)(aY:a∈l)(U:b∈l):2<=l.length:=by
 match l,aY,U with
 | [],aY,_=>grind
 | [x],aY,U=>
  grind
 | _::_::_,_,_=>simp
theorem aGn{W:Nat}(h:Ct W R){jM gl:Nat}(D:r<R.length)(hc:c<W)(bk:jM<R.length)(kx:gl<W){iu:Int}(af:fb v=true)(akh:fb iu=true)
  (eM:v≠(R.getD r []).getD c 0) (Xf:iu≠(R.getD jM []).getD gl 0) (ax:¬(r=jM/\c=gl)):(k4 W (hz (hz R r c v) jM gl iu)).1=2:=by
 have az:=h.1;have Gi:(hz R r c v).length=R.length:=by unfold hz;simp
 have gn:jM<(hz R r c v).length:=by omega
 have hp:(hz (hz R r c v) jM gl iu).length=R.length:=by grind [hz]
 have hw:=az.2.2.2.2 _ (zI D);have Dq:=az.2.2.2.2 _ (zI bk);have key:2<=(j9 (hz (hz R r c v) jM gl iu)).length\/2<=(k3 W (hz (hz R r c v) jM gl iu)).length:=by
  by_cases e:r=jM
  ·subst e;have uw:=λx=>ax ⟨rfl,x⟩;right;refine akg     (by omega) (E9.2 ⟨c,hc,rfl,?_⟩) (E9.2 ⟨gl,kx,rfl,?_⟩)
   ·have kP:gl<((hz R r c v).getD r []).length:=by grind [x']
    rw[akf (by omega) gn kP uw];exact Xe az hc (h.Jx hc) D af eM
   ·have bz:k2 (hz (hz R r c v) r gl iu) gl=k2 (hz R r gl iu) gl:=ajO (by grind [hz]) (λk ak=>by
     grind [x']) (by unfold hz;grind)
    rw[bz];exact Xe az kx (h.Jx kx) D akh Xf
  ·left;refine akg     (by omega) (E8.2 ⟨r,by omega,rfl,?_⟩) (E8.2 ⟨jM,by omega,rfl,?_⟩)
   ·rw[x' gn,if_neg λx=>e x.symm,x' D,if_pos rfl];exact Xd (az.fB (zI D)) (h.fB D) (by omega) af eM
   ·rw[x' gn,if_pos rfl,x' D,if_neg e];exact Xd (az.fB (zI bk)) (h.fB bk) (by omega) akh Xf
 grind [k4]
theorem aki(l:fj)(r c:Nat)(b:UInt8):gH (ct l r c b)=hz (gH l) r c (b.toNat:Int):=by
 grind [ct,hz,List.map_set,aFe,WS]
def Fh(l:fj):Prop:=gr (fX l) l/\j_ l=(0,0,0)
theorem Fh.nQ{l:fj}(h:Fh l):Ct (fX l) (gH l):=by
 obtain⟨E,L⟩:=h;unfold j_ at L;rcases O7 (fX l) (gH l) with⟨e,c⟩ | ⟨e,c⟩ | ⟨r,a,e,_⟩
 ·exact⟨E.nQ,List.length_eq_zero_iff.1 (by omega),List.length_eq_zero_iff.1 (by omega)⟩
 ·grind
 grind
theorem akj:fb (b.toNat:Int)=fW b:=by
 grind [fb,fW]
theorem akk(l:fj)(r c:Nat):((gH l).getD r []).getD c 0=(((l.getD r []).getD c 0).toNat:Int):=by rw[WS,Wo]
theorem aGo(h:Fh l)(D:r<l.length)(hc:c<fX l)(U:fW b=true)(eM:b≠(l.getD r []).getD c 0) :
  j_ (ct l r c b)=(1,(r:Int),(c:Int))/\je (ct l r c b)=l:=by
 have az:=Pd h.1 D (c:=c) U;have hw:=az.wide;have aEM:=az.nQ.wide;have aC:=h.nQ;obtain⟨aM,aT⟩:=aGj aC (r:=r)   (by grind) hc (v:=b.toNat) (by grind [akj]) (λe=>eM (by
  grind [akk,UInt8.toNat_inj]))
 grind [aki,j_,je,u2,WU]
theorem aGp(h:Fh l){jM gl:Nat}(D:r<l.length)(hc:c<fX l)(bk:jM<l.length)(kx:gl<fX l){bj:UInt8}(U:fW b=true)(ef:fW bj=true)
  (eM:b≠(l.getD r []).getD c 0) (Xf:bj≠(l.getD jM []).getD gl 0) (ax:¬(r=jM/\c=gl)):u4 (ct (ct l r c b) jM gl bj)=true:=by
 have az:=Pd h.1 D (c:=c) U;have pr:=Pd az (r:=jM) (c:=gl)   (by unfold ct;grind) ef;have hw:=pr.wide;have aC:=h.nQ;grind [aGn,akj,akk,UInt8.toNat_inj,aki,u4,j_]
abbrev qO:Type:=Nat×Nat×Nat×UInt8
def Cu(B:List fj)(c:qO):z12':=(((p2 B c.1 c.2.1 c.2.2.1:Nat):Int),(c.2.2.2.toNat:Int))
def Fi(B:List fj)(c:qO):Prop:=qN B c.1 c.2.1 c.2.2.1/\fW c.2.2.2=true/\c.2.2.2≠Cs B c.1 c.2.1 c.2.2.1
def nq(B:List fj)(c:qO):List fj:=wK B c.1 c.2.1 c.2.2.1 c.2.2.2
def akl(f:List UInt8)(s:z12'):Prop:=(kr f s.1).2=true/\32<=s.2/\s.2<=126/\((f.getD s.1.toNat 0).toNat:Int)≠s.2
theorem aGq{f:List UInt8}{l:z4'}(h:(mn f l).2.2=true) :
  (∀ s∈l,akl f s)/\l.Pairwise (λa b=>a.1≠b.1)/\mn f l=(l.foldl qM f,l.map λs=>(kr f s.1).1,true):=by
 unfold mn at h ⊢;by_cases U:(List.range l.length).any (wI f l)=true
 ·rw[if_pos U]at h;cases h
 ·rw[if_neg U];have aD:∀ i,i<l.length->wI f l i=false:=λi G=>by
   cases bB:wI f l i with
   | false=>rfl
   | true=>exact absurd (List.any_eq_true.2 ⟨i,List.mem_range.2 G,bB⟩) U
  have f':∀ i (G:i<l.length),l.getD i (0,0)=l[i]:=λi G=>by rw[amq,ams G];rfl
  refine⟨λs az=>?_,?_,rfl⟩
  ·obtain⟨i,G,rfl⟩:=List.mem_iff_getElem.1 az;have:=aD i G;unfold wI at this;rw[f' i G]at this;simp only[aQo,Bool.not_eq_false',aPX]at this;obtain⟨⟨⟨⟨E,L⟩,an⟩,a6⟩,_⟩:=this;exact⟨E,by omega,by omega,a6⟩
  ·rw[List.pairwise_iff_getElem];intro i j G aK AF e;have:=aD j aK;unfold wI at this;have:l[i]=(l.take j)[i]'(by grind):=by simp
   grind
theorem akm{B:List fj}(az:∀ l∈B,gr (fX l) l):∀ (l:z4'),(∀ s∈l,akl (B.flatMap eI) s)->∃ cs:List qO,l=cs.map (Cu B)/\∀ c∈cs,Fi B c
 | [],_=>⟨[],rfl,by simp⟩
 | s::l,h=>by
  obtain⟨cs,e,hc⟩:=akm az l λs az=>h s (amr _ az);obtain⟨E,L,an,a6⟩:=h s (by simp);obtain⟨p,v⟩:=s;have ai:¬(p<0\/((B.flatMap eI).length)<=p\/(B.flatMap eI).getD p.toNat 0=10):=λk=>by
   grind [kr]
  have fQ:=λk=>ai (.inr (.inr k));have aGr:(B.flatMap eI)[p.toNat]?=some ((B.flatMap eI).getD p.toNat 0):=by
   grind
  obtain⟨k,r,c,aY,mS⟩:=aj9 fQ B p.toNat aGr;have aD:=aGc aY;rw[<-mS]at aD;rw[Xc az aY]at mS;have aPA:(UInt8.ofNat v.toNat).toNat=v.toNat:=by simp;omega
  refine⟨(k,r,c,UInt8.ofNat v.toNat)::cs,?_,λgl kx=>?_⟩
  ·grind [Cu]
  ·rcases List.mem_cons.1 kx with rfl | kx
   ·refine⟨aY,?_,λk=>?_⟩
    ·grind [fW]
    grind
   grind
theorem akn{B:List fj}(az:∀ l∈B,gr (fX l) l):∀ (cs:List qO) (iL:List fj),p3 B iL->(∀ c∈cs,Fi B c)->(cs.map (Cu B)).foldl qM (iL.flatMap eI)=(cs.foldl nq iL).flatMap eI/\p3 B (cs.foldl nq iL)
 | [],iL,h,_=>⟨rfl,h⟩
 | c::cs,iL,h,aD=>by
  obtain⟨aY,b6,_⟩:=aD c (by simp);have F4:=h.at az aY;have e:qM (iL.flatMap eI) (Cu B c)=(nq iL c).flatMap eI:=by
   unfold qM Cu nq;have iy:(((p2 B c.1 c.2.1 c.2.2.1):Int)).toNat=p2 B c.1 c.2.1 c.2.2.1:=rfl;rw[iy,<-h.aGi az aY.ak,<-Xc h.sh F4,aGb F4];simp
  rw[aQb,aP3,e];exact akn az cs _ (h.put F4 b6) λc hc=>aD c (amr _ hc)
def sz(k:Nat)(cs:List qO):List qO:=cs.filter λc=>decide (c.1=k)
theorem ako:∀ (cs:List qO) (B:List fj),(∀ c∈cs,c.1<B.length)->∀ k,(cs.foldl nq B).getD k []=(sz k cs).foldl (λl c=>ct l c.2.1 c.2.2.1 c.2.2.2) (B.getD k [])
 | [],B,_,k=>rfl
 | c::cs,B,h,k=>by
  have ah:(nq B c).length=B.length:=by grind [nq,wK]
  have aP:=ako cs (nq B c) (λc hc=>by grind) k;grind [sz,nq,wK]
theorem aGs(l:List ag)(h:l.length=2):∃ a b,l=[a,b]:=by
 match l,h with
 | [a,b],_=>simp
section
variable {B:List fj} {cs:List qO}
theorem aGt(hw:∀ l∈B,Fh l)(aD:∀ c∈cs,Fi B c)(ai:cs.Pairwise λa b=>p2 B a.1 a.2.1 a.2.2.1≠p2 B b.1 b.2.1 b.2.2.1)(ak:k<B.length) :
  (sz k cs=[]->(cs.foldl nq B).getD k []=B.getD k [])/\
  (∀ c,sz k cs=[c]->j_ ((cs.foldl nq B).getD k [])=(1,(c.2.1:Int),(c.2.2.1:Int))/\je ((cs.foldl nq B).getD k [])=B.getD k [])/\
  ((sz k cs).length=2->u4 ((cs.foldl nq B).getD k [])=true):=by
 have az:∀ l∈B,gr (fX l) l:=λl ah=>(hw l ah).1;have nN:=hw _ (x_ ak);have Ki:=ako cs B (λc hc=>(aD c hc).1.ak) k;have ps:∀ c∈sz k cs,Fi B c/\c.1=k:=λc hc=>by
  obtain⟨E,L⟩:=List.mem_filter.1 hc;exact⟨aD c E,aP4 L⟩
 have bf:∀ c:qO,Fi B c->c.1=k->c.2.1<(B.getD k []).length/\c.2.2.1<fX (B.getD k [])/\fW c.2.2.2=true/\c.2.2.2≠((B.getD k []).getD c.2.1 []).getD c.2.2.1 0:=λc hc e=>by
  subst e;exact⟨hc.1.D,(akd az hc.1).1,hc.2.1,hc.2.2⟩
 refine⟨λe=>?_,λc e=>?_,λe=>?_⟩
 ·grind
 ·grind [aGo]
 ·have h':(sz k cs).Pairwise λa b=>p2 B a.1 a.2.1 a.2.2.1≠p2 B b.1 b.2.1 b.2.2.1:=ai.filter _;obtain⟨c,gl,bz⟩:=aGs _ e;grind [aGp]
end
def Pe(cs:List qO):z1':=cs.map λc=>(c.1:Int)
theorem aGu(cs:List qO)(k:Nat):OL (Pe cs) (k:Int)=(sz k cs).length:=by
 grind [OL,Pe,sz,List.filter_congr]
structure zJ(l:z2')(x:z4')(cs:List qO):Prop where
 aPB:x=cs.map (Cu ((gG l).map hT))
 qA:∀ c∈cs,Fi ((gG l).map hT) c
 aGv:cs.Pairwise λa b=>p2 ((gG l).map hT) a.1 a.2.1 a.2.2.1≠p2 ((gG l).map hT) b.1 b.2.1 b.2.2.1
 val:mn (k0 l) x=((cs.foldl nq ((gG l).map hT)).flatMap eI,Pe cs,true)
 ix:p3 ((gG l).map hT) (cs.foldl nq ((gG l).map hT))
variable {l:z2'}
theorem aGw(b6:∀ t∈l,gF t){x:z4'}(h:(mn (k0 l) x).2.2=true):∃ cs,zJ l x cs:=by
 obtain⟨E,L,an⟩:=aGq h;have az:=Jt b6;rw[Js]at E an;obtain⟨cs,e,aD⟩:=akm az x E;obtain⟨f1,f2⟩:=akn az cs _ (p3.refl az) aD;refine⟨cs,e,aD,?_,?_,f2⟩
 ·grind [Cu]
 ·rw[Js,an,e];congr 2;rw[aQ4];refine aPN λc hc=>?_;show (kr _ ((p2 _ c.1 c.2.1 c.2.2.1))).1=_;rw[aGh az (aD c hc).1]
theorem akp(b6:∀ t∈l,gF t):∀ b∈(gG l).map hT,Fh b:=λb U=>⟨Jt b6 b U,aj7 b6 b U⟩
theorem aGx(l:List ag)(h:l.length<=1):l=[]\/∃ c,l=[c]:=by
 match l,h with
 | [],_=>simp
 | [c],_=>simp
section
variable {l:z2'} {x:z4'} {cs:List qO}
theorem zJ.one(h:zJ l x cs)(b6:∀ t∈l,gF t)(ak:k<((gG l).map hT).length)(E:(sz k cs).length<=1) :
  u4 ((cs.foldl nq ((gG l).map hT)).getD k [])=false/\je ((cs.foldl nq ((gG l).map hT)).getD k [])=((gG l).map hT).getD k []:=by
 obtain⟨s1,s2,_⟩:=aGt (akp b6) h.qA h.aGv ak;have hw:=akp b6 _ (x_ ak);rcases aGx _ E with e | ⟨c,e⟩
 ·rw[s1 e];refine⟨?_,aF6 b6 _ (x_ ak)⟩;unfold u4;rw[hw.2];rfl
 ·grind [u4]
theorem zJ.aGy(h:zJ l x cs):k1 (mn (k0 l) x).1=(true,cs.foldl nq ((gG l).map hT)):=by
 rw[h.val];exact WW h.ix.sh
theorem aGz{X Z:List fj}(ah:X.length=Z.length)(h:∀ k,k<Z.length->je (X.getD k [])=Z.getD k []):X.map je=Z:=by
 have:=aFa   je id X Z [] [] ah λk ak=>h k (by omega);simp_all
theorem zJ.aGA(h:zJ l x cs)(b6:∀ t∈l,gF t)(qK:l.length<=40)(E:∀ k,(sz k cs).length<=1) :
  jb (mn (k0 l) x).1=(l,W0 (cs.foldl nq ((gG l).map hT)),0):=by
 have hlen:=h.ix.len;have aPC:=aGz hlen λk ak=>(h.one b6 ak (E k)).2;have h9:¬(cs.foldl nq ((gG l).map hT)).any u4=true:=λk=>by
  obtain⟨b,U,al⟩:=List.any_eq_true.1 k;obtain⟨i,G,rfl⟩:=List.mem_iff_getElem.1 U;have:=(h.one b6   (by omega) (E i)).1;grind
 unfold jb;rw[h.aGy];grind [aEU]
end
end Go.Fer
namespace Go.Fer
theorem akq:∀ (l:z4') (f:List UInt8),(l.foldl qM f).length=f.length
 | [],f=>rfl
 | s::l,f=>by
  rw[aP3,akq l];grind [qM]
theorem aGB(f:List UInt8)(l:z4'):(mn f l).1.length<=f.length:=by
 grind [mn,akq]
section
variable {l:z2'} (b6:∀ t∈l,gF t) (qK:l.length<=40)
include b6 qK
theorem aGC:E4.sh l=mpure (k0 l,0):=(bP (show l.length<2 ^ 63 by omega) _).trans (by grind [aiU,ajE])
theorem aGD{x:z4'}(al:x.length<=10):Pa.sh (k0 l,x)=mpure (mn (k0 l) x):=by
 have:=W' b6 qK;exact bP (show (k0 l).length<65536/\x.length<65536 by omega) _
theorem aGE(x:z4'):(mn (k0 l) x).1.length<65536:=by
 grind [W',aGB]
end
end Go.Fer
namespace Go.Fer
abbrev Fj:aO:=⟨.ar W.x1 .str,.ar W.zo (.ar W.x1 (.int .i64)),λx=>x.2.length<65536/\((jb x.2).2.2=0->W.V2 (x.1,(jb x.2).1)),λx=>if (jb x.2).2.2≠0 then ([],W.VT,(jb x.2).2.2) else W.B8 x.1 (jb x.2).1⟩
theorem aGF(x):a8 (ajY W.Cd.sh qD.sh x) (Fj.sh x):=bx λh=>by
 obtain⟨d,f⟩:=x;obtain⟨E,L⟩:=h;unfold ajY;rw[show qD.sh f=mpure (jb f) from bP E _,aN];by_cases he:(jb f).2.2=0
 ·rw[if_neg (by grind),show W.Cd.sh (d,(jb f).1)=mpure (W.B8 d (jb f).1) from bP (L he) _,aN];grind
 grind
theorem aGG{d:bH}(ax:W.fV d){l:z2'}(b6:∀ t∈l,gF t)(qK:l.length<=40){x:z4'}{cs:List qO}(h:zJ l x cs)(E:∀ k,(sz k cs).length<=1) :
  Fj.sh (d,(mn (k0 l) x).1)=W.Cd.sh (d,l):=by
 have D:=h.aGA b6 qK E;have ai:W.V2 (d,l):=⟨ax.iT,ax.jK,by grind,λs az=>by have:=(b6 s az).1;omega⟩
 refine (bP (⟨aGE b6 qK x,λ_=>by grind⟩) _).trans ((bP ai _).trans ?_).symm;grind
def Fk(c:bd×z1'×Bool):bd×Bool:=(c.1,(List.range c.2.1.length).foldl (λca i=>(c.2.1.take i).foldl (λca v=>ca&&decide (c.2.1.getD i 0≠v)) ca) c.2.2)
theorem Xg{ag:Type}(p:ag->Bool):∀ (l:List ag) (b:Bool),l.foldl (λca v=>ca&&p v) b=(b&&l.all p)
 | [],b=>by simp
 | v::l,b=>by rw[aP3,Xg p l,aQn,Bool.and_assoc]
theorem aGH{c:bd×z1'×Bool}(h:(Fk c).2=true):c.2.2=true/\∀ i k,k<i->i<c.2.1.length->c.2.1.getD i 0≠c.2.1.getD k 0:=by
 unfold Fk at h;rw[funext λca=>funext λi=>Xg _ _ _,Xg,amm]at h;refine⟨h.1,λi k ak G=>?_⟩;have E:=List.all_eq_true.1 h.2 i (List.mem_range.2 G);grind [List.mem_iff_getElem]
theorem aGI{x:z1'}(h:∀ i k,k<i->i<x.length->x.getD i 0≠x.getD k 0)(v:Int):OL x v<=1:=by
 have ai:x.Pairwise λa b=>a≠b:=List.pairwise_iff_getElem.2 λi j G aK AF e=>h j i AF aK (by grind);unfold OL;have bB:=ai.filter λw=>decide (w=v);match ay:x.filter λw=>decide (w=v) with
 | []=>simp
 | [a]=>simp
 | a::b::l=>
  have aY:=aP4 (List.mem_filter.1 (by grind:a∈x.filter λw=>decide (w=v))).2;have U:=aP4 (List.mem_filter.1 (by grind:b∈x.filter λw=>decide (w=v))).2;simp_all
abbrev Jy:aO:=⟨.ar (.slice .str) (.slice (.ad (.ar (.int .i64) (.int .i64)))),.ar .str .bool,λx=>(∀ t∈x.1,gF t)/\x.1.length<=40,λx=>if List.length x.2 > 10 then ([],false) else Fk (mn (k0 x.1) x.2)⟩
theorem aGJ(x):a8 (ajX E4.sh Pa.sh x) (Jy.sh x):=bx λh=>by
 obtain⟨l,x⟩:=x;obtain⟨b6,qK⟩:=h;have gU:=W' b6 qK;unfold ajX;dsimp only;rw[aGC b6 qK,aN];by_cases al:x.length > 10
 ·grind
 ·have oH:x.length<=10:=by omega
  rw[if_neg (by grind),aGD b6 qK oH,aN];rw[if_neg al];generalize hc:mn (k0 l) x=c;obtain⟨now,b,ca⟩:=c;have U:b.length<=10:=by
   grind [mn]
  rw[e2 (List.range b.length) (λi ca=>(now,b,ca,(i:Int),())) (λi ca=>.aw ((b.take i).foldl (λca v=>ca&&decide (b.getD i 0≠v)) ca)) (λca=>.aw (now,ca,())) (λ_ _=>True) ca ?_ ?_ ?_ ?_]
  ·rw[ec,aN];rfl
  ·rfl
  ·simp
  ·intro i G ca _;rw[aQ6]at G;have hw:=bs (n:=i+1);rw[e2 (b.take i) (λk ca=>(now,b,ca,(i:Int),(k:Int),())) (λv ca=>.aw (ca&&decide (b.getD i 0≠v))) (λca=>.aw (now,b,ca,i,())) (λ_ _=>True) ca ?_ ?_ ?_ ?_]
   ·simp_all[ec]
   ·rfl
   ·omega
   ·intro k ak ca _;rw[aQl]at ak;have Bx:k<i:=by omega
    have oj:k<b.length:=by omega
    have nN:=bs (n:=k+1);simp_all
   simp_all[Nat.le_of_lt]
  simp
end Go.Fer
namespace Go.Fer.W
open H (i')
def lB(n:Int):bd:=if n<0 then VC else Go.Lib.decDigits n.toNat
theorem Pf(u:Nat):Go.Lib.decDigits u=(if u<10 then [] else Go.Lib.decDigits (u / 10))++[UInt8.ofNat (48+u % 10)]:=by
 grind [Go.Lib.decDigits]
theorem akr(k:Nat):UInt8.ofNat (Int.toNat (IntKind.wrap .u8 (IntKind.wrap .i64 (Add.add 48 (Int.tmod (k:Int) 10)))))=UInt8.ofNat (48+k % 10):=by
 grind [bs,Ce]
theorem aks:∀ (k u:Nat),u<10 ^ (k+1)->Go.Lib.nDigits u<=k+1
 | 0,u,h=>by grind [Go.Lib.nDigits_small]
 | k+1,u,h=>by
  unfold Go.Lib.nDigits;split
  ·omega
  ·have:=aks k (u / 10) (by omega);omega
abbrev mK:aO:=⟨.int .i64,.str,λn=>n<2 ^ 63,lB⟩
theorem Wl(x):a8 (agd x) (mK.sh x):=bx λh=>by
 change x<2 ^ 63 at h;unfold agd eZ bm bQ bY be;show _=mpure (lB x);unfold lB;by_cases al:x<0
 ·rw[if_pos (aP5 al),if_pos al]
 ·rw[if_neg (by simpa using al),if_neg al,bc (by decide)];obtain⟨u,rfl⟩:∃ u:Nat,x=u:=⟨x.toNat,by omega⟩
  have Fa:=Go.Lib.nDigits_le20 u (by omega);rw[<-Go.Lib.decDigits_length]at Fa;have e:=Pf u;rw[amC (res:=aJ.aw (Go.Lib.decDigits u,())) (λs=>∃ k:Nat,s.1=(k:Int)/\k<=u/\Go.Lib.decDigits u=(if k<10 then [] else Go.Lib.decDigits (k / 10))++s.2.1) (λs=>s.1.toNat) ?_ _ ⟨u,rfl,amn _,by rw[akr];exact e⟩,aN]
  ·rfl
  ·rintro⟨n,t,⟨⟩⟩ ⟨k,E,L,an⟩;change n=(k:Int) at E;subst E;change _=_++t at an;have aGK:=congrArg List.length an;rw[aP8]at aGK;have Oe:Int.tdiv (k:Int) 10=((k / 10:Nat):Int):=rfl;by_cases ak:k<10
   ·right;rw[if_pos ak,aQk]at an;simp only[Oe];rw[if_neg (by simp;omega),aN,an]
   ·left;rw[if_neg ak,Pf (k / 10),aQy]at an;refine⟨(((k / 10:Nat):Int),[UInt8.ofNat (48+k / 10 % 10)]++t,()),?_,⟨k / 10,rfl,by omega,an⟩,by show (((k / 10:Nat):Int)).toNat<((k:Int)).toNat;omega⟩;simp only[Oe];rw[if_pos (by simp;omega),bc (by decide),bc (by decide),bc (i' (by simp only[kE];omega)),bs,akr]
theorem Xh{n:Int}(h:n<=999999):(lB n).length<=6:=by
 unfold lB;split
 ·decide
 ·rw[Go.Lib.decDigits_length];exact aks 5 _ (by omega)
def sA(w:bd)(l:z1'):bd:=l.foldl (λs n=>s++([32]++lB n)) w
abbrev Jz:aO:=⟨.ar .str ha,.str,λx=>x.1.length<=1000/\x.2.length<=1000/\∀ n∈x.2,n<=999999,λx=>sA x.1 x.2⟩
theorem aGL(x):a8 (age mK.sh x) (Jz.sh x):=bx λh=>by
 obtain⟨w,l⟩:=x;obtain⟨E,L,an⟩:w.length<=1000/\l.length<=1000/\∀ n∈l,n<=999999:=h;unfold age fw bw bf bQ bY be;rw[e2 l (λi s=>(s,l,(i:Int),())) (λn s=>.aw (s++([32]++lB n))) (λs=>.aw (s,())) (λi s=>s.length<=1000+7*i) w ?_ (by omega) ?_ ?_]
 ·rw[ec,aN];rfl
 ·rfl
 ·intro i G s az;have hw:=bs (n:=i+1);have aC:=an _ (amk G);have aH:=Xh aC;refine⟨?_,λbj ef=>?_⟩
  ·simp only[cC,dQ G,ed G,dK G,cp,dm,hw];rw[show mK.sh l[i]=mpure (lB l[i]) from bP (show l[i]<2 ^ 63 by omega) _,aN,bc (i' (by grind)),bc (i' (by grind))];rfl
  grind
 simp
variable {w:bd}{l:z1'}
theorem aGM(E:w.length<=1000)(L:l.length<=1000)(an:∀ n∈l,n<=999999):Jz.sh (w,l)=mpure (sA w l):=bP ⟨E,L,an⟩ _
theorem akt{n:Nat}:∀ {l:z1'} {w:bd},(∀ n∈l,n<=999999)->w.length<=n->(sA w l).length<=n+7*l.length
 | [],w,_,h=>h
 | k::l,w,h,hw=>by
  have aH:=Xh (h k (by simp));have:=akt (n:=n+7) (l:=l) (w:=w++([32]++lB k)) (λn aC=>h n (by grind)) (by grind);grind [sA]
theorem aku:∀ (a b:bd),dq (a++32::b)=dq a++dq b
 | [],b=>by rfl
 | c::a,b=>by
  have aP:=aku a b;grind [B4,dq]
theorem akv:∀ (w:bd),(∀ c∈w,c≠32)->dq w=[w]
 | [],_=>rfl
 | c::w,h=>by
  have aP:=akv w λd ax=>h d (by grind);grind [dq]
theorem aGN(u:Nat):∀ c∈Go.Lib.decDigits u,c≠32:=by
 induction u using Nat.strongRecOn with
 | _ u aP=>
  intro c hc;rw[Pf,List.mem_append]at hc;rcases hc with hc | hc
  ·grind
  ·rw[aQN]at hc;subst hc;have:=V' (u % 10) (by omega);intro e;rw[e]at this;grind
theorem aGO(n:Int):dq (lB n)=[lB n]:=by
 grind [akv,lB,aGN]
theorem akw:∀ (l:z1') (w:bd),dq (sA w l)=dq w++l.map lB
 | [],w=>by simp[sA]
 | n::l,w=>by
  show dq (sA (w++32::lB n) l)=_;rw[akw l,aku,aGO];simp
theorem aGP{n:Int}(aW:0<=n)(E:n<=999999):gg (lB n)=n:=by
 grind [Xh,lB,ah1,gg,ah0]
theorem aGQ(h:∀ n∈l,0<=n/\n<=999999):IS (l.map lB)=some l:=by
 unfold IS;have e:(l.map lB).map gg=l:=by
  conv=>rhs;rw[<-List.map_id l]
  grind [List.map_congr_left,aGP]
 rw[e,if_pos];grind
theorem aGR{k:Int}{m:Bool}{j:Nat}(hw:dq w=[w])(ay:qJ w nm 0=some (k,m,j))(ak:k<=(l.length:Int)/\((l.length:Int)<=k\/m=true))(ah:∀ n∈l,0<=n/\n<=999999):IY (sA w l)=some (j,l):=by
 grind [IY,akw,aGQ]
theorem Xi{k:Int}{m:Bool}{j:Nat}(hw:dq w=[w])(ay:qJ w nm 0=some (k,m,j))(ak:k<=(l.length:Int)/\((l.length:Int)<=k\/m=true))(ah:∀ n∈l,0<=n/\n<=999999)(d:bH):o5 d (sA w l)=B7 j d l:=by
 unfold o5;rw[aGR hw ay ak ah]
theorem aGS{d:bH}(E:gI d.1)(L:H.lD d.2):I5.sh (d,[])=mpure (x3 d []):=bP ⟨E,L,by simp⟩ _
theorem aGT{s:bJ}(h:gI s):EZ.sh ((s,[],[],[],[],0,0,0,0,0,0,0),s,[],[],[],[],0,0,0,0,0,0,0)=mpure true:=bP ⟨rfl,h,by simp,by simp,by simp,by simp⟩ _
theorem aGU{d:bH}(E:gI d.1)(L:H.lD d.2)(ay:x3 d []=false)(he:o6 d=0):fV d/\d.1.1.1.length<=6/\d.1.1.2.2.2.length<=10/\d.1.2.2.2.1.length<=3/\d.1.2.2.1.length<=4/\d.1.2.2.2.2.1.length<=3:=by
 have ax:fV d:=(aCg (l:=[]) (n:=40) E L (by rw[ay,he];rfl)).1;refine⟨ax,?_⟩;have az:=ax.wq;have hc:dH d.1.1=0:=(Nt az).1;have aM:uV d.1=false:=by
  unfold x3 at ay;split at ay
  ·cases ay
  ·grind
 unfold uV at aM;split at aM
 ·cases aM
 ·rename_i cr;split at aM
  ·cases aM
  split at aM
  ·grind
  have aT:nf d.1.1=false:=by grind
  unfold nf at aT;grind
end Go.Fer.W
namespace Go.Fer
abbrev JA:aO:=⟨.dc,.bool,λ_=>True,λ_=>true⟩
theorem aGV:rB W.EW.1 true=(1600,0):=by decide +kernel
theorem aGW(x):a8 (ajW O_.sh EP.sh W.N7.sh x) (JA.sh x):=bx λ_=>by
 unfold ajW;have D:O9 [34,97,120,70,10,33,99,32,100,10,35,69,98,43,10,10]=([[97,98],[99]],[0],0):=by
  rfl
 rw[show O_.sh [34,97,120,70,10,33,99,32,100,10,35,69,98,43,10,10]=mpure ([[97,98],[99]],[0],0) from (bP (show ([34,97,120,70,10,33,99,32,100,10,35,69,98,43,10,10]).length<65536 by decide) _).trans (congrArg mpure D),aN,show W.N7.sh ()=mpure W.EW from rfl,aN,show EP.sh W.EW.1=mpure (1600,0) from (bP W.aCh.1 _).trans (congrArg mpure aGV)];simp
theorem aGX:JA.sh ()=mpure true:=bP trivial _
theorem aGY:∀ (u:Nat),∀ b∈Go.Lib.decDigits u,fW b=true:=by
 intro u;induction u using Nat.strongRecOn with
 | ind u aP=>
  intro b U;rw[W.Pf]at U;rcases List.mem_append.1 U with h | h
  ·grind
  ·simp  at h;subst h;unfold fW;simp;omega
theorem akx:∀ (l:z1') (w:bd),w.all fW=true->(∀ n∈l,0<=n)->(W.sA w l).all fW=true
 | [],w,hw,_=>hw
 | n::l,w,hw,h=>by
  refine akx l (w++([32]++W.lB n)) ?_ λm hm=>h m (by grind);have:=h n (by simp);rw[List.all_append,hw];unfold W.lB;rw[if_neg (by omega)];simp;exact⟨by decide,aGY _⟩
end Go.Fer
namespace Go.Fer.W
open H (i')
theorem aGZ{n:Int}(aW:0<=n)(h:n<2 ^ 63):lB n=sn n:=by
 grind [lB,sn,Go.Lib.itoa,bs]
theorem aG0(gd:Nat->Int->Bool)(m J F:Nat):0<=(EN gd m J F).2/\(EN gd m J F).2<=(J:Int):=by
 have key:∀ (l:List Nat) (ad:z18'),0<=ad.2->0<=(l.foldl (wh gd m F) ad).2/\(l.foldl (wh gd m F) ad).2<=ad.2+l.length:=by
  intro l;induction l with
  | nil=>simp
  | cons j l aP=>
   grind [wh]
 grind [EN]
theorem aG1{d:bH}(ax:fV d):0<=(kY d.1).1/\(kY d.1).1<2 ^ 63:=by
 have af:=ax.val;have key:∀ (l:List (z1')) (n:Int),-1<=n/\n<=24->(∀ y∈l,pT d.1 y)->-1<=l.foldl (zk d.1) n/\l.foldl (zk d.1) n<=24:=by
  intro l;induction l with
  | nil=>simp
  | cons y l aP=>
   intro n h ba;have E:=aG0 (jt (eo d.1) (lY d.1 y).1) (eo d.1).2.1.length (lY d.1 y).1.length 201;grind [Vp,zj,zk]
 have:=key (nl 0 d.1) (-1) (by decide) λy ba=>(ND ba).2;grind [kY,IM]
end Go.Fer.W
namespace Go.Fer
variable {s:bJ}
theorem aky(h:lz s=0):jL s true=0\/jL s true=3:=by
 grind [Nt,jL,fF]
theorem akz{f:z1'}(p:Int)(ay:∀ i,i<f.length->nk s f i=true)(ai:p=-1\/(zd s p=true/\f.contains p=false)) :
  ∀ i,i<(f++[p]).length->nk s (f++[p]) i=true:=by
 grind [nk]
theorem Xj{s:bJ}{e:Int}:∀ {n:Nat} {f y:z1'},(∀ i,i<f.length->nk s f i=true)->y∈kX s e n f->∀ i,i<y.length->nk s y i=true
 | 0,f,y,ay,h=>by
  grind [kX]
 | n+1,f,y,ay,h=>by
  simp only[kX,List.mem_append,aRr,aQ9]at h;rcases h with⟨p,ai,h⟩ | h
  ·split at h
   ·refine Xj (akz p ay (.inr ⟨U7.2 ⟨by omega,by omega⟩,?_⟩)) h;grind [B0]
   grind
  ·split at h
   ·grind
   ·exact Xj (akz (-1) ay (.inl rfl)) h
theorem akA(s:bJ)(n:Nat):∀ i,i<(List.replicate n (-1:Int)).length->nk s (List.replicate n (-1)) i=true:=by
 grind [nk]
theorem aG2(s:bJ)(n:Nat):o4 s (List.replicate n (-1))=true:=by
 have e:∀ i,i<n->pS s (List.replicate n (-1)) i=some []:=λi G=>by
  grind [pS]
 have aK:lY s (List.replicate n (-1))=([],true):=by
  unfold lY;simp_all
 unfold o4;rw[aK];rfl
theorem akB(s:bJ):o4 s (wj s)=true/\∀ i,i<(wj s).length->nk s (wj s) i=true:=by
 have key:∀ (l:List (z1')) (b:z1'),(∀ y∈l,∀ i,i<y.length->nk s y i=true)->(o4 s b=true/\∀ i,i<b.length->nk s b i=true)->
   o4 s (l.foldl (sj s) b)=true/\∀ i,i<(l.foldl (sj s) b).length->nk s (l.foldl (sj s) b) i=true:=by
  intro l;induction l with
  | nil=>simp
  | cons y l aP=>
   intro b ah U;refine aP _ (λz bA=>ah z (by grind)) ?_;grind [sj]
 exact key _ _ (λy ba=>Xj   (λi G=>absurd G (by simp)) ba) ⟨aG2 s _,akA s _⟩
def p4(s:bJ):z1':=if jL s true≠0 then List.replicate s.2.2.2.1.length (-1) else wj s
theorem akC(s:bJ):(p4 s).length=s.2.2.2.1.length:=by
 grind [p4,Vw]
theorem akD(s:bJ):uS s (p4 s)=true:=by
 grind [p4,akA,akB,uS,akC]
theorem akE(s:bJ):∀ p∈p4 s,-1<=p/\p<(s.2.2.1.length:Int)\/p=-1:=by
 intro p ai;have h:=akD s;unfold uS at h;rw[amm,aPZ]at h;obtain⟨i,G,rfl⟩:=List.mem_iff_getElem.1 ai;have E:=h.1 i (List.mem_range.2 G);grind [nk,U7]
theorem aG3(s:bJ):zl s (p4 s)=rB s true:=by
 grind [zl,rB,akD,p4,akB]
theorem akF(f:Int->Int)(l:z1')(n:Nat)(h:l.length<=n):∀ k,k<=l.length->(List.range k).foldl (λp i=>p.set i (f (l.getD i 0))) (List.replicate n 0)=(l.take k).map f++List.replicate (n - k) 0
 | 0,_=>by simp
 | k+1,ak=>by
  rw[aQ2,List.foldl_append,akF f l n h k (by omega)];have aE:(l.take (k+1)).map f=(l.take k).map f++[f (l.getD k 0)]:=by
   grind [List.take_succ_eq_append_getElem]
  have bz:List.replicate (n - k) (0:Int)=0::List.replicate (n - (k+1)) 0:=by
   rw[show n - k=(n - (k+1))+1 by omega];rfl
  grind
theorem aG4(af:nP s):(∀ p∈(tA s).1,-1<=p/\p<(s.2.2.1.length:Int))/\(tA s).1.length<=s.2.2.2.1.length/\(jL s true=0->(tA s).1.length=s.2.2.2.1.length)/\
  (tA s).2=jL s true/\(tA s).1.map (·+1)++List.replicate (s.2.2.2.1.length - (tA s).1.length) 0=(p4 s).map (·+1):=by
 have U:=(Vw s).1;unfold tA p4;by_cases ak:jL s true=0
 ·have aC:=akE s;unfold p4 at aC;simp only[ak,ne_eq,not_true,aPH]at aC ⊢;exact⟨λp ai=>by grind,aRc U,λ_=>U,trivial,by simp_all⟩
 simp_all
theorem aG5{d:bH}(ax:W.fV d):(kY d.1).2=0/\0<=(kY d.1).1/\W.ow (kY d.1).2 [(kY d.1).1]=W.lB (kY d.1).1/\(kY d.1).1<2 ^ 63\/(kY d.1).2=3:=by
 have E:=W.aG1 ax;by_cases aW:(kY d.1).2=0
 ·simp_all[W.aGZ,W.ow,W.tB,Go.Lib.join]
 ·have:=aky ax.wq;grind [kY]
theorem amA(x:bH×z4')(E:gI x.1.1)(L:H.lD x.1.2) :
  W7 W.I5.sh W.uW.sh Fj.sh W.EZ.sh JA.sh Jy.sh IL.sh W.Jz.sh B2.sh W.mK.sh x=mpure true:=by
 obtain⟨d,x⟩:=x;change gI d.1 at E;change H.lD d.2 at L;unfold W7;rw[W.aGS E L,aN,show W.uW.sh d=mpure (W.o6 d) from bP ⟨E,L⟩ _,oe,aN,aGX];by_cases hc:W.x3 d []=false/\W.o6 d=0
 ·obtain⟨ay,he⟩:=hc;have ax:=(W.aGU E L ay he).1;have af:=ax.val;have BU:=af.wg;have ahc:=af.IA;rw[if_neg (by simp[ay,he]),show IL.sh d.1=mpure (tA d.1) from bP E _,aN];obtain⟨aM,aT,b5,hC,q4⟩:=aG4 af;have IC:=aky ax.wq;have wJ:=akE d.1;have hlen:=akC d.1;have xp:=aG3 d.1;generalize (tA d.1).1=l at *
  rw[hC];rw[if_neg (by simp only[cC];rcases IC with h | h<;>simp[h];have:=b5 h;omega),bc (by simp only[cC];exact⟨by omega,trivial,by unfold cb;omega⟩)];dsimp only;rw[e2 (List.range l.length) (λi (p:z1')=>(x,l,(i:Int),d,p,())) (λi p=>.aw (p.set i (l.getD i 0+1))) (λp=>.aw (x,d,p,())) (λ_ p=>p.length=d.1.2.2.2.1.length) (List.replicate d.1.2.2.2.1.length 0) ?_ ?_ ?_ ?_]
  ·rw[ec,aN,cY];dsimp only;rw[akF (·+1) l _ aT _ (amn _),aQc,q4,W.aGM (by decide) (by simp;omega) (by simp;intro p ai;have:=wJ p ai;omega),aN];have aPD:∀ ck:bH,W.o5 ck (W.sA [116,97,107,101,115] ((p4 d.1).map (·+1)))=W.IV ck ((p4 d.1).map (·+1)):=W.Xi (k:=0) (m:=true) (j:=17) (by decide) (by decide) (by simp) (by simp;intro p ai;have:=wJ p ai;omega);have kL:∀ ck:bH,W.o5 ck [109,111,115,116]=W.IW ck []:=W.Xi (w:=[109,111,115,116]) (l:=[]) (k:=0) (m:=false) (j:=18) (by decide) (by decide) (by simp) (by simp);have bN:∀ ck:bH,W.o5 ck [101,120,116,114,97]=W.IX ck []:=W.Xi (w:=[101,120,116,114,97]) (l:=[]) (k:=0) (m:=false) (j:=19) (by decide) (by decide) (by simp) (by simp);have aU:gF (W.sA [116,97,107,101,115] ((p4 d.1).map (·+1))):=⟨aPL (W.akt (n:=5) (by simp;intro p ai;have:=wJ p ai;omega) (by decide)) (by simp;omega),akx _ _ (by decide) (by simp;intro p ai;have:=wJ p ai;omega)⟩
   have rM:((p4 d.1).map (·+1)).map (· - 1)=p4 d.1:=by
    rw[aQ4];exact (aPN λp _=>by simp).trans (List.map_id _)
   generalize (p4 d.1).map (·+1)=asq at *
   generalize W.sA [116,97,107,101,115] asq=T at *
   have b6:∀ t∈[T,[109,111,115,116],[101,120,116,114,97]],gF t:=by
    intro t aH;simp only[aQO,aQY,or_false]at aH;rcases aH with rfl | rfl | rfl
    ·exact aU
    ·exact⟨by decide,by decide⟩
    ·exact⟨by decide,by decide⟩
   have U:∀ t∈[T,[109,111,115,116],[101,120,116,114,97]],t.length<=10000:=λt aH=>by have:=(b6 t aH).1;omega
   have Xk:([T,[109,111,115,116],[101,120,116,114,97]]:List bd).length<=40:=by simp
   have du:=W.aCi ax Xk U;have xv:=W.ahD ax;have aPE:W.tC (W.mi d) [T,[109,111,115,116],[101,120,116,114,97]]=([W.ow (rB d.1 true).2 [(rB d.1 true).1],W.ow (rB d.1 true).2 [(rB d.1 true).1],W.ow (kY d.1).2 [(kY d.1).1]],W.mi d):=by
    grind [W.tC,W.IV,W.IW,W.IX,W.mi]
   generalize [T,[109,111,115,116],[101,120,116,114,97]]=ab at *
   rw[show Jy.sh (ab,x)=mpure (if x.length > 10 then ([],false) else Fk (mn (k0 ab) x)) from bP ⟨b6,Xk⟩ _,aN];by_cases al:x.length > 10
   ·simp_all
   ·rw[if_neg al];cases hm:(Fk (mn (k0 ab) x)).2 with
    | false=>simp
    | true=>
     obtain⟨m1,m2⟩:=aGH hm;obtain⟨cs,h⟩:=aGw b6 m1;have wJ:(mn (k0 ab) x).2.1=Pe cs:=by rw[h.val]
     rw[wJ]at m2;have s7:∀ k,(sz k cs).length<=1:=λk=>by rw[<-aGu];exact aGI m2 _
     have D:Fj.sh (d,(Fk (mn (k0 ab) x)).1)=_:=(aGG ax b6 Xk h s7).trans du;have iy:B2.sh d.1=mpure (kY d.1):=bP E _;have z2:W.EZ.sh (((W.mi d).1,[],[],[],[],0,0,0,0,0,0,0),d.1,[],[],[],[],0,0,0,0,0,0,0)=mpure true:=W.aGT E;have my:=aG5 ax;rcases my with⟨dt,ei,j2,g4⟩ | dt
     ·have z3:W.mK.sh (kY d.1).1=mpure (W.lB (kY d.1).1):=bP g4 _;simp_all
     ·have e:W.ow (kY d.1).2 [(kY d.1).1]=[110,111,110,101]:=by rw[dt];rfl
      simp_all
  ·rfl
  ·simp
  ·intro i G p ai;rw[aQ6]at G;have dR:i<p.length:=by omega
   have aD:=aM l[i] (by simp);have hw:=bs (n:=i+1);have gz:=bs (n:=l[i]+1);simp_all[if_neg]
  simp
 simp_all
end Go.Fer
namespace Go.Fer.Sk
open Go.Proofs Go.Proofs.Tryz
set_option maxRecDepth 100000
noncomputable section
abbrev ab:c8:=.fe
abbrev S(a b:c8):c8:=.seq a b
abbrev ck:c8:=S ab ab
abbrev C(a b:c8):c8:=.cond a b
abbrev B(a:c8):c8:=.block a
abbrev J(s:List (Nat×cg))(b:List (Nat×cc))(x y:c8):c8:=.join ⟨s,b⟩ x y
abbrev W(s:List (Nat×cg))(b:List (Nat×cc))(x:c8):c8:=.loop ⟨s,b⟩ x
abbrev cu(s:List (Nat×cg))(b:List (Nat×cc))(t:List (Nat×cg))(c:List (Nat×cc))(u:List (Nat×cg))(d:List (Nat×cc))(x y:c8):c8:=.range ⟨s,b⟩ ⟨t,c⟩ ⟨u,d⟩ x y
abbrev X(s:List (Nat×cg))(b:List (Nat×cc))(x:c8):c8:=S ab (B (W s b x))
abbrev K(s:List (Nat×cg))(b:List (Nat×cc))(x y:c8):c8:=S ab (J s b x y)
abbrev bE(n:Nat):cg:=.eX n 0
abbrev ao:cg:=.val bX
abbrev b4:cc:=.bn bX
abbrev qP:cg:=.val hH
abbrev aG6:cg:=.val e'
abbrev gf:cc:=.bn e'
abbrev k5:cg:=.val kD
abbrev gC:cc:=.bn kD
abbrev sB:cg:=.val HA
abbrev u5:cg:=.val HB
abbrev wL:cg:=.val L_
abbrev Xl:cc:=.gy xz
abbrev eQ:cg:=.val gq
abbrev JB:cc:=.bn gq
abbrev Cv:cg:=.val L'
abbrev Fl:cg:=.val Ma
abbrev sC:cg:=.val HD
abbrev Cw:cc:=.gy t32
abbrev mo:cg:=.val s_
abbrev sD:cg:=.val qt
abbrev akG:cc:=.gy SW
abbrev Pg:cc:=.gy wP
abbrev Cx:cc:=.gy zR
abbrev mL:cg:=.val nH
abbrev Xm:cc:=.bn abJ
abbrev aG7:cc:=.bn Bl
abbrev akH:cc:=.gy Bl
abbrev aG8:cg:=.val abK
abbrev Ph:cc:=.bn uD
abbrev JC:cc:=.gy uD
abbrev akI:cg:=.val rm
abbrev zK:cc:=.bn rm
abbrev aG9:cg:=.val mm
abbrev akJ:cc:=.bn mm
abbrev aG_:cg:=.val SY
abbrev JD:cc:=.gy ta
abbrev aG':cc:=.bn yQ
abbrev Fm:cc:=.bn uC
abbrev aHa:cc:=.gy uC
abbrev akK:cg:=.val lq
abbrev zL:cc:=.bn lq
abbrev mM:cg:=.val rn
abbrev aHb:cg:=.val abR
abbrev akL:cg:=.val abS
abbrev JE:cg:=.val DP
abbrev Fo:cg:=.val Ff
abbrev JF:cc:=.bn Ff
abbrev akM:cc:=.gy SX
abbrev Xn:cc:=.bn DN
abbrev akN:cc:=.gy DN
abbrev Xo:cg:=.val L9
abbrev akO:cc:=.bn Bk
abbrev aHc:cc:=.bn DO
abbrev akP:cc:=.gy DO
abbrev Xp:cg:=.val yR
abbrev akQ:cg:=.val abU
abbrev akR:cg:=.val r1
abbrev JG:cc:=.bn r1
abbrev aHd:cg:=.val abV
abbrev Xq:cg:=.val S1
abbrev iH:cc:=.bn tb
abbrev Cy:cc:=.gy tb
abbrev akS:cg:=.val SZ
abbrev akT:cg:=.val S0
abbrev aHe:cg:=.val S4
abbrev Xr:cg:=.val S5
abbrev akU:cg:=.val abW
abbrev Fp:cg:=.val Mc
abbrev JH:cg:=.val abX
abbrev aHf:cg:=.val abY
abbrev aHg:cg:=.val ab1
abbrev aHh:cg:=.val ab2
abbrev Fq:cg:=.val ab3
abbrev aHi:cg:=.val ab4
abbrev aHj:cg:=.val ab6
abbrev aHk:cg:=.val ab7
abbrev Pj:cg:=.val HG
abbrev pU:List (Nat×cg):=[(6,bE 17),(56,.fB [30000,30001,30002,30003,30004,30005,30006,30007,30008,30009]),(57,ao)]
abbrev p5:List (Nat×cg):=[(1,bE 1)]
abbrev akV:List (Nat×cg):=[(1,bE 1),(2,bE 2),(3,bE 1),(38,ao),(39,ao)]
abbrev akW:List (Nat×cg):=[(2,bE 2),(7,bE 22),(8,bE 8),(9,bE 9),(10,.own 10),(11,bE 11),(24,sB),(25,ao),(26,ao)]
abbrev akX:List (Nat×cg):=[(2,bE 2),(3,bE 3),(4,.own 4),(5,.own 5),(7,Xp),(8,ao),(9,ao),(23,ao),(29,Xq),(30,ao),(31,ao)]
abbrev wM:List (Nat×cg):=[(1,bE 1),(3,ao)]
abbrev akY:List (Nat×cg):=[(2,bE 2),(7,bE 30),(10,ao),(11,ao),(46,ao),(47,ao),(52,u5),(53,ao),(54,ao),(61,ao),(62,ao)]
abbrev aHl:List (Nat×cg):=[(1,bE 1),(2,bE 2),(3,bE 1),(5,.kM 22),(38,ao),(39,ao),(60,ao),(61,ao)]
abbrev akZ:List (Nat×cg):=[(0,mM),(1,eQ),(2,ao),(3,.il),(9,ao),(29,Cv),(30,ao),(31,ao),(1000000,.aS gq)]
abbrev ak0:List (Nat×cg):=[(0,mM),(1,.own 200001),(2,sC),(3,ao),(4,.hj 100002),(16,mo),(17,ao),(18,ao)]
abbrev Xs:List (Nat×cg):=[(1,bE 1),(2,bE 2)]
abbrev ak1:List (Nat×cg):=[(2,bE 2),(3,bE 3),(4,.own 4),(5,.own 5),(7,Xp),(8,ao),(9,ao),(23,ao)]
abbrev ak2:List (Nat×cg):=[(2,bE 2),(7,bE 30),(10,ao),(46,ao),(47,ao),(52,u5),(53,ao),(54,ao)]
abbrev ak3:List (Nat×cg):=[(0,Fo),(3,bE 3),(4,.own 4),(5,.own 5),(13,Fo),(14,ao),(15,ao)]
abbrev ak4:List (Nat×cg):=[(0,.il),(2,.eL yR),(10,akT),(11,ao),(1000000,.aS (.ar lq bX))]
abbrev JI:List (Nat×cg):=[(2,bE 2),(3,bE 3)]
abbrev ak5:List (Nat×cg):=[(2,ao),(6,bE 6),(8,bE 8),(9,qP),(17,akS),(18,ao),(19,ao)]
abbrev ak6:List (Nat×cg):=[(4,bE 4),(5,bE 5),(10,.hj 24),(28,Xq),(29,ao),(30,ao)]
abbrev ak7:List (Nat×cg):=[(2,bE 2),(3,bE 3),(4,.own 4),(5,.own 5),(7,Xp),(23,ao)]
abbrev Fs:List (Nat×cg):=[(1,bE 1),(5,ao)]
abbrev ak8:List (Nat×cg):=[(0,akU),(1,ao),(2,ao),(3,ao),(9,ao),(18,eQ),(19,ao),(20,ao)]
abbrev ak9:List (Nat×cg):=[(0,Fo),(3,bE 3),(4,.own 4),(5,.own 5),(40,ao),(41,ao)]
abbrev ak_:List (Nat×cg):=[(1,ao),(6,mM),(8,.own 8),(9,.own 50260),(29,ao),(30,ao)]
abbrev ak':List (Nat×cg):=[(1,mL),(2,bE 2),(5,ao),(6,ao),(7,ao),(8,ao),(10,ao)]
abbrev Pk:List (Nat×cg):=[(1,bE 1),(3,ao),(4,ao)]
abbrev ala:List (Nat×cg):=[(1,aHd),(4,bE 4),(5,qP),(13,Xq),(14,ao),(15,ao)]
abbrev alb:List (Nat×cg):=[(0,mM),(1,sC),(5,.own 50140),(6,ao),(16,ao),(17,ao)]
abbrev Xt:List (Nat×cg):=[(2,bE 2),(3,bE 3),(7,ao)]
abbrev lC:List (Nat×cc):=[(17,.cells HF [eQ,.own 30000,.own 30001,.own 30002,.own 30003,.own 30004,.own 30005,.own 30006,.own 30007,.own 30008,.own 30009]),(30000,iH),(30001,iH),(30002,iH),(30003,iH),(30004,iH),(30005,iH),(30006,iH),(30007,iH),(30008,iH),(30009,iH),(100000,.cells uE [mo,sD,eQ,mo,ao,ao,ao,ao,ao,ao,ao,sD,.own 100002]),(100002,JG)]
abbrev wN:List (Nat×cc):=[(12,Cy),(17,.cells HF [eQ,.own 30000,.own 30001,.own 30002,.own 30003,.own 30004,.own 30005,.own 30006,.own 30007,.own 30008,.own 30009]),(30000,iH),(30001,iH),(30002,iH),(30003,iH),(30004,iH),(30005,iH),(30006,iH),(30007,iH),(30008,iH),(30009,iH),(100000,.cells uE [mo,sD,eQ,mo,ao,ao,ao,ao,ao,ao,ao,sD,.own 100002]),(100002,JG)]
abbrev Pl:List (Nat×cc):=[(1,.cells t32 [.own 17,.own 22,ao,.own 27,.own 84,.own 87,.own 90,.own 93,ao]),(2,.cells t32 [.dW,.dW,ao,.dW,.dW,.dW,.dW,.dW,ao]),(17,Xn),(22,akO),(27,Xm),(84,b4),(87,aG7),(90,aG'),(93,Fm)]
abbrev alc:List (Nat×cc):=[(1,.cells t32 [.own 17,.own 22,ao,.own 27,eQ,Cv,Fl,sC,ao]),(2,.cells t32 [.dW,.dW,ao,.dW,.dW,.dW,.dW,.dW,ao]),(17,Xn),(22,.h6 Bk (.own 50530)),(27,Xm),(50530,aHc)]
abbrev zM:List (Nat×cc):=[(2,Cw),(28,.mp uC bX),(30,.cells HE [sB,u5,ao,wL,eQ,Cv,Fl,sC,ao,.dW,.hj 28])]
abbrev ald:List (Nat×cc):=[(1,.cells t32 [.own 17,.own 22,ao,.own 27,eQ,Cv,Fl,sC,ao]),(2,.cells t32 [.dW,.dW,ao,.dW,.dW,.dW,.dW,.dW,ao]),(17,Xn),(22,akO),(27,Xm)]
abbrev ale:List (Nat×cc):=[(4,gC),(5,.cells zR [.dW,.dW,ao,.dW,.dW,.dW,.dW,.dW,ao,.dW,.dW,.dW,.dW,ao,ao,ao,ao,ao,ao,ao]),(50230,JD)]
abbrev Ft:List (Nat×cc):=[(3,JC),(4,b4),(5,b4),(140000,.bR e')]
abbrev JJ:List (Nat×cc):=[(3,.cells qu [.hM 3,.own 30000]),(30000,gf)]
abbrev Fu:List (Nat×cc):=[(2,Pg),(3,.im bX),(4,b4),(5,b4)]
abbrev alf:List (Nat×cc):=[(2,Cw),(28,.mp uC bX),(30,.cells HE [sB,u5,ao,wL,eQ,Cv,Fl,sC,ao,.own 109,.hj 28]),(109,Ph)]
abbrev alg:List (Nat×cc):=[(28,.mp uC bX),(30,.cells HE [sB,u5,ao,wL,eQ,Cv,Fl,sC,ao,.own 109,.hj 28]),(109,Ph)]
abbrev alh:List (Nat×cc):=[(100000,.cells uE [mo,sD,eQ,mo,ao,ao,ao,ao,ao,ao,ao,sD,.own 100002]),(100002,JG)]
abbrev Xu:List (Nat×cc):=[(4,gC),(5,.cells qu [.hM 5,.own 30000]),(30000,gf)]
abbrev p6:List (Nat×cc):=[(1,Xl)]
abbrev qQ:List (Nat×cc):=[(1,Pg)]
abbrev ali:List (Nat×cc):=[(2,.im xz),(22,.cells Bm [sB,u5,ao,wL,.own 61]),(61,JB)]
abbrev alj:List (Nat×cc):=[(100010,JC),(100011,.cells mm [aG9]),(140000,.bR e')]
abbrev Xv:List (Nat×cc):=[(3,b4),(50150,JF),(140000,.bR e')]
abbrev Cz:List (Nat×cc):=[(2,Xl),(3,Xl)]
abbrev tI:List (Nat×cc):=[(1,Cw)]
abbrev Xw:List (Nat×cc):=[(100002,.mp bX bX),(200001,b4)]
abbrev JK:List (Nat×cc):=[(2,Pg),(3,Pg)]
abbrev JL:List (Nat×cc):=[(5,Cw),(6,Cw)]
abbrev bN:c8:=S ab (C ck ab)
abbrev eR:c8:=C ab ab
abbrev aE:c8:=S ab eR
abbrev bz:c8:=S ab (S eR (S (B ck) ab))
abbrev o':c8:=S ab bN
abbrev c_:c8:=S ab (S eR (S (B o') ab))
abbrev bV:c8:=S ab ck
abbrev ey:c8:=S aE (S (B bN) ab)
abbrev mq:c8:=S ab (S ab (K Xs ald (X akV ald (S ab (S eR (J akV alc (B (S ab (S ab (S (.oN 5 ab) (X aHl alc bz))))) (.Lh 22 ab))))) (K Xs Pl (X [(1,bE 1),(2,bE 2),(100,ao),(101,ao)] Pl bz) (J Xs Pl (X [(1,bE 1),(2,bE 2),(119,ao),(120,ao)] Pl bz) ck))))
abbrev CT:c8:=K [(0,eQ),(1,ao)] [] aE (K [(0,eQ),(6,JH)] [] aE (S ab (K [(7,.own 30)] [(30,b4)] (B (W [(7,.own 30),(8,ao)] [(30,b4)] (S aE (B ab)))) ck)))
abbrev alk:c8:=S ab (K [(4,.hj 12)] [(12,.mp bX lq)] (X [(4,.hj 12),(13,sD),(14,ao),(15,ao)] [(12,.mp bX lq)] (S ab (S eR (S (B (S ab (S o' ab))) ab)))) (K [(9,.own 9)] [(9,zL)] (X [(4,.hj 12),(9,.own 9),(39,eQ),(40,ao),(41,ao)] [(9,zL),(12,.k9 bX lq)] bz) ck))
abbrev kL:c8:=S ab (S bN ck)
abbrev rE:c8:=S ab (S ab bV)
abbrev CA:c8:=S aE (S (B o') ab)
abbrev alm:c8:=S ab (K [(7,.own 7)] [(7,gf)] (X [(1,ao),(7,.own 7),(15,JE),(16,ao),(17,ao)] [(7,gf)] bz) ck)
abbrev zN:c8:=S aE (S (B ab) ab)
abbrev zO:c8:=B (S ab (S ab aE))
abbrev Fv:c8:=S ab (S ab (S bN bV))
abbrev wO:c8:=B (S ab aE)
abbrev Pm:c8:=S ab (S eR (S (B bV) ab))
abbrev aln:c8:=K [] [] (X [(0,eQ),(3,ao)] [] ey) ck
abbrev alo:c8:=X [(1,bE 1),(4,ao)] tI ey
abbrev Xx:c8:=S ab (S bN (S bN ck))
abbrev alp:c8:=S ab (S (S ab (B (S ab (C ck bN)))) ck)
abbrev nr:=cK.mk ⟨[(0,bE 100000),(1,.val gq)],[(100000,.gy ta)]⟩ ⟨[(0,.val kD)],[(100000,.gy ta)]⟩ [none] 2
def aHm:=mk aFL func192 dy bV ayg
def aHn:=mk aHm func114 H.dy bV H.avw
def aHo:=mk aHn func113 H.yV bV H.avA
def aHp:=mk aHo func115 H.Bw kL H.avC
def aHq:=mk aHp func54 H.yX (S ab (S bN (J p5 qQ (X wM qQ ey) (J p5 qQ (X [(1,bE 1),(4,ao)] qQ ey) (J p5 qQ (X Fs qQ ey) (J [] [] (X [(1,bE 1),(6,ao)] qQ CA) ck)))))) H.av'
def aHr:=mk aHq func55 H.MC bV H.avH
def TG:=mk aHr func22 H.jV (S ab (S bN (J [] [] (X wM qQ (S aE (J wM qQ (B (X Pk qQ ey)) ab))) ck))) H.awb
def aHs:=mk TG func211 ry bV ayl
def aHt:=mk aHs func268 xS aln aym
def aHu:=mk aHt func212 wa (K p5 [(1,akP)] (X wM [(1,akP)] ey) ck) ayo
def aHv:=mk aHu func213 sc bV ayh
def aHw:=mk aHv func269 EB bV ayj
def aHx:=mk aHw func214 uO bV ayk
def aHy:=mk aHx func144 y9 (S ab (S bN (J p5 p6 (X wM p6 CA) (J p5 p6 (X Fs p6 (S aE (J Fs p6 (B (S bN (X [(1,bE 1),(5,ao),(6,ao)] p6 ey))) ab))) (J [] [] (X [(1,bE 1),(7,ao)] p6 CA) ck))))) ayq
def aHz:=mk aHy func71 jV (S ab (S bN (J [] [] (X wM p6 (S aE (J wM p6 (B (X Pk p6 CA)) ab))) ck))) ays
def aHA:=mk aHz func72 dy bV azh
def aHB:=mk aHA func145 Nl (K [] [] (X [(0,eQ),(1,ao),(5,ao)] [] ey) ck) azl
def aHC:=mk aHB func73 No kL azu
def aHD:=mk aHC func74 U5 bV azv
def aHE:=mk aHD func32 si (S ab (S o' (S bN (J p5 tI alo (J p5 tI (X Fs tI ey) (J p5 tI (X [(1,bE 1),(6,ao)] tI ey) (J [] [] (X [(1,bE 1),(7,ao)] tI CA) ck))))))) azw
def kT:=mk aHE func8 W.uW kL W.aB3
def aHF:=mk kT func67 y4 (S ab (S bN (J p5 p6 (X wM p6 (S aE (J wM p6 (B (S bN (X Pk p6 ey))) ab))) (S bN (J p5 p6 (X Fs p6 ey) ck))))) azd
def aHG:=mk aHF func29 NI (S ab (S bN (J p5 tI (X wM tI ey) (J p5 tI alo (S bN (K Fs tI (X [(1,bE 1),(5,ao),(6,ao)] tI zN) ck)))))) aAN
def aHH:=mk aHG func30 H.y4 (S ab (S bN (S bN (K [(3,ao)] [] (X Pk qQ zN) ck)))) H.axT
def aHI:=mk aHH func68 W.N9 (S ab (K [(3,.own 5)] [(5,gC)] (X [(0,k5),(3,.own 5),(4,ao)] [(5,gC)] (S aE (J [(0,k5),(3,.own 5),(4,ao)] [(5,gC)] (B aE) ab))) ck)) W.aB6
def aHJ:=mk aHI func69 W.N8 (S ab (S bN (K [(3,ao)] [] (X [(0,k5),(3,ao),(4,ao)] [] (S aE (S (B (S bN ab)) ab))) ck))) W.aB5
def aHK:=mk aHJ func70 W.N_ (S ab rE) W.aB7
def aHL:=mk aHK func31 W.Oa (S ab (K [(3,.own 3),(5,mL)] [(3,b4)] (X [(3,.own 3),(5,mL),(6,ao)] [(3,b4)] (S aE (S (B (S ab (S bN ab))) ab))) (K [] [] (X [(3,.own 3),(5,mL),(8,mL),(9,eQ),(10,eQ),(11,ao)] [(3,b4)] ey) ck))) W.aB8
def h1:=mk aHL func7 W.I5 (S ab (S bN (K [(1,mL),(2,bE 2),(5,ao),(6,ao),(7,ao),(8,ao)] [(2,Cx)] (X [(1,mL),(2,bE 2),(5,ao),(6,ao),(7,ao),(8,ao),(9,ao)] [(2,Cx)] zN) (J [(2,bE 2),(5,ao),(6,ao),(7,ao),(8,ao)] [(2,Cx)] (X ak' [(2,Cx)] (S aE (J ak' [(2,Cx)] (B (S bN (S ab (B (S ab (C ab (S ab (C ab (S ab (C ck aE)))))))))) ab))) ck)))) W.aCf
def aHM:=mk h1 func342 (kU lW) (K [] [] (X [(0,wL),(1,aHi),(7,ao),(8,ao)] [] c_) ck) (ti lW)
def aHN:=mk aHM func313 (h3 lW) bV (tj lW)
def aHO:=ls aHN [] func314 (zb lW) 1 bV (Ip lW)
def aHP:=nI aHO [(314,1)] func263 (ly lW) bV (Iq lW)
def aHQ:=mk aHP func264 dy bV ayB
def aHR:=mk aHQ func274 BK bV ayD
def aHS:=mk aHR func275 ry bV ayC
def aHT:=mk aHS func273 Na bV ayK
def aHU:=mk aHT func284 (kU bK) (K [] [] (X [(0,eQ),(1,akQ),(7,ao),(8,ao)] [] c_) ck) (ti bK)
def aHV:=mk aHU func233 (h3 bK) bV (tj bK)
def aHW:=ls aHV [] func320 (zb bK) 1 bV (Ip bK)
def aHX:=nI aHW [(320,1)] func277 (ly bK) bV (Iq bK)
def aHY:=mk aHX func278 xS aln ayG
def aHZ:=nI aHY [] func276 wa bV ayL
def aH0:=mk aHZ func345 (kU tq) (K [] [] (X [(0,Xo),(1,aHf),(7,ao),(8,ao)] [] c_) ck) (ti tq)
def aH1:=mk aH0 func321 (h3 tq) bV (tj tq)
def aH2:=ls aH1 [] func322 (zb tq) 1 bV (Ip tq)
def aH3:=nI aH2 [(322,1)] func280 (ly tq) bV (Iq tq)
def aH4:=ls aH3 [] func279 EG 1 bV ayM
def aH5:=mk aH4 func206 sc bV ayE
def aH6:=mk aH5 func207 uO bV ayF
def aH7:=ls aH6 [] func281 EH 1 bV ayN
def aH8:=mk aH7 func346 (kU mF) (K [] [] (X [(0,sB),(1,aHj),(7,ao),(8,ao)] [] c_) ck) (ti mF)
def aH9:=mk aH8 func323 (h3 mF) bV (tj mF)
def aH_:=ls aH9 [] func324 (zb mF) 1 bV (Ip mF)
def aH':=nI aH_ [(324,1)] func282 (ly mF) bV (Iq mF)
def aIa:=mk aH' func347 (kU nh) (K [] [] (X [(0,u5),(1,aHk),(7,ao),(8,ao)] [] c_) ck) (ti nh)
def aIb:=mk aIa func325 (h3 nh) bV (tj nh)
def aIc:=ls aIb [] func326 (zb nh) 1 bV (Ip nh)
def aId:=nI aIc [(326,1)] func283 (ly nh) bV (Iq nh)
def aIe:=nI aId [(279,1),(281,1)] func224 y9 (S ab (S ab rE)) ayO
def aIf:=mk aIe func160 jV (S ab (S bN (K [] [] (X [(3,.hj 12),(14,wL),(15,ao),(16,ao)] [(12,.mp uC bX)] (S ab (S eR (S (B (S ab (S ab (S o' ab)))) ab)))) ck))) ayS
def aIg:=mk aIf func210 dy bV azg
def aIh:=mk aIg func226 uR bV azi
def aIi:=mk aIh func227 Nk (K [] [] (X [(0,eQ),(1,akQ),(7,eQ),(8,ao),(9,ao)] [] c_) ck) azk
def aIj:=ls aIi [] func228 U3 1 bV azn (hc:=λx h=>by obtain⟨w,p,ay,_⟩:=h;exact uF ⟨⟨trivial,tc (congrArg (λo=>o.1) ay)⟩,tc (congrArg (λo=>o.2) ay)⟩)
def aIk:=ls aIj [(228,1)] func225 Iu 1 bV azo (hc:=λx h=>by obtain⟨_,w,ay,_⟩:=h;exact uF ⟨trivial,tc ay⟩)
def aIl:=mk aIk func230 uR bV azj
def aIm:=nI aIl [] func229 Iv bV azp
def aIn:=ls aIm [] func231 Iw 1 bV azq (hc:=λx h=>by obtain⟨w,ay,_⟩:=h;exact uF ⟨trivial,tc ay⟩)
def aIo:=mk aIn func232 Ix bV azr
def aIp:=mk aIo func285 (kU pP) (K [] [] (X [(0,Cv),(1,aHg),(7,ao),(8,ao)] [] c_) ck) (ti pP)
def aIq:=mk aIp func234 (h3 pP) bV (tj pP)
def aIr:=mk aIq func286 (kU pQ) (K [] [] (X [(0,Fl),(1,aHb),(7,ao),(8,ao)] [] c_) ck) (ti pQ)
def aIs:=mk aIr func235 (h3 pQ) bV (tj pQ)
def aIt:=mk aIs func287 (kU sg) (K [] [] (X [(0,sC),(1,aHh),(7,ao),(8,ao)] [] c_) ck) (ti sg)
def aIu:=mk aIt func236 (h3 sg) bV (tj sg)
def aIv:=nI aIu [(225,1),(231,1)] func161 U4 (S ab (S ab (S ab rE))) azs
def aIw:=mk aIv func83 si (S ab (S o' (S bN ck))) azt
def aIx:=mk aIw func124 H.dy bV H.avx
def aIy:=mk aIx func257 (H.kU H.iY) (K [] [] (X [(0,sD),(1,Xr),(7,ao),(8,ao)] [] c_) ck) H.avI
def aIz:=mk aIy func202 (H.h3 H.iY) bV H.avJ
def aIA:=mk aIz func237 H.yV (K p5 [(1,akG)] (X [(1,bE 1),(13,.own 13),(14,ao),(15,ao)] [(1,akG),(13,b4)] c_) ck) H.avB
def aIB:=mk aIA func118 H.D5 bV H.avz
def aIC:=mk aIB func239 H.Bw (S ab bV) H.avD
def aID:=ls aIC [] func238 H.HX 1 bV H.avE
def aIE:=mk aID func240 H.D6 bV H.avF
def Xy:=nI aIE [(238,1)] func162 H.yX (S ab (S bN (J p5 qQ (X [(1,bE 1),(38,mo),(39,ao),(40,ao)] qQ c_) (J p5 qQ (X [(1,bE 1),(57,mo),(58,ao),(59,ao)] qQ c_) (S ab bV))))) H.awa
def alq:cK:=⟨⟨[(0,.dW),(1,.val S2)],[]⟩,⟨[(0,.own 50000)],[(50000,.bn bX)]⟩,[none],2,H.D_⟩
theorem aIF:cW Tryz.prog dT 260 alq:=eu Xy [] trivial func260 (S ab (S (S ab (B (cu [(2,bE 2)] [(2,.cells gq [.own 50000]),(50000,b4)] [(2,bE 100002),(7,ao)] [(100002,.cells gq [.own 150000]),(150000,b4)] [] [(100002,.cells gq [.own 150000]),(150000,b4)] ab (B ab)))) ck)) H.av5
def alr:cK:=⟨⟨[(0,.val S2)],[]⟩,⟨[(0,.own 50040)],[(50040,.bn bX)]⟩,[none],1,H.D_⟩
theorem aIG:cW Tryz.prog dT 199 alr:=eu Xy [(260,.eD alq)] ⟨aIF,trivial⟩ func199 bV H.av6
def Xz:=nJ Xy lr [(166,.eD Wb),(199,.eD alr)] ⟨ah8,aIG,trivial⟩ func127 H.vQ rE H.av7
def als:cK:=⟨⟨[(0,.il),(1,.eL Md),(1000000,.aS bX)],[]⟩,⟨[(1000000,.aS bX)],[]⟩,[],2,H.TP⟩
theorem aIH:cW Tryz.prog dT 288 als:=eu (S:=H.TP) Xz [] trivial func288 (X [(0,.il),(5,.l2 5),(1000000,.aS bX)] [(5,.cG bX lq)] (S ab (S eR wO))) (λx=>wR _)
theorem aII:yd Tryz.prog 288 ⟨[Md],bX,H.lQ⟩:=L6 (c:=als) aIH lr (λx l ab=>(l,x.getD [],(l,ab,[],false),())) rfl (by decide) (by simp[hW])
 (λx l ab i al=>by
  obtain⟨T,aU⟩:=al;obtain⟨m,hm,_⟩:=aU;subst hm;by_cases aW:i=0
  ·subst aW;exact .inr (.inr (.inl ⟨rfl,rfl⟩))
  ·by_cases E:i=1
   ·subst E;exact .inr (.inl ⟨by decide,by decide,_,_,rfl,rfl⟩)
   by_cases L:i=cd
   ·subst L;exact .inr (.inr (.inr ⟨rfl,rfl⟩))
   ·refine .inl ?_;exact (if_neg aW).trans ((if_neg E).trans (if_neg L)))
 rfl (λbl=>⟨_,_,_,_,rfl⟩) (λx l al=>by
  obtain⟨T,aU⟩:=al;obtain⟨m,hm,_⟩:=aU;subst hm;have h:=H.aw5 l m;refine⟨h.1,λbl gK et gb p fD=>?_⟩;have e:aL.aS bl.1.1 bX bl.1.2.1 bl.1.2.2.1 bl.1.2.2.2=.aS et bX gb p false:=fD;injection e with aE bz c_ bV ey
  rw[<-bV];exact h.2 bl gK ey)
def aIJ:=nJ Xz (Xz.u [] [(288,⟨[Md],bX,H.lQ⟩)] ⟨aII,trivial⟩) [] trivial func241 H.Ea bV H.av_
def aIK:=mk aIJ func163 H.Eg alk H.awj
def aIL:=mk aIK func84 H.jV (S ab (S bN (S o' ck))) H.awl
def aIM:=mk aIL func42 W.uW kL W.aBX
def XA:=nJ aIM lr [(242,.eD ah_)] ⟨aC0,trivial⟩ func164 H.NN (S ab (K [(0,Fq),(3,ao)] [] (X [(0,Fq),(3,ao),(9,Fq),(10,ao),(11,ao)] [] (S ab (S eR (J [(0,Fq),(3,ao),(9,Fq),(10,ao),(11,ao)] [] zO ab)))) (K [(6,.own 50240)] [(50240,zL)] (X [(6,.own 50240),(25,Fq),(26,ao),(27,ao)] [(50240,zL)] bz) ck))) H.aAW
def alu:cK:=⟨⟨[(0,.val Mc)],[]⟩,⟨[(0,.own 50240)],[(50240,.bn cX)]⟩,[none],1,H.NO⟩
theorem aIN:cW Tryz.prog dT 165 alu:=eu XA [(243,.eD ah9)] ⟨aCZ,trivial⟩ func165 (S ab (K [(0,Fp),(3,ao)] [] (X [(0,Fp),(3,ao),(9,Fp),(10,ao),(11,ao)] [] (S ab (S eR (J [(0,Fp),(3,ao),(9,Fp),(10,ao),(11,ao)] [] zO ab)))) (K [(6,.own 50240)] [(50240,b4)] (X [(6,.own 50240),(25,Fp),(26,ao),(27,ao)] [(50240,b4)] bz) ck))) H.aAX
def alv:cK:=⟨⟨[(0,.own 200001)],[(200001,.bn cX)]⟩,⟨[(0,.sub 200001)],[(200001,.bn cX)]⟩,[none],1,H.NP⟩
theorem aIO:cW Tryz.prog dT 167 alv:=eu XA [] trivial func167 (S ab (S bN (J [(0,.own 200001)] [(200001,b4)] (X [(0,.own 200001),(3,ao)] [(200001,b4)] (S aE (J [(0,.own 200001),(3,ao)] [(200001,b4)] (B (S ab (C (K [(0,.own 200001),(3,ao)] [(200001,b4)] (X [(0,.own 200001),(3,ao),(4,.sub 200001),(5,ao)] [(200001,b4)] (S aE (J [(0,.own 200001),(3,ao),(4,.sub 200001),(5,ao)] [(200001,b4)] (B bN) ab))) bV) ab))) ab))) ck))) H.aA3
def aIP:=mk XA func168 H.IQ kL H.aA_
def ya:=nJ aIP lr [(165,.eD alu),(166,.eD Wb),(167,.eD alv)] ⟨aIN,ah8,aIO,trivial⟩ func85 H.ES (S ab (S o' (S ab (S ab (S o' (S ab (S bN (S ab Fv)))))))) H.aBa
def aIQ:cK:=⟨⟨[(0,.val HA)],[]⟩,⟨[(0,.own 60)],[(60,.bn DN)]⟩,[none],1,W.tE⟩
theorem aIR:cW Tryz.prog dT 169 aIQ:=eu ya [] trivial func169 kL W.zq
abbrev XB:gp:=.mB (jG.mB (W.hJ mF).dJ)
theorem alw:gp.jZ Tryz.prog dT 169 XB:=Cg (sh:=(W.hJ mF).sh) aIR (λx h=>⟨h,λbl gK=>by have h:bl=_:=gK;subst h;exact (iE).symm⟩)
def aIS:cK:=⟨⟨[(0,.val HB)],[]⟩,⟨[(0,.own 60)],[(60,.bn Bk)]⟩,[none],1,W.tE⟩
theorem aIT:cW Tryz.prog dT 170 aIS:=eu ya [] trivial func170 kL W.zq
abbrev XC:gp:=.mB (jG.mB (W.hJ nh).dJ)
theorem alx:gp.jZ Tryz.prog dT 170 XC:=Cg (sh:=(W.hJ nh).sh) aIT (λx h=>⟨h,λbl gK=>by have h:bl=_:=gK;subst h;exact (iE).symm⟩)
def aIU:cK:=⟨⟨[(0,.val L_)],[]⟩,⟨[(0,.own 60)],[(60,.bn HC)]⟩,[none],1,W.tE⟩
theorem aIV:cW Tryz.prog dT 171 aIU:=eu ya [] trivial func171 kL W.zq
abbrev XD:gp:=.mB (jG.mB (W.hJ lW).dJ)
theorem aly:gp.jZ Tryz.prog dT 171 XD:=Cg (sh:=(W.hJ lW).sh) aIV (λx h=>⟨h,λbl gK=>by have h:bl=_:=gK;subst h;exact (iE).symm⟩)
def XE:cK:=⟨⟨[(0,.val L9)],[]⟩,⟨[(0,.own 60)],[(60,.bn DO)]⟩,[none],1,W.tE⟩
theorem alz:cW Tryz.prog dT 172 XE:=eu ya [] trivial func172 kL W.zq
def alA:cK:=⟨⟨[(0,.val gq)],[]⟩,⟨[(0,.own 60)],[(60,.bn cX)]⟩,[none],1,W.NW⟩
theorem alB:cW Tryz.prog dT 173 alA:=eu ya [] trivial func173 kL W.aBD
abbrev XF:gp:=.mB (jG.mB H.vP.dJ)
theorem alC:gp.jZ Tryz.prog dT 173 XF:=Cg (sh:=H.vP.sh) alB (λx h=>⟨h,λbl gK=>by have h:bl=_:=gK;subst h;exact (iE).symm⟩)
def aIW:cK:=⟨⟨[(0,.val L')],[]⟩,⟨[(0,.own 60)],[(60,.bn Bl)]⟩,[none],1,W.tE⟩
theorem aIX:cW Tryz.prog dT 174 aIW:=eu ya [] trivial func174 kL W.zq
abbrev XG:gp:=.mB (jG.mB (W.hJ pP).dJ)
theorem alD:gp.jZ Tryz.prog dT 174 XG:=Cg (sh:=(W.hJ pP).sh) aIX (λx h=>⟨h,λbl gK=>by have h:bl=_:=gK;subst h;exact (iE).symm⟩)
def aIY:cK:=⟨⟨[(0,.val Ma)],[]⟩,⟨[(0,.own 60)],[(60,.bn yQ)]⟩,[none],1,W.tE⟩
theorem aIZ:cW Tryz.prog dT 175 aIY:=eu ya [] trivial func175 kL W.zq
abbrev Pn:gp:=.mB (jG.mB (W.hJ pQ).dJ)
theorem XH:gp.jZ Tryz.prog dT 175 Pn:=Cg (sh:=(W.hJ pQ).sh) aIZ (λx h=>⟨h,λbl gK=>by have h:bl=_:=gK;subst h;exact (iE).symm⟩)
def aI0:cK:=⟨⟨[(0,.val HD)],[]⟩,⟨[(0,.own 60)],[(60,.bn uC)]⟩,[none],1,W.tE⟩
theorem aI1:cW Tryz.prog dT 176 aI0:=eu ya [] trivial func176 kL W.zq
abbrev XI:gp:=.mB (jG.mB (W.hJ sg).dJ)
theorem alE:gp.jZ Tryz.prog dT 176 XI:=Cg (sh:=(W.hJ sg).sh) aI1 (λx h=>⟨h,λbl gK=>by have h:bl=_:=gK;subst h;exact (iE).symm⟩)
def alF:=nJ ya lr [(169,XB),(170,XC),(171,XD),(172,.eD XE),(173,XF),(174,XG),(175,Pn),(176,XI)] ⟨alw,alx,aly,alz,alC,alD,XH,alE,trivial⟩ func86 W.NZ mq W.aBG
def alG:cK:=⟨⟨[(0,.val zR)],[]⟩,⟨[(0,bE 17)],[(17,.gy ta)]⟩,[none],1,W.xO⟩
theorem aI2:cW Tryz.prog dT 43 alG:=eu alF [] trivial func43 (S ab bV) W.Ui
def JM:=mk alF func44 W.N4 bV W.aBS
def Po:cK:=⟨⟨[(0,bE 100000),(1,.val qt),(2,.val gq)],[(100000,.gy ta)]⟩,⟨[(0,.val kD)],[(100000,.gy ta)]⟩,[none],3,W.EV⟩
theorem XJ:cW Tryz.prog dT 177 Po:=eu JM [] trivial func177 Fv W.aBk
def XK:cK:=nr (W.gL 5 W.VD)
theorem aI3:cW Tryz.prog dT 87 XK:=eu JM [(177,.eD Po)] ⟨XJ,trivial⟩ func87 bV W.aBl
def aI4:cK:=nr (W.gL 4 W.VE)
theorem aI5:cW Tryz.prog dT 88 aI4:=eu JM [(177,.eD Po)] ⟨XJ,trivial⟩ func88 bV W.aBm
def aI6:cK:=nr (W.gL 1 W.VF)
theorem aI7:cW Tryz.prog dT 89 aI6:=eu JM [(177,.eD Po)] ⟨XJ,trivial⟩ func89 bV W.Uj
def aI8:=mk JM func181 W.B_ (S ab (S bN (K [(3,.own 3)] [(3,gC)] (X [(3,.own 3),(9,eQ),(10,ao),(11,ao)] [(3,gC)] bz) ck))) W.aBg
def aI9:=mk aI8 func180 W.tD alp W.aBh
def aI_:=mk aI9 func178 W.B' bV W.aBi
def aI':=mk aI_ func332 H.TT bV H.avM
def aJa:=mk aI' func312 H.TU (S ab (S ab (S ab (S (S ab (C (S bN ck) ab)) (S bN (S bN (S bN ck))))))) H.avN
def aJb:=mk aJa func311 H.tk bV H.avO
def aJc:=mk aJb func258 M' (K [] [] (X [(0,eQ),(1,ao),(7,ao),(8,ao)] [] c_) ck) ayI
def aJd:=mk aJc func195 r_ bV ayJ
def JN:=ls aJd [] func194 H.En 1 bV H.Uj
abbrev CB:=DV (aty JN) [(194,1)] []
def alH:cK:=⟨⟨[(0,.val qt)],[]⟩,⟨[(0,.own 9),(1,.val hH)],[(9,.bn lq)]⟩,[none,none],1,H.MI⟩
theorem aJe:cW Tryz.prog CB 163 alH:=eu JN [] trivial func163 alk H.awk
def alI:cK:=⟨⟨[(0,.own 200001),(1,.val S5)],[(200001,.bn lq)]⟩,⟨[(0,.sub 200001)],[(200001,.bn lq)]⟩,[none],2,H.MK⟩
theorem aJf:cW Tryz.prog CB 193 alI:=eu JN [] trivial func193 (S ab (S ab (S bN (J [(0,.own 200001),(5,ao)] [(200001,zL)] (X [(0,.own 200001),(1,Xr),(5,ao),(6,ao)] [(200001,zL)] (S aE (J [(0,.own 200001),(1,Xr),(5,ao),(6,ao)] [(200001,zL)] (B o') ab))) bV)))) H.awm
def aJg:=mk JN func173 H.vP kL H.avK
def aJh:=mk aJg func299 H.TV (K [(0,JH),(2,ao)] [] bN (J [(0,JH),(2,ao)] [] bN (J [(0,JH),(2,ao)] [] bN ck))) H.avP
def Fw:=mk aJh func245 H.TW (S ab (S (C ck ab) ck)) (H.avQ (λ_=>d'))
def alJ:cK:=⟨⟨[(0,.own 200001),(1,.val bX),(2,.val bX),(3,.val HG)],[(200001,.bn tb)]⟩,⟨[],[(200001,.bn tb)]⟩,[],4,H.ME⟩
theorem aJi:cW Tryz.prog CB 355 alJ:=eu Fw [] trivial func355 (X [(0,.own 200001),(1,ao),(2,ao),(3,Pj),(8,ao)] [(200001,iH)] (S aE (J [(0,.own 200001),(1,ao),(2,ao),(3,Pj),(8,ao)] [(200001,iH)] (B (X [(0,.own 200001),(1,ao),(2,ao),(3,Pj),(8,ao),(9,ao)] [(200001,iH)] zN)) ab))) H.av1
def alK:cK:=⟨⟨[(0,.own 200001),(1,.val bX),(2,.val bX),(3,.val bX),(4,.val HG)],[(200001,.bn tb)]⟩,⟨[],[(200001,.bn tb)]⟩,[],5,H.MF⟩
theorem aJj:cW Tryz.prog CB 341 alK:=eu Fw [(355,.eD alJ)] ⟨aJi,trivial⟩ func341 (S ab (X [(0,.own 200001),(1,ao),(2,ao),(3,ao),(4,Pj),(10,qP),(11,qP)] [(200001,iH)] (B (S ab (S bN ab))))) H.av2
def alL:cK:=⟨⟨[(0,.own 200001),(1,.val HG)],[(200001,.bn tb)]⟩,⟨[],[(200001,.bn tb)]⟩,[],2,H.D9⟩
theorem aJk:cW Tryz.prog CB 310 alL:=eu Fw [(341,.eD alK)] ⟨aJj,trivial⟩ func310 ck H.av4
def alM:cK:=⟨⟨[(0,bE 100000),(1,.val gq)],[(100000,.cells uE [.val s_,.val qt,.val gq,.val s_,.val bX,.val bX,.val bX,.val bX,.val bX,.val bX,.val bX,.val qt,.own 100002]),(100002,.bn r1)]⟩,⟨[(0,.val r1),(1,.val hH)],[(100000,.cells uE [.val s_,.val qt,.val gq,.val s_,.val bX,.val bX,.val bX,.val bX,.val bX,.val bX,.val bX,.val qt,.own 100002]),(100002,.bn r1)]⟩,[none,none],2,H.xO⟩
theorem aJl:cW Tryz.prog CB 259 alM:=eu Fw [(310,.eD alL)] ⟨aJk,trivial⟩ func259 (K [(0,bE 100000),(1,eQ),(6,bE 17)] [(17,.cells HF [eQ,.own 30000,.own 30001,.own 30002,.own 30003,.own 30004,.own 30005,.own 30006,.own 30007,.own 30008,.own 30009]),(100000,.cells uE [mo,sD,eQ,mo,ao,ao,ao,ao,ao,ao,ao,sD,.own 100002]),(100002,JG),(30000,iH),(30001,iH),(30002,iH),(30003,iH),(30004,iH),(30005,iH),(30006,iH),(30007,iH),(30008,iH),(30009,iH)] ab (J [(6,bE 17)] lC (X [(1,eQ),(6,bE 17),(21,sD),(22,ao),(23,ao)] lC (S ab (S eR (J [(1,eQ),(6,bE 17),(21,sD),(22,ao),(23,ao)] lC (B (S ab (.split 8 4 10 ab))) ab)))) (J [(6,bE 17)] lC (S ab (B (.iI (.num 57 0 (S ab (S eR (J pU lC (B (S ab (S ab (X [(6,bE 17),(10,.own 30000),(56,.fB [30000,30001,30002,30003,30004,30005,30006,30007,30008,30009]),(57,ao),(62,.own 30000),(63,ao),(64,ao)] lC (S ab (S eR (S (B (S ab (K [(6,bE 17),(10,.own 30000),(11,ao),(12,bE 12),(13,ao),(56,.fB [30000,30001,30002,30003,30004,30005,30006,30007,30008,30009]),(57,ao),(62,.own 30000),(63,ao),(64,ao)] wN aE bN))) ab))))))) ab)))) (.iI (.num 57 1 (S ab (S eR (J pU lC (B (S ab (S ab (X [(6,bE 17),(10,.own 30001),(56,.fB [30000,30001,30002,30003,30004,30005,30006,30007,30008,30009]),(57,ao),(62,.own 30001),(63,ao),(64,ao)] lC (S ab (S eR (S (B (S ab (K [(6,bE 17),(10,.own 30001),(11,ao),(12,bE 12),(13,ao),(56,.fB [30000,30001,30002,30003,30004,30005,30006,30007,30008,30009]),(57,ao),(62,.own 30001),(63,ao),(64,ao)] wN aE bN))) ab))))))) ab)))) (.iI (.num 57 2 (S ab (S eR (J pU lC (B (S ab (S ab (X [(6,bE 17),(10,.own 30002),(56,.fB [30000,30001,30002,30003,30004,30005,30006,30007,30008,30009]),(57,ao),(62,.own 30002),(63,ao),(64,ao)] lC (S ab (S eR (S (B (S ab (K [(6,bE 17),(10,.own 30002),(11,ao),(12,bE 12),(13,ao),(56,.fB [30000,30001,30002,30003,30004,30005,30006,30007,30008,30009]),(57,ao),(62,.own 30002),(63,ao),(64,ao)] wN aE bN))) ab))))))) ab)))) (.iI (.num 57 3 (S ab (S eR (J pU lC (B (S ab (S ab (X [(6,bE 17),(10,.own 30003),(56,.fB [30000,30001,30002,30003,30004,30005,30006,30007,30008,30009]),(57,ao),(62,.own 30003),(63,ao),(64,ao)] lC (S ab (S eR (S (B (S ab (K [(6,bE 17),(10,.own 30003),(11,ao),(12,bE 12),(13,ao),(56,.fB [30000,30001,30002,30003,30004,30005,30006,30007,30008,30009]),(57,ao),(62,.own 30003),(63,ao),(64,ao)] wN aE bN))) ab))))))) ab)))) (.iI (.num 57 4 (S ab (S eR (J pU lC (B (S ab (S ab (X [(6,bE 17),(10,.own 30004),(56,.fB [30000,30001,30002,30003,30004,30005,30006,30007,30008,30009]),(57,ao),(62,.own 30004),(63,ao),(64,ao)] lC (S ab (S eR (S (B (S ab (K [(6,bE 17),(10,.own 30004),(11,ao),(12,bE 12),(13,ao),(56,.fB [30000,30001,30002,30003,30004,30005,30006,30007,30008,30009]),(57,ao),(62,.own 30004),(63,ao),(64,ao)] wN aE bN))) ab))))))) ab)))) (.iI (.num 57 5 (S ab (S eR (J pU lC (B (S ab (S ab (X [(6,bE 17),(10,.own 30005),(56,.fB [30000,30001,30002,30003,30004,30005,30006,30007,30008,30009]),(57,ao),(62,.own 30005),(63,ao),(64,ao)] lC (S ab (S eR (S (B (S ab (K [(6,bE 17),(10,.own 30005),(11,ao),(12,bE 12),(13,ao),(56,.fB [30000,30001,30002,30003,30004,30005,30006,30007,30008,30009]),(57,ao),(62,.own 30005),(63,ao),(64,ao)] wN aE bN))) ab))))))) ab)))) (.iI (.num 57 6 (S ab (S eR (J pU lC (B (S ab (S ab (X [(6,bE 17),(10,.own 30006),(56,.fB [30000,30001,30002,30003,30004,30005,30006,30007,30008,30009]),(57,ao),(62,.own 30006),(63,ao),(64,ao)] lC (S ab (S eR (S (B (S ab (K [(6,bE 17),(10,.own 30006),(11,ao),(12,bE 12),(13,ao),(56,.fB [30000,30001,30002,30003,30004,30005,30006,30007,30008,30009]),(57,ao),(62,.own 30006),(63,ao),(64,ao)] wN aE bN))) ab))))))) ab)))) (.iI (.num 57 7 (S ab (S eR (J pU lC (B (S ab (S ab (X [(6,bE 17),(10,.own 30007),(56,.fB [30000,30001,30002,30003,30004,30005,30006,30007,30008,30009]),(57,ao),(62,.own 30007),(63,ao),(64,ao)] lC (S ab (S eR (S (B (S ab (K [(6,bE 17),(10,.own 30007),(11,ao),(12,bE 12),(13,ao),(56,.fB [30000,30001,30002,30003,30004,30005,30006,30007,30008,30009]),(57,ao),(62,.own 30007),(63,ao),(64,ao)] wN aE bN))) ab))))))) ab)))) (.iI (.num 57 8 (S ab (S eR (J pU lC (B (S ab (S ab (X [(6,bE 17),(10,.own 30008),(56,.fB [30000,30001,30002,30003,30004,30005,30006,30007,30008,30009]),(57,ao),(62,.own 30008),(63,ao),(64,ao)] lC (S ab (S eR (S (B (S ab (K [(6,bE 17),(10,.own 30008),(11,ao),(12,bE 12),(13,ao),(56,.fB [30000,30001,30002,30003,30004,30005,30006,30007,30008,30009]),(57,ao),(62,.own 30008),(63,ao),(64,ao)] wN aE bN))) ab))))))) ab)))) (.iI (.num 57 9 (S ab (S eR (J pU lC (B (S ab (S ab (X [(6,bE 17),(10,.own 30009),(56,.fB [30000,30001,30002,30003,30004,30005,30006,30007,30008,30009]),(57,ao),(62,.own 30009),(63,ao),(64,ao)] lC (S ab (S eR (S (B (S ab (K [(6,bE 17),(10,.own 30009),(11,ao),(12,bE 12),(13,ao),(56,.fB [30000,30001,30002,30003,30004,30005,30006,30007,30008,30009]),(57,ao),(62,.own 30009),(63,ao),(64,ao)] wN aE bN))) ab))))))) ab)))) (.iI (.num 57 10 (S ab (S eR ab))) ab))))))))))))) ck))) H.Ui
def XL(f:Nat):cK:=⟨⟨[(0,bE 100000),(1,.val gq)],[(100000,.cells uE [.val s_,.val qt,.val gq,.val s_,.val bX,.val bX,.val bX,.val bX,.val bX,.val bX,.val bX,.val qt,.own 100002]),(100002,.bn r1)]⟩,⟨[],[(100000,.cells uE [.val s_,.val qt,.val gq,.val s_,.val bX,.val bX,.val bX,.val bX,.val bX,.val bX,.val bX,.val qt,.own 100002]),(100002,.bn r1)]⟩,[],2,H.BC f⟩
theorem alN:∀f,cW Tryz.prog CB 196 (XL f)
 |0=>S_ func196 H.awW
 |f+1=>eu Fw [(196,.eD (XL f)),(259,.eD alM)] ⟨alN f,aJl,trivial⟩ func196 (S ab (S (S ab (C (J [] alh (S ab aE) ab) ab)) (X [(0,bE 100000),(1,eQ),(4,ao),(7,ao)] alh zN))) (H.awZ f)
def aJm:=nJ Fw (JN.u [(194,1)] [] trivial) [(163,.eD alH),(193,.eD alI),(196,.eD (XL 5))] ⟨aJe,aJf,alN 5,trivial⟩ func116 H.qD (S ab (S o' (S ab (S ab (K [(7,bE 15)] [(15,.cells uE [mo,sD,eQ,mo,ao,ao,ao,ao,ao,ao,ao,.sub 50200,.own 30000]),(50200,zL),(30000,JG)] bN kL))))) H.Uk
def aJn:=mk aJm func119 H.Ep (K [(4,bE 4),(5,qP)] [(4,JC)] (X ala [(4,JC)] (S ab (S eR (J ala [(4,JC)] (B (S ab (S ab (B (S ab (C ab aE)))))) ab)))) ck) H.aw3
def aJo:=ls aJn [] func203 H.Ev 1 bV H.axk
def aJp:=ls aJo [(203,1)] func201 H.Ut 1 bV H.axl (hc:=λx h=>by obtain⟨_,f,ay,_⟩:=h;exact uF ⟨trivial,tc ay⟩)
def XM:=mk aJp func198 H.yY (S ab (K [(7,ao)] [] (X [(1,ao),(2,ao),(7,ao),(14,mo),(15,ao),(16,ao)] [] bz) ck)) H.awx
def alO:cK:=⟨⟨[(0,.il),(1,.eL r1),(2,.eL yR),(1000000,.aS (.ar lq bX))],[]⟩,⟨[(1000000,.aS (.ar lq bX))],[]⟩,[],3,(H.Mx H.yY.sh)⟩
theorem aJq:cW Tryz.prog dT 197 alO:=eu (S:=(H.Mx H.yY.sh)) XM [] trivial func197 (X ak4 [] (S ab (S eR (J ak4 [] (B (S ab (X [(0,.il),(2,.eL yR),(5,akS),(6,ao),(10,akT),(11,ao),(1000000,.aS (.ar lq bX))] [] (S aE (S (B aE) ab))))) ab)))) (λx=>wR _)
theorem aJr:yd Tryz.prog 197 ⟨[r1,yR],(.ar lq bX),H.v_⟩:=L6 (c:=alO) aJq lr (λx l ab=>(l,x.1.getD none,x.2.getD none,(l,ab,[],false),())) rfl (by decide) (by simp[hW])
 (λx l ab i al=>by
  obtain⟨T,aU⟩:=al;obtain⟨t,b,E,L,ai,_⟩:=aU;obtain⟨mw,qY⟩:=x;change mw=some (some t) at E;change qY=some (some b) at L;subst E;subst L;by_cases aW:i=0
  ·subst aW;exact .inr (.inr (.inl ⟨rfl,rfl⟩))
  ·by_cases E:i=1
   ·subst E;exact .inr (.inl ⟨by decide,by decide,_,_,rfl,rfl⟩)
   by_cases an:i=2
   ·subst an;exact .inr (.inl ⟨by decide,by decide,_,_,rfl,rfl⟩)
   by_cases L:i=cd
   ·subst L;exact .inr (.inr (.inr ⟨rfl,rfl⟩))
   ·refine .inl ?_;exact (if_neg aW).trans ((if_neg E).trans ((if_neg an).trans (if_neg L))))
 rfl (λbl=>⟨_,_,_,_,rfl⟩) (λx l al=>by
  obtain⟨T,aU⟩:=al;obtain⟨t,b,E,L,ai,_⟩:=aU;obtain⟨mw,qY⟩:=x;change mw=some (some t) at E;change qY=some (some b) at L;subst E;subst L;have h:=H.aw8 l t b ai;refine⟨h.1,λbl gK et gb p fD=>?_⟩;have e:aL.aS bl.1.1 (.ar lq bX) bl.1.2.1 bl.1.2.2.1 bl.1.2.2.2=.aS et (.ar lq bX) gb p false:=fD;injection e with aE bz c_ bV ey
  rw[<-bV];exact h.2 bl gK ey)
def aJs:=nJ XM (XM.u [] [(197,⟨[r1,yR],(.ar lq bX),H.v_⟩)] ⟨aJr,trivial⟩) [] trivial func121 H.Er bV H.axa
def aJt:=ls aJs [] func204 H.Uu 1 (S ab (S (S ab (B (cu [(2,.eL bX),(3,.eL S3),(5,bE 5),(6,bE 6)] [(5,.cells bX [ao]),(6,.cells hH [qP])] [(2,.eL bX),(3,.eL S3),(5,bE 100005),(6,bE 100006),(12,akK),(13,ao)] [(100005,.cells bX [ao]),(100006,.cells hH [qP])] [] [(100005,.cells bX [ao]),(100006,.cells hH [qP])] ck (B bN)))) ck)) H.axm (hc:=λx h=>by obtain⟨_,_,_,_,rfl,_⟩:=h;exact uF ⟨⟨⟨trivial,rfl⟩,rfl⟩,rfl⟩)
def aJu:=nI aJt [(201,1),(204,1)] func131 H.Ew (S ab (S ab (S bN kL))) H.axn
def aJv:=mk aJu func246 H.BE bV H.axo
def alP:=nI aJv [] func179 H.MQ bV H.axp
def aJw:cK:=nr (W.gL 1 W.VG)
theorem aJx:cW Tryz.prog dT 90 aJw:=eu alP [] trivial func90 bV W.aBn
def aJy:=mk alP func122 H.yZ kL H.awz
def aJz:=ls aJy [] func132 H.BF 1 bV H.axq
def alQ:=nI aJz [(132,1)] func59 H.MR bV H.axs
def aJA:cK:=nr (W.gL 1 W.VH)
theorem aJB:cW Tryz.prog dT 91 aJA:=eu alQ [] trivial func91 bV W.aBo
def aJC:=ls alQ [] func117 H.Uw 1 bV H.axt
def aJD:=ls aJC [] func120 H.Ux 1 (S ab (S ab (S (S ab (B (cu [(2,.eL bX),(3,.eL wP),(7,bE 7)] [(7,.cells bX [ao])] [(2,.eL bX),(3,.eL wP),(7,bE 100007),(13,akK),(14,ao)] [(100007,.cells bX [ao])] [] [(100007,.cells bX [ao])] ck (B aE)))) ck))) H.axu (hc:=λx h=>by obtain⟨_,_,_,_,rfl,_⟩:=h;exact uF ⟨⟨⟨trivial,rfl⟩,rfl⟩,rfl⟩)
def alR:=nI aJD [(117,1),(120,1)] func56 H.MT Fv H.axx
def aJE:cK:=nr (W.gL 1 W.VI)
theorem aJF:cW Tryz.prog dT 92 aJE:=eu alR [] trivial func92 bV W.aBp
def aJG:=mk alR func125 H.Bv bV H.avy
def aJH:=ls aJG [] func129 H.Ex 1 bV H.afm
def aJI:=mk aJH func126 H.BG (S ab (S ab (K [(6,bE 6),(8,bE 8),(9,qP)] [(6,Cy),(8,Cy)] (X ak5 [(6,Cy),(8,Cy)] (S ab (S eR (J ak5 [(6,Cy),(8,Cy)] wO ab)))) ck))) H.axz
def aJJ:=ls aJI [] func130 H.UB 1 (S ab (K [(6,ao)] [] (X [(0,akR),(1,.eL bX),(2,.eL wP),(6,ao),(10,ao)] [] (S ab (S eR (J [(0,akR),(1,.eL bX),(2,.eL wP),(6,ao),(10,ao)] [] zO ab)))) ck)) H.axC (hc:=λx h=>by obtain⟨_,_,_,rfl,_⟩:=h;exact uF ⟨⟨trivial,rfl⟩,rfl⟩)
def alS:=nI aJJ [(129,1),(130,1)] func58 H.MV Fv H.axE
def aJK:cK:=nr (W.gL 1 W.VJ)
theorem aJL:cW Tryz.prog dT 93 aJK:=eu alS [] trivial func93 bV W.aBq
def XN:=ls alS [] func123 H.UE 1 bV H.axI (hc:=λx h=>by obtain⟨a,b,ay⟩:=h;exact uF ⟨⟨trivial,tc (congrArg (λo=>o.1) ay)⟩,tc (congrArg (λo=>o.2) ay)⟩)
def alT:cK:=⟨⟨[(0,.il),(1,.eL Mb),(1000000,.aS bX)],[]⟩,⟨[(1000000,.aS bX)],[]⟩,[],2,H.TO⟩
theorem aJM:cW Tryz.prog dT 200 alT:=eu (S:=H.TO) XN [] trivial func200 (X [(0,.il),(5,.l2 5),(1000000,.aS bX)] [(5,.cG bX bX)] (S ab (S eR wO))) (λx=>wR _)
theorem aJN:yd Tryz.prog 200 ⟨[Mb],bX,H.lQ⟩:=L6 (c:=alT) aJM lr (λx l ab=>(l,x.getD [],(l,ab,[],false),())) rfl (by decide) (by simp[hW])
 (λx l ab i al=>by
  obtain⟨T,aU⟩:=al;obtain⟨m,hm,_⟩:=aU;subst hm;by_cases aW:i=0
  ·subst aW;exact .inr (.inr (.inl ⟨rfl,rfl⟩))
  ·by_cases E:i=1
   ·subst E;exact .inr (.inl ⟨by decide,by decide,_,_,rfl,rfl⟩)
   by_cases L:i=cd
   ·subst L;exact .inr (.inr (.inr ⟨rfl,rfl⟩))
   ·refine .inl ?_;exact (if_neg aW).trans ((if_neg E).trans (if_neg L)))
 rfl (λbl=>⟨_,_,_,_,rfl⟩) (λx l al=>by
  obtain⟨T,aU⟩:=al;obtain⟨m,hm,_⟩:=aU;subst hm;have h:=H.aw4 l m;refine⟨h.1,λbl gK et gb p fD=>?_⟩;have e:aL.aS bl.1.1 bX bl.1.2.1 bl.1.2.2.1 bl.1.2.2.2=.aS et bX gb p false:=fD;injection e with aE bz c_ bV ey
  rw[<-bV];exact h.2 bl gK ey)
def aJO:=nJ XN (XN.u [] [(200,⟨[Mb],bX,H.lQ⟩)] ⟨aJN,trivial⟩) [] trivial func128 H.MG bV H.av9
def alU:=nI aJO [(123,1)] func57 H.MW (S ab (S ab (S bN (K [(10,.hj 24)] [(24,.mp bX bX)] (X ak6 [(4,.im bX),(5,.im bX),(24,.mp bX bX)] (S ab (S eR (J ak6 [(4,.im bX),(5,.im bX),(24,.mp bX bX)] zO ab)))) ck)))) H.axJ
def aJP:cK:=nr (W.gL 2 W.VL)
theorem aJQ:cW Tryz.prog dT 94 aJP:=eu alU [] trivial func94 (S ab Xx) W.aBt
def aJR:=ls alU [] func248 H.Ex 1 bV H.axB
def XO:=nI aJR [(248,1)] func182 H.MX (S ab (S ab (S bN (J [(4,.own 4),(5,.own 5)] [(4,b4),(5,b4)] (X ak7 Fu (S ab (S eR (J ak7 Fu (B (S ab (K ak1 Fu (X akX Fu (S ab (S eR (J akX Fu zO ab)))) (J ak1 Fu aE aE)))) ab)))) ck)))) H.axN
def aJS:cK:=nr (W.gL 1 W.VN)
theorem aJT:cW Tryz.prog dT 95 aJS:=eu XO [] trivial func95 (S ab kL) W.aBv
def Fx:cK:=⟨⟨[(0,.val t32)],[]⟩,⟨[(0,.val HA),(1,.val HB),(2,.val bX),(3,.own 28),(4,.own 11),(5,.own 16),(6,.own 20),(7,.own 24),(8,.val bX)],[(28,.bn HC),(11,.bn bX),(16,.bn Bl),(20,.bn yQ),(24,.bn uC)]⟩,[some 9],1,W.zr⟩
theorem JO:cW Tryz.prog dT 86 Fx:=eu XO [(169,XB),(170,XC),(171,XD),(172,.eD XE),(173,XF),(174,XG),(175,Pn),(176,XI)] ⟨alw,alx,aly,alz,alC,alD,XH,alE,trivial⟩ func86 mq W.aBF
def aJU:=mk XO func262 Im (S ab bV) ayU
def aJV:=ls aJU [] func261 Is 1 bV ayV (hc:=λx h=>by obtain⟨i,w,n,ay,_⟩:=h;exact uF ⟨⟨⟨trivial,tc (congrArg (λo=>o.1) ay)⟩,tc (congrArg (λo=>o.2.1) ay)⟩,tc (congrArg (λo=>o.2.2) ay)⟩)
def aJW:=nI aJV [(261,1)] func205 EI (S ab (S o' (S bN (K [(7,bE 22)] [(22,.cells Bm [sB,u5,ao,wL,.own 61]),(61,JB)] (X [(2,bE 2),(7,bE 22),(24,sB),(25,ao),(26,ao)] ali (S ab (S eR (J [(2,bE 2),(7,bE 22),(24,sB),(25,ao),(26,ao)] ali (B (S ab (K [(2,bE 2),(7,bE 22),(10,.own 10),(24,sB),(25,ao),(26,ao)] [(2,.im xz),(10,b4),(22,.cells Bm [sB,u5,ao,wL,.own 61]),(61,JB)] (X akW [(2,.im xz),(8,.im bX),(9,akN),(10,b4),(11,.cells bX [ao]),(22,.cells Bm [sB,u5,ao,wL,.own 61]),(61,JB)] (S aE (J akW [(2,.im xz),(8,.im bX),(9,akN),(10,b4),(11,.im bX),(22,.cells Bm [sB,u5,ao,wL,.own 61]),(61,JB)] wO (S ck ab)))) (S bN ab)))) ab)))) ck)))) ayZ
def alV:=mk aJW func133 EE Fv ay7
def aJX:cK:=nr (W.gL 4 W.B6)
theorem aJY:cW Tryz.prog dT 96 aJX:=eu alV [(86,.eD Fx)] ⟨JO,trivial⟩ func96 (S ab (S ab (S ab (S ab (S bN (S o' bV)))))) W.aBJ
def aJZ:=mk alV func265 M_ alp ay0
def aJ0:=mk aJZ func208 Ng (S ab (K [(0,akU),(1,ao),(9,ao)] [] (X ak8 [] (S ab (S eR (J ak8 [] wO ab)))) ck)) ay5
def yb:=mk aJ0 func134 EF (S ab kL) ay9
def aJ1:cK:=nr (W.gL 3 W.VO)
theorem aJ2:cW Tryz.prog dT 97 aJ1:=eu yb [] trivial func97 (S ab kL) W.aBx
def JP:cK:=⟨⟨[(0,bE 100000),(1,.val t32)],[(100000,.gy ta)]⟩,⟨[(0,.val kD)],[(100000,.gy ta)]⟩,[none],2,W.zt⟩
theorem Pp:cW Tryz.prog dT 183 JP:=eu yb [] trivial func183 (S ab (S bN bV)) W.aBH
def aJ3:cK:=nr (W.gL 2 W.IT)
theorem aJ4:cW Tryz.prog dT 98 aJ3:=eu yb [(86,.eD Fx),(183,.eD JP)] ⟨JO,Pp,trivial⟩ func98 Fv W.aBK
def aJ5:cK:=nr (W.gL 3 W.VP)
theorem aJ6:cW Tryz.prog dT 99 aJ5:=eu yb [(86,.eD Fx),(183,.eD JP)] ⟨JO,Pp,trivial⟩ func99 rE W.aBL
def aJ7:cK:=nr (W.gL 4 W.VQ)
theorem aJ8:cW Tryz.prog dT 100 aJ7:=eu yb [(86,.eD Fx),(183,.eD JP)] ⟨JO,Pp,trivial⟩ func100 rE W.aBM
def aJ9:cK:=nr (W.gL 5 W.VR)
theorem aJ_:cW Tryz.prog dT 101 aJ9:=eu yb [(86,.eD Fx),(183,.eD JP)] ⟨JO,Pp,trivial⟩ func101 rE W.aBN
def alW:cK:=⟨⟨[(0,.own 200001),(1,.val cX),(2,.val cX)],[(200001,.bn yQ)]⟩,⟨[(0,.sub 200001)],[(200001,.bn yQ)]⟩,[none],3,(W.NX W.VZ)⟩
theorem aJ':cW Tryz.prog dT 184 alW:=eu yb [] trivial func184 (S ab (S ab (S bN rE))) (W.aBE W.VZ)
def aKa:cK:=nr (W.gL 1 W.IU)
theorem aKb:cW Tryz.prog dT 102 aKa:=eu yb [(175,Pn),(184,.eD alW)] ⟨XH,aJ',trivial⟩ func102 (S ab (S bN (S .Li ck))) W.aBO
def aKc:=mk yb func267 wc (S ab (S ab (S ab (S ab (S ab (S ab (S ab (S ab rE)))))))) azy
def aKd:=mk aKc func209 wc (S ab (S (C bV ab) bV)) (azA (λ_=>d'))
def aKe:=mk aKd func135 Nr (K [(0,mo),(1,ao)] [] aE (K [(0,mo),(6,JH)] [] aE (S ab (K [(7,.own 30)] [(30,Ph)] (B (W [(7,.own 30),(8,ao)] [(30,Ph)] (S aE (B ab)))) ck)))) azH
def alX:=mk aKe func61 BS (S ab (S o' (S bN (K [(2,bE 2),(7,bE 30)] zM (S ab (C o' ab)) (J [(2,bE 2),(7,bE 30)] zM (X [(2,bE 2),(7,bE 30),(46,ao),(47,ao)] zM (S ab (S eR (J [(2,bE 2),(7,bE 30),(46,ao),(47,ao)] zM (B (S ab (X ak2 zM (S ab (S eR (J ak2 zM (B (S ab (X akY zM (S ab (S eR (J akY zM zO ab)))))) ab)))))) ab)))) (J [(2,bE 2),(7,bE 30)] alf (X [(2,bE 2),(7,bE 30),(92,eQ),(93,ao),(94,ao)] alf bz) (J [(7,bE 30)] alg (X [(7,bE 30),(114,sC),(115,ao),(116,ao)] alg bz) ck))))))) azT
def alY:cK:=⟨⟨[(0,.val gq),(1,.val cX)],[]⟩,⟨[(0,.own 30)],[(30,.bn cX)]⟩,[none],2,zc⟩
theorem aKf:cW Tryz.prog dT 136 alY:=eu alX [] trivial func136 CT agN
def aKg:=mk alX func141 BO (S ab (S (B (S ab (C ck (S ab (C ck bN))))) ck)) azL
def alZ:=mk aKg func64 Nx (S ab (K [(6,.own 6)] [(6,Fm)] (X [(0,mM),(6,.own 6),(14,eQ),(15,ao),(16,ao)] [(6,Fm)] (S ab (S eR (J [(0,mM),(6,.own 6),(14,eQ),(15,ao),(16,ao)] [(6,Fm)] (B (S ab (S aE (S ab (K [(0,mM),(6,.own 6),(10,bE 10),(11,ao),(14,eQ),(15,ao),(16,ao)] [(6,Fm),(10,akH)] (S ab (B (S ab (C ck aE)))) (S bN (X [(0,mM),(6,.own 6),(10,bE 10),(11,ao),(14,eQ),(15,ao),(16,ao),(58,eQ),(59,ao),(60,ao)] [(6,Fm),(10,akH)] bz))))))) ab)))) ck)) az5
def al0:cK:=⟨⟨[(0,.val gq),(1,.val bX)],[]⟩,⟨[(0,.own 30)],[(30,.bn bX)]⟩,[none],2,zc⟩
theorem aKh:cW Tryz.prog dT 136 al0:=eu alZ [] trivial func136 CT agN
def al1:=mk alZ func142 EO bV aAb
def XP(f:Nat):cK:=⟨⟨[(0,.val rn),(1,.own 200001),(2,.val HD),(3,.val bX),(4,.hj 100002)],[(100002,.mp bX bX),(200001,.bn bX)]⟩,⟨[(0,.val hH)],[(100002,.mp bX bX),(200001,.bn bX)]⟩,[none],5,xZ f⟩
theorem al2:∀f,cW Tryz.prog dT 143 (XP f)
 |0=>S_ func143 aAl
 |f+1=>eu al1 [(143,.eD (XP f))] ⟨al2 f,trivial⟩ func143 (K [] Xw (X ak0 Xw (S ab (S eR (J ak0 Xw (B (S ab (S aE (S ab (S ab (C bV ab)))))) ab)))) ck) (aAk f)
def aKi:=nJ al1 lr [(136,.eD al0),(143,.eD (XP 201))] ⟨aKh,al2 201,trivial⟩ func66 NA (S ab (S ab (K [(6,ao)] [] (X alb [(50140,b4)] (S ab (S eR (J alb [(50140,b4)] wO ab)))) ck))) aAn
def aKj:=mk aKi func139 BZ (S ab bV) aAo
def aKk:=mk aKj func249 U8 bV azJ
def al3:=nJ aKk lr [(136,.eD alY)] ⟨aKf,trivial⟩ func185 NG (S ab (S ab (S bN (S ab (K [(8,.own 8)] [(8,b4)] (X ak_ [(8,b4),(50260,b4)] (S ab (S eR (J ak_ [(8,b4),(50260,b4)] zO ab)))) ck))))) aAJ
def aKl:cK:=nr (W.gL 1 W.VS)
theorem aKm:cW Tryz.prog dT 103 aKl:=eu al3 [] trivial func103 (S ab bV) W.aBz
def aKn:=mk al3 func138 zh (K [(4,ao)] [] (X [(0,mM),(4,ao),(7,eQ),(8,ao),(9,ao)] [] (S ab (S eR (J [(0,mM),(4,ao),(7,eQ),(8,ao),(9,ao)] [] wO ab)))) ck) az7
def aKo:=mk aKn func300 U9 bV azK
def aKp:=mk aKo func250 Ns (K [(1,eQ),(2,bE 2)] [(2,Cw)] (X [(1,eQ),(2,bE 2),(7,eQ),(8,ao),(9,ao)] [(2,Cw)] c_) ck) azM
def al4:=mk aKp func186 NH (S ab Xx) aAL
def aKq:cK:=nr (W.gL 0 W.IV)
theorem aKr:cW Tryz.prog dT 104 aKq:=eu al4 [(173,.eD alA)] ⟨alB,trivial⟩ func104 (S ab (K [(0,bE 100000),(5,.own 50100)] [(50100,b4),(100000,JD)] (X [(0,bE 100000),(5,.own 50100),(12,ao),(13,ao)] [(50100,b4),(100000,JD)] bz) bV)) W.aBA
def XQ:=mk al4 func136 Np CT azG
def Pq(f:Nat):cK:=⟨⟨[(0,.val rn),(1,.val gq),(2,.val bX),(3,.il),(1000000,.aS gq)],[]⟩,⟨[(0,.val hH),(1000000,.aS gq)],[]⟩,[none],4,uU f⟩
theorem XR:∀f,cW Tryz.prog dT 140 (Pq f)
 |0=>S_ func140 aAx
 |f+1=>eu XQ [(140,.eD (Pq f))] ⟨XR f,trivial⟩ func140 (S ab (S ab (S bN (J [(0,mM),(1,eQ),(2,ao),(3,.il),(9,ao),(1000000,.aS gq)] [] (X akZ [] (S ab (S eR (J akZ [] (B (S ab (S aE bN))) ab)))) ck)))) (aAw f)
def al5:cK:=⟨⟨[(0,.val rn),(1,.il),(1000000,.aS gq)],[]⟩,⟨[(1000000,.aS gq)],[]⟩,[],2,(Mt (uU 10))⟩
theorem aKs:cW Tryz.prog dT 137 al5:=eu (S:=(Mt (uU 10))) XQ [(140,.eD (Pq 10))] ⟨XR 10,trivial⟩ func137 ab (λx=>wR _)
def Pr:Di:=⟨rn,gq,B1,NC⟩
theorem aKt:G2 Tryz.prog 137 Pr:=abA (c:=al5) aKs lr (ic:=Pr) (λx l ab=>(x,l,(l,ab,[],false),())) rfl (by decide) (by simp[Pr])
 (λx l ab i=>by
  by_cases aW:i=0
  ·subst aW;exact .inr (.inl ⟨by decide,rfl⟩)
  ·by_cases E:i=1
   ·subst E;exact .inr (.inr (.inl ⟨rfl,rfl⟩))
   ·by_cases L:i=cd
    ·subst L;exact .inr (.inr (.inr ⟨rfl,rfl⟩))
    ·refine .inl ?_;exact (if_neg aW).trans ((if_neg E).trans (if_neg L)))
 rfl (λbl=>⟨_,_,_,_,rfl⟩) (λx l ai=>by
  obtain⟨s,az,af⟩:=ai;subst az;have h:=aAy s af l;refine⟨h.1,λbl gK et gb n fD=>?_⟩;have e:aL.aS bl.1.1 gq bl.1.2.1 bl.1.2.2.1 bl.1.2.2.2=.aS et gq gb n false:=fD;injection e with aE bz c_ bV ey
  exact bV.symm.trans ((h.2 bl gK).2.2 ey))
def aKu:=nJ XQ lr [(137,.cG Pr)] ⟨aKt,trivial⟩ func62 NF (S ab (S ab (S (S ab (B (cu [(1,bE 1),(3,bE 3)] [(1,.cells rn [mM]),(3,.cells gq [eQ])] [(1,bE 100001),(3,bE 100003),(15,eQ)] [(100001,.cells rn [mM]),(100003,.cells gq [eQ])] [] [(100001,.cells rn [mM]),(100003,.cells gq [eQ])] ab (B aE)))) ck))) aAD
def aKv:=mk aKu func110 Vy (S ab kL) aAF
def XS:=mk aKv func50 EP bV aAG
def aKw:cK:=nr (W.gL 0 W.IW)
theorem aKx:cW Tryz.prog dT 105 aKw:=eu XS [] trivial func105 (S ab bV) W.aBB
def al6:cK:=⟨⟨[(0,.val rn),(1,.il),(1000000,.aS gq)],[]⟩,⟨[(1000000,.aS gq)],[]⟩,[],2,(Mu (uU 10))⟩
theorem aKy:cW Tryz.prog dT 63 al6:=eu (S:=(Mu (uU 10))) XS [(140,.eD (Pq 10))] ⟨XR 10,trivial⟩ func63 ab (λx=>wR _)
def Ps:Di:=⟨rn,gq,B1,Vt⟩
theorem aKz:G2 Tryz.prog 63 Ps:=abA (c:=al6) aKy lr (ic:=Ps) (λx l ab=>(x,l,(l,ab,[],false),())) rfl (by decide) (by simp[Ps])
 (λx l ab i=>by
  by_cases aW:i=0
  ·subst aW;exact .inr (.inl ⟨by decide,rfl⟩)
  ·by_cases E:i=1
   ·subst E;exact .inr (.inr (.inl ⟨rfl,rfl⟩))
   ·by_cases L:i=cd
    ·subst L;exact .inr (.inr (.inr ⟨rfl,rfl⟩))
    ·refine .inl ?_;exact (if_neg aW).trans ((if_neg E).trans (if_neg L)))
 rfl (λbl=>⟨_,_,_,_,rfl⟩) (λx l ai=>by
  obtain⟨s,az,af⟩:=ai;subst az;have h:=aAz s af l;refine⟨h.1,λbl gK et gb n fD=>?_⟩;have e:aL.aS bl.1.1 gq bl.1.2.1 bl.1.2.2.1 bl.1.2.2.2=.aS et gq gb n false:=fD;injection e with aE bz c_ bV ey
  exact bV.symm.trans ((h.2 bl gK).2.2 ey))
def aKA:=mk XS func65 Vm (K [] [] (X [(0,mM),(9,sC),(10,ao),(11,ao)] [] (S ab (S eR (J [(0,mM),(9,sC),(10,ao),(11,ao)] [] (B (S ab (K [(0,mM),(7,qP),(9,sC),(10,ao),(11,ao)] [] (X [(0,mM),(6,bE 6),(7,qP),(9,sC),(10,ao),(11,ao),(20,ao),(21,ao)] [(6,aHa)] bz) bN))) ab)))) ck) aAd
def XT:=nJ aKA lr [(63,.cG Ps)] ⟨aKz,trivial⟩ func26 B2 (S ab (S ab (S bN (S ab (S (S ab (B (cu [(4,bE 4),(6,bE 6)] [(4,.cells rn [mM]),(6,.cells bX [ao])] [(4,bE 100004),(6,bE 100006),(21,eQ)] [(100004,.cells rn [mM]),(100006,.cells bX [ao])] [] [(100004,.cells rn [mM]),(100006,.cells bX [ao])] ab (B (S ab (S aE (S ab aE))))))) (S bN ck)))))) aAH
def aKB:cK:=nr (W.gL 0 W.IX)
theorem aKC:cW Tryz.prog dT 106 aKB:=eu XT [] trivial func106 (S ab bV) W.aBC
theorem aKD:∀ k∈[87,88,89,90,91,92,93,94,95,96,97,98,99,100,101,102,103,104,105,106],cW Tryz.prog dT k {XK with sh:=W.I2 k}:=I6.mem (l:=[87,88,89,90,91,92,93,94,95,96,97,98,99,100,101,102,103,104,105,106]) ⟨aI3,aI5,aI7,aJx,aJB,aJF,aJL,aJQ,aJT,aJY,aJ2,aJ4,aJ6,aJ8,aJ_,aKb,aKm,aKr,aKx,aKC,trivial⟩
def al7:cK:=⟨⟨[(0,bE 100000),(1,.val SY),(2,.val kD)],[(100000,.gy ta)]⟩,⟨[(0,.val kD)],[(100000,.gy ta)]⟩,[none],3,W.N6⟩
theorem aKE:cW Tryz.prog dT 45 al7:=eu XT [(999999,.KZ XK W.I2 [87,88,89,90,91,92,93,94,95,96,97,98,99,100,101,102,103,104,105,106])] ⟨aKD,trivial⟩ func45 (S ab (S ab (S ab (S o' (K [(0,bE 100000),(8,bE 8),(11,.own 48)] [(8,akM),(48,b4),(100000,JD)] (X [(0,bE 100000),(8,bE 8),(11,.own 48),(50,mL),(51,ao),(52,ao)] [(8,akM),(48,b4),(100000,JD)] (S ab (S eR (S (B (S ab (S ab (S bN ab)))) ab)))) ck))))) W.aBU
def qw:=nJ XT lr [(43,.eD alG),(45,.eD al7)] ⟨aI2,aKE,trivial⟩ func13 W.Cd (S ab (S o' (S bN (K [(4,.own 4),(5,bE 5),(8,bE 50230)] ale (X [(4,.own 4),(5,bE 5),(8,bE 50230),(9,aG_),(25,mL),(26,ao),(27,ao)] ale bz) ck)))) W.aB1
def aKF:=ls qw [] func147 wG 1 bV aED (hc:=λx h=>by obtain⟨w,hw⟩:=h;exact uF ⟨trivial,tc hw⟩)
def aKG:=mk aKF func216 (kU (.slice (.int .u8))) (K [] [] (X [(0,JE),(1,aHe),(7,ao),(8,ao)] [] c_) ck) aDV
def Pt:=mk aKG func148 (h3 (.slice (.int .u8))) bV aDW
def Pu:cK:=⟨⟨[(0,bE 100001)],[(100001,.cells qu [.hM 100001,.own 100002]),(100002,.bn e')]⟩,⟨[(0,.val kD)],[(100001,.cells qu [.hM 100001,.undef])]⟩,[none],1,zw⟩
theorem XU:cW Tryz.prog dT 82 Pu:=eu Pt [] trivial func82 bV aDK
def al8:cK:=⟨⟨[(0,bE 100001),(1,.val rm)],[(100001,.cells qu [.hM 100001,.own 100002]),(100002,.bn e')]⟩,⟨[(0,.val bX)],[(100001,.cells qu [.hM 100001,.own 100002]),(100002,.bn e')]⟩,[none,none],2,Oq⟩
theorem aKH:cW Tryz.prog dT 158 al8:=eu Pt [(155,.eD O')] ⟨W5,trivial⟩ func158 rE aDI
def al9:cK:=⟨⟨[(0,bE 100001),(1,.val e')],[(100001,.cells qu [.hM 100001,.own 100002]),(100002,.bn e')]⟩,⟨[],[(100001,.cells qu [.hM 100001,.own 100002]),(100002,.bn e')]⟩,[none],2,Jc⟩
theorem aKI:cW Tryz.prog dT 159 al9:=eu Pt [(155,.eD O')] ⟨W5,trivial⟩ func159 rE aDH
def aKJ:=nJ Pt lr [(82,.eD Pu),(158,.eD al8),(159,.eD al9)] ⟨XU,aKH,aKI,trivial⟩ func81 mK (K [(0,JE),(3,bE 3)] JJ ab (J [(3,bE 3)] JJ (X [(3,bE 3),(6,JE),(7,ao),(8,ao)] JJ Pm) bV)) Wl
def aKK:=mk aKJ func77 (kU .str) (K [] [] (X [(0,mL),(1,aG8),(7,ao),(8,ao)] [] c_) ck) aDT
def aKL:=mk aKK func37 (h3 .str) bV aDU
def XV:=mk aKL func38 Ji bV aDX
def al_:cK:=⟨⟨[(0,.il),(1,.eL nH),(2,.eL bX),(1000000,.aS nH)],[]⟩,⟨[(1000000,.aS nH)],[]⟩,[],3,Oi⟩
theorem aKM:cW Tryz.prog dT 154 al_:=eu (S:=Oi) XV [] trivial func154 (X [(0,.il),(1,.eL nH),(2,.eL bX),(4,ao),(1000000,.aS nH)] [] (S aE (S wO ab))) (λx=>wR _)
theorem aKN:yd Tryz.prog 154 ⟨[nH,bX],nH,x6⟩:=L6 (c:=al_) aKM lr (λx l ab=>(l,x.1.getD [],x.2.getD 0,(l,ab,[],false),())) rfl (by decide) (by simp[hW])
 (λx l ab i al=>by
  obtain⟨T,aU⟩:=al;obtain⟨s,hm,az,_⟩:=aU;subst hm;by_cases aW:i=0
  ·subst aW;exact .inr (.inr (.inl ⟨rfl,rfl⟩))
  ·by_cases E:i=1
   ·subst E;exact .inr (.inl ⟨by decide,by decide,_,_,rfl,rfl⟩)
   by_cases an:i=2
   ·subst an;exact .inr (.inl ⟨by decide,by decide,_,_,rfl,rfl⟩)
   by_cases L:i=cd
   ·subst L;exact .inr (.inr (.inr ⟨rfl,rfl⟩))
   ·refine .inl ?_;exact (if_neg aW).trans ((if_neg E).trans ((if_neg an).trans (if_neg L))))
 rfl (λbl=>⟨_,_,_,_,rfl⟩) (λx l al=>by
  obtain⟨T,aU⟩:=al;obtain⟨s,hm,az,_⟩:=aU;subst hm;have h:=aFi l s az;refine⟨h.1,λbl gK et gb p fD=>?_⟩;have e:aL.aS bl.1.1 nH bl.1.2.1 bl.1.2.2.1 bl.1.2.2.2=.aS et nH gb p false:=fD;injection e with aE bz c_ bV ey
  rw[<-bV];exact h.2 bl gK ey)
def XW:=nJ XV (XV.u [] [(154,⟨[nH,bX],nH,x6⟩)] ⟨aKN,trivial⟩) [] trivial func78 OC (K JI [(2,.cells nH [mL]),(3,.cells bX [ao])] aE ck) aDQ
def XX:cK:=⟨⟨[(0,bE 100001),(1,.val kD)],[(100001,.cells qu [.hM 100001,.own 100002]),(100002,.bn e')]⟩,⟨[(0,.val bX)],[(100001,.cells qu [.hM 100001,.own 100002]),(100002,.bn e')]⟩,[none,none],2,Ck⟩
theorem al':cW Tryz.prog dT 79 XX:=eu XW [(155,.eD O')] ⟨W5,trivial⟩ func79 rE aDJ
def ama:cK:=⟨⟨[(0,bE 100000),(1,.val e')],[(100000,.cells bX [.val bX])]⟩,⟨[],[(100000,.cells bX [.val bX])]⟩,[],2,On⟩
theorem aKO:cW Tryz.prog dT 217 ama:=eu XW [] trivial func217 ab aDD
def aKP:=mk XW func156 wz bV aDB
def aKQ:=mk aKP func218 wz bV aDC
def amb:=nJ aKQ lr [(217,.eD ama)] ⟨aKO,trivial⟩ func149 pX (S ab (K [(3,bE 3)] [(3,.cells bX [ao])] (X [(3,bE 3),(6,akI),(7,ao),(8,ao)] [(3,.cells bX [ao])] bz) ck)) aDE
def amc:cK:=⟨⟨[(0,.own 200001),(1,.val bX),(2,.val bX)],[(200001,.bn rm)]⟩,⟨[(0,.own 7)],[(7,.bn e'),(200001,.bn rm)]⟩,[none],3,Ou⟩
theorem aKR:cW Tryz.prog dT 150 amc:=eu amb [] trivial func150 (S ab (K [(7,.own 7)] [(7,gf),(200001,zK)] (X [(1,ao),(7,.own 7),(15,.sub 200001),(16,ao),(17,ao)] [(7,gf),(200001,zK)] bz) ck)) aDN
def aKS:=nJ amb lr [(150,.eD amc)] ⟨aKR,trivial⟩ func80 Jf (S ab (S ab (K [(0,mL),(3,.own 3),(4,ao)] [(3,zK)] (X [(0,mL),(3,.own 3),(4,ao),(12,mL),(13,ao),(14,ao)] [(3,zK)] bz) (J [(3,.own 3),(4,ao)] [(3,zK)] (X [(3,.own 3),(4,ao),(23,mL),(24,ao),(25,ao)] [(3,zK)] Pm) (K [(3,.own 3),(10,.own 10)] [(3,zK),(10,gf)] (X [(3,.own 3),(10,.own 10),(51,ao),(52,ao)] [(3,zK),(10,gf)] bz) ck))))) aDP
def aKT:=nJ aKS lr [(79,.eD XX),(82,.eD Pu)] ⟨al',XU,trivial⟩ func40 OE (K [(0,mL),(3,bE 3)] JJ ab (S (S ab (B (cu [(3,bE 3)] JJ [(3,bE 100003),(7,mL)] [(100003,.cells qu [.hM 100003,.own 130000]),(130000,gf)] [] [(100003,.cells qu [.hM 100003,.own 130000]),(130000,gf)] ab (B ab)))) ck)) aDS
def mD:=nI aKT [] func10 E4 Xx aDY
def aKU:=mk mD func190 Ot (S ab (K [(3,.own 3)] [(3,gC)] (X [(3,.own 3),(11,JE),(12,ao),(13,ao)] [(3,gC)] Pm) ck)) aDM
def aKV:=nJ aKU lr [(79,.eD XX),(82,.eD Pu)] ⟨al',XU,trivial⟩ func109 x9 (S ab (K [(0,akL),(4,.own 4),(5,bE 5)] Xu ab (J [(4,.own 4),(5,bE 5)] Xu (X [(4,.own 4),(5,bE 5),(10,akL),(11,ao),(12,ao)] Xu Pm) bV))) aEX
def tJ:=mk aKV func150 x5 alm aDF
def aKW:cK:=⟨⟨[(0,.val DP),(1,.val bX),(2,.val bX)],[]⟩,⟨[(0,.own 7)],[(7,.bn e')]⟩,[none],3,ajR⟩
theorem aKX:cW Tryz.prog dT 150 aKW:=eu tJ [] trivial func150 alm aFk
theorem aKY:FF Tryz.prog 150 (.ar DP (.ar cX cX)) rm x5.sh:=(aC7 (ts:=(.ar DP (.ar cX cX))) (e:=e') (by decide) rfl aKX lr (b0:=7) (λx=>(x.1,x.2.1,x.2.2,())) (λx=>rfl) rfl (by decide) rfl (λbl=>bl.1) (λbl=>⟨rfl,rfl⟩) (λx h=>⟨h,λbl aH=>congrArg (λz=>z.1) aH⟩)).2
def zP:dV:={tO:=λ_=>none,tP:=λk=>if k=147 then some ⟨[rm],[bX],hH,wG.sh⟩ else none,z7:=λk=>if k=81 then some ⟨(.slice mm),e',kD,mK.pre,mK.g,false⟩ else if k=109 then some ⟨(.slice (.slice mm)),e',(.ar nH hH),x9.pre,x9.g,false⟩ else if k=148 then some ⟨(.ar (.slice mm) S4),e',hH,(h3 (.slice (.int .u8))).pre,(h3 (.slice (.int .u8))).g,false⟩ else if k=149 then some ⟨mm,e',e',pX.pre,pX.g,false⟩ else if k=150 then some ⟨(.ar (.slice mm) (.ar bX bX)),e',rm,x5.pre,x5.g,true⟩ else none}
theorem aKZ:qR Tryz.prog zP where
 tO:=by
  intro k v h;cases h
 tP:=by
  intro k v h;simp only[zP]at h;split at h
  ·cases h;subst_vars;exact⟨rfl,(tJ.ok (147,wG.dJ) (uI (by kernel_rfl))).1⟩
  cases h
 z7:=by
  intro k v h;simp only[zP]at h;split at h
  ·cases h;subst_vars;exact⟨(tJ.ok (81,mK.dJ) (uI (by kernel_rfl))).1,λh=>by cases h⟩
  split at h
  ·cases h;subst_vars;exact⟨(tJ.ok (109,x9.dJ) (uI (by kernel_rfl))).1,λh=>by cases h⟩
  split at h
  ·cases h;subst_vars;exact⟨(tJ.ok (148,(h3 (.slice (.int .u8))).dJ) (uI (by kernel_rfl))).1,λh=>by cases h⟩
  split at h
  ·cases h;subst_vars;exact⟨(tJ.ok (149,pX.dJ) (uI (by kernel_rfl))).1,λh=>by cases h⟩
  split at h
  ·cases h;subst_vars;exact⟨(tJ.ok (150,x5.dJ) (uI (by kernel_rfl))).1,λ_=>aKY⟩
  cases h
def amd:cK:=⟨⟨[(0,.val kD)],[(140000,.bR e')]⟩,⟨[(0,.own 50140),(1,.val hH)],[(50140,.bn Ff),(140000,.bR e')]⟩,[none,none],1,WR⟩
theorem aK0:cW Tryz.prog zP 75 amd:=W6 tJ [(107,.dJ O5.dJ)] ⟨⟨aFG,λ_ _=>r3⟩,trivial⟩ func75 (S ab (K [(4,.own 4)] [(4,JF),(140000,.bR e')] (B (W [(0,k5),(4,.own 4)] [(4,JF),(140000,.bR e')] (S aE (B (S ab (S bN (K [(4,.own 4),(6,k5),(8,.own 8)] [(4,JF),(8,akJ),(140000,.bR e')] (X [(4,.own 4),(6,k5),(8,.own 8),(24,mL),(25,ao),(26,ao)] [(4,JF),(8,akJ),(140000,.bR e')] bz) (S ab (S ab (S bN ab)))))))))) ck)) aEE
def ame:cK:=⟨⟨[(0,.val e'),(1,bE 100011),(2,bE 100010)],[(100010,.gy uD),(100011,.cells mm [.val mm]),(140000,.bR e')]⟩,⟨[(0,.val hH)],[(100010,.gy uD),(100011,.cells mm [.val mm]),(140000,.bR e')]⟩,[none],3,OO⟩
theorem aK1:cW Tryz.prog zP 153 ame:=W6 tJ [] trivial func153 rE aEd
def amf:cK:=⟨⟨[(0,.val rm),(1,.jh 153 [(100011,0),(100010,0)])],[(100010,.gy uD),(100011,.cells mm [.val mm]),(140000,.bR e')]⟩,⟨[(0,.val bX)],[(100010,.gy uD),(100011,.cells mm [.val mm]),(140000,.bR e')]⟩,[none],2,OT⟩
theorem aK2:cW Tryz.prog zP 219 amf:=eu tJ [(153,.eD ame)] ⟨aK1,trivial⟩ func219 (K [] alj (X [(0,akI),(1,.jh 153 [(100011,0),(100010,0)]),(7,ao),(8,ao)] alj c_) ck) aEh
def amg:cK:=⟨⟨[(0,.val rm),(1,.jh 153 [(100011,0),(100010,0)])],[(100010,.gy uD),(100011,.cells mm [.val mm]),(140000,.bR e')]⟩,⟨[(0,.val hH)],[(100010,.gy uD),(100011,.cells mm [.val mm]),(140000,.bR e')]⟩,[none],2,OU⟩
theorem aK3:cW Tryz.prog zP 151 amg:=eu tJ [(219,.eD amf)] ⟨aK2,trivial⟩ func151 bV aEk
def amh:=mk tJ func152 Jb (S ab (K [(1,.own 1)] [(1,gf)] (X [(1,.own 1),(2,aG6)] [(1,gf)] zN) ck)) aDG
def ami:cK:=⟨⟨[(0,.val Ff)],[(140000,.bR e')]⟩,⟨[(0,.val bX),(1,.val uD)],[(140000,.bR e')]⟩,[none,none],1,Jo⟩
theorem aK4:cW Tryz.prog zP 76 ami:=W6 amh [(151,.eD amg)] ⟨aK3,trivial⟩ func76 (S ab (K [(0,Fo),(3,bE 3),(4,.own 4),(5,.own 5)] Ft (X ak3 Ft (S ab (S eR (J ak3 Ft zO ab)))) (J [(0,Fo),(3,bE 3),(4,.own 4),(5,.own 5)] Ft (X ak9 Ft (S ab (S eR (J ak9 Ft wO ab)))) (S bN (S bN (S ab (S ab (S ab (S (S ab (C bV ab)) ck))))))))) aEm
def aK5:=aFM amh aKZ [(75,.eD amd),(76,.eD ami)] ⟨aK0,aK4,trivial⟩ func46 qD (S ab (S ab (S bN (K [(3,.own 3),(5,.own 50150)] Xv (X [(3,.own 3),(5,.own 50150),(7,ao),(20,.own 50150),(21,ao),(22,ao)] Xv (S ab (S eR (S (B (S ab (K [(3,.own 3),(5,.own 50150),(7,ao),(9,Fo),(10,ao),(20,.own 50150),(21,ao),(22,ao)] Xv (S ab (S ab (B (S ab (C ck aE))))) ck))) ab)))) kL)))) Uk
def vM:=mk aK5 func14 Fj (S ab kL) aGF
def aK6:=mk vM func49 W.EY (S ab (S bN (J [] [] (X [(0,eQ),(1,eQ),(5,ao)] [] ey) ck))) W.aB'
def aK7:=mk aK6 func47 W.Ob (S ab (S bN (J JI JK (X [(2,bE 2),(3,bE 3),(5,ao)] JK ey) (J JI JK (X [(2,bE 2),(3,bE 3),(6,ao)] JK ey) (J [] [] (X Xt JK ey) ck))))) W.aCa
def aK8:=mk aK7 func48 W.Oc (S ab (S bN (J JI Cz (X [(2,bE 2),(3,bE 3),(5,ao)] Cz ey) (J JI Cz (X [(2,bE 2),(3,bE 3),(6,ao)] Cz ey) (J [] [] (X Xt Cz (S aE (J Xt Cz (B (S ab (S bN (X [(2,bE 2),(3,bE 3),(7,ao),(8,Xo),(9,Xo),(10,ao)] Cz ey)))) ab))) ck))))) W.aCb
def HO:=mk aK8 func16 W.EZ (S ab (S ab (S bN (J [(5,bE 5),(6,bE 6)] JL (X [(5,bE 5),(6,bE 6),(7,ao)] JL CA) (J [(5,bE 5),(6,bE 6)] JL (X [(5,bE 5),(6,bE 6),(10,ao)] JL CA) (J [] [] (X [(5,bE 5),(6,bE 6),(13,ao)] JL ey) ck)))))) W.aCc
def aK9:=mk HO func33 O_ (S ab (K [(2,mL),(3,.own 3),(4,ao)] [(3,b4)] (X [(2,mL),(3,.own 3),(4,ao),(14,eQ),(15,ao),(16,ao)] [(3,b4)] (S ab (S eR (J [(2,mL),(3,.own 3),(4,ao),(14,eQ),(15,ao),(16,ao)] [(3,b4)] wO ab)))) ck)) aE'
def aK_:=mk aK9 func191 U1 bV aze
def aK':=mk aK_ func111 NJ bV aAO
def aLa:=mk aK' func51 W.N7 bV W.aB2
def HP:=mk aLa func17 JA rE aGW
def aLb:=mk HP func41 OM (S ab (S bN (K [(6,ao)] [] (X [(0,k5),(1,ao),(6,ao),(7,ao)] [] (S aE (J [(0,k5),(1,ao),(6,ao),(7,ao)] [] (B aE) ab))) ck))) aEb
def i_:=mk aLb func11 Pa (S ab (K [(4,k5),(5,.own 5)] [(5,b4)] (X [(0,k5),(1,mo),(4,k5),(5,.own 5),(7,ao)] [(5,b4)] (S aE (J [(0,k5),(1,mo),(4,k5),(5,.own 5),(7,ao)] [(5,b4)] (B (S ab (S bN (J [(0,k5),(1,mo),(4,k5),(5,.own 5),(7,ao),(8,ao)] [(5,b4)] (X [(0,k5),(1,mo),(4,k5),(5,.own 5),(7,ao),(8,ao),(10,ao)] [(5,b4)] ey) ck)))) ab))) ck)) aFT
def HQ:=mk i_ func19 Jy (S ab (S ab (S bN (K [(8,k5),(10,qP)] [] (X [(8,k5),(9,eQ),(10,qP),(11,ao)] [] (S aE (J [(8,k5),(9,eQ),(10,qP),(11,ao)] [] (B (X [(8,k5),(9,eQ),(10,qP),(11,ao),(12,ao)] [] zN)) ab))) ck)))) aGJ
def TH:=mk HQ func24 IL (S ab kL) aAE
def aLc:=mk TH func27 W.mK (S ab (S bN (K [(3,k5)] [] (B (W [(0,ao),(3,k5)] [] (S aE (B ck)))) ck))) W.Wl
def aLd:=mk aLc func25 W.Jz (K [(0,k5)] [] (X [(0,k5),(1,eQ),(5,ao)] [] zN) ck) W.aGL
theorem amz:hA Tryz.prog 5 (.ar zR Py) hH (λx=>W7 W.I5.sh W.uW.sh Fj.sh W.EZ.sh JA.sh Jy.sh IL.sh W.Jz.sh B2.sh W.mK.sh x):=Mg aLd lr (sp:=[]) trivial func5 (ann:=(S ab (S bN (S ab (S bN (K [(1,mo),(2,bE 2),(7,.own 53)] [(2,Cx),(53,b4)] (X [(1,mo),(2,bE 2),(5,eQ),(7,.own 53),(8,ao)] [(2,Cx),(53,b4)] (S aE (S (B (S bN ab)) ab))) (S ab (S bN (S ab (S bN kL)))))))))) (λx=>wR _) (by kernel_rfl) λx=>by kernel_rfl
end
end Go.Fer.Sk
namespace Go.Fer.Sk
open Go Go.Proofs
theorem amw{H:Type}{enc:TypeId×Value->H}{a:Assume}{C:Checked}{os:Os}{f:FuncId}{fn:Func}{s:ChangeSpec}{conds:List PathCond}{apart tN handsOn again:Bool}{X:World->Array Value->Prop}
  (yG:∀ (w w':World) (args:Array Value),w.heap=w'.heap->X w args->X w' args)
  (own:ownKnob C.prog.godebug=none) (started:os.Started) (aLe:C.prog.inits.idxOf? f=none) (hg:C.prog.funcs[f]?=some fn)
  (witness:∃ (w:World) (tape:Tape) (i:Input),w.os=os/\(w.forCall tape i).Shaped C.prog/\i.vars=[]/\Input.okWide C.prog (w.forCall tape i) .any w.heap.size f i/\
   ((s.pre enc C.prog fn conds apart (w.forCall tape i).memory i.args/\X (w.forCall tape i).memory i.args)/\sizedMet enc C.prog fn (OpenSpec.ofChange s) apart (w.forCall tape i).memory i.args)/\a.holds C.prog (lone (Frame.enter C.prog f i.args .normal) [] (w.forCall tape i)))
  (aLf:∀ (W:World) (base:Nat) (args:Array Value) (bC gs:List (DataW H)) (before:List MemPlace),(∀ (j:Nat) t v,fn.params[j]?=some t->args[j]?=some v->Value.okWide C.prog W .any base t v)->
   DataW.Whole enc C.prog fn.params.toList s.vars apart W args.toList bC gs before->
   W.ShapedOpen C.prog->X W args->
   Calls C.prog f args W λe s4=>∃ v,e=.returned v/\s.post enc C.prog fn apart tN handsOn again W args v s4) :
  ReturnsInHanded a C os f .any (λw args=>(s.pre enc C.prog fn conds apart w args/\X w args)/\sizedMet enc C.prog fn (OpenSpec.ofChange s) apart w args) (s.post enc C.prog fn apart tN handsOn again):=by
 refine returnsInHanded_of_calls own started aLe witness ?_;intro w tape i _ j0 _ b6 hQ aPF;obtain⟨_,_,_,aLg,aLh,_,_,_,_,Bj⟩:=b6;have e:aLg=fn:=aQh (aLh.symm.trans hg);subst e;obtain⟨⟨⟨bC,gs,before,hw,hc⟩,al⟩,bA⟩:=hQ;have Dq:=DataW.Whole.of_heap (w':=w.forCall tape i) (by rfl) hw;refine (aLf (w.forCall tape i) w.heap.size i.args bC gs before Bj Dq j0 (yG (w.forCall tape i).memory (w.forCall tape i) i.args rfl al)).mono λe s4 ⟨v,he,ai⟩=>?_;subst he;exact ChangeSpec.post_blind ai
theorem Px{P:Program}{w:World}:∀ {l:List (String×DataW Unit)} {bt:List MemPlace},DataW.LaidVars P w l bt->∀ n d,(n,d)∈l->∃ g t cs cZ p,P.globalNamed n=some g/\(P.globals[g]?).map (·.type)=some t/\w.var? P n=some cs/\DataW.trod (λ_=>()) P w 0 (λ_=>true) false cZ t cs.toList=some (d,p)
 | [],_,_,_,_,hm=>by cases hm
 | (kt,Ac)::r,bt,h,n,d,hm=>by
  obtain⟨g,t,cs,cZ,p,q,E,L,an,a6,bS,_⟩:=h;rcases List.mem_cons.1 hm with e | e
  ·cases e;exact⟨g,t,cs,cZ,p,E,L,an,a6⟩
  ·exact Px bS n d e
theorem amv{P:Program}{w:World}{n:String}{g:Nat}{t:TypeId}{d:DataW Unit}{cZ:Nat}{cs:Array Value}{p:List MemPlace}(aD:P.globalNamed n=some g)(af:w.var? P n=some cs)(hu:∃ ms,P.underlying t=some (.interface ms))
  (h:DataW.trod (λ_=>()) P w 0 (λ_=>true) false cZ t cs.toList=some (d,p)):∃ v,w.cell? ⟨g,0,none⟩=some v/\(v=.nilIface\/∃ nW oB,v=.iface nW oB):=by
 obtain⟨ms,hu⟩:=hu;have hc:w.cell? ⟨g,0,none⟩=cs[0]?:=by
  unfold World.var? at af;rw[aD]at af;simp only[Option.bind_some]at af;cases au:w.heap[g]? with
  | none=>rw[au]at af;cases af
  | some o=>
   rw[au]at af;cases o with
   | cells a T vT=>cases af;simp[World.cell?,au]
   | _=>cases af
 have aH:cs[0]?=cs.toList[0]?:=by simp
 rw[hc,aH];generalize cs.toList=l at h;cases cZ with
 | zero=>simp[DataW.trod]at h
 | succ cZ=>
  match l with
  | []=>simp[DataW.trod,hu]at h
  | [.nilIface]=>exact⟨_,rfl,.inl rfl⟩
  | [.iface u v]=>exact⟨_,rfl,.inr ⟨u,v,rfl⟩⟩
  | _::_::_=>simp[DataW.trod,hu]at h
  | [x]=>cases x<;>first | exact⟨_,rfl,.inl rfl⟩ | exact⟨_,rfl,.inr ⟨_,_,rfl⟩⟩ | (simp[DataW.trod,hu]at h;done)
theorem aLi:((List.range 8).all λb=>(((begin Tryz.prog (λ_ _=>0) default).world.heap[b]?).bind Obj.row?).isSome)=true:=by kernel_rfl
theorem amB{W : World}(h : W.ShapedOpen Tryz.prog)(E : ∃ v, W.cell? ⟨1, 0, none⟩ = some v /\ (v = .nilIface \/ ∃ nW oB, v = .iface nW oB))(L : ∃ v, W.cell? ⟨2, 0, none⟩ = some v /\ (v = .nilIface \/ ∃ nW oB, v = .iface nW oB))(aH : Lib.TabIs Tryz.prog W "internal/strconv.uint64pow10" .u64 Lib.pow10Tab) : pa Tryz.prog (s9 W) W := λb U => by
 have k6:b<8:=aPG U (aP4 (by kernel_rfl));refine⟨?_,?_⟩
 ·have D:=List.all_eq_true.1 aLi b (List.mem_range.2 k6);obtain⟨⟨zero,t⟩,bA⟩:=Option.isSome_iff_exists.1 D;obtain⟨cs,dh,_⟩:=h.1 b zero t U bA;exact (Array.getElem?_eq_some_iff.1 dh).1
 ·match b,U,k6 with
  | 0,U,_=>exact cell_of_shapedOpen_int (t:=3) (zero:=#[.int .i64 0]) h U (by kernel_rfl) rfl (by kernel_rfl) (by kernel_rfl) Tryz.underlying3
  | 1,_,_=>exact E
  | 2,_,_=>exact L
  | 3,_,_=>trivial
  | 4,_,_=>trivial
  | 5,_,_=>
   show ∀ i,W.cell? ⟨5,i,none⟩=if i<20 then some (.int .u64 (10 ^ i)) else none
   unfold Lib.TabIs World.var? at aH;rw[show Tryz.prog.globalNamed "internal/strconv.uint64pow10" = some 5 by kernel_rfl]at aH;change (match W.heap[5]? with | some (.cells cs _ _)=>some cs | _=>none)=_ at aH;intro i;cases au:W.heap[5]? with
   | none=>rw[au]at aH;cases aH
   | some o=>
    rw[au]at aH;cases o with
    | cells cs T vT=>
     simp only[amo]at aH;simp only[World.cell?,au,aH];simp only[Option.isSome_none,aml,aPH,aQB,aQV,Lib.pow10Tab];split
     ·rename_i Fa;rw[List.getElem?_range Fa];simp
     ·rename_i Fa;rw[List.getElem?_eq_none (by simp;omega)];rfl
    | _=>cases aH
  | 6,_,_=>trivial
  | 7,_,_=>trivial
end Go.Fer.Sk
