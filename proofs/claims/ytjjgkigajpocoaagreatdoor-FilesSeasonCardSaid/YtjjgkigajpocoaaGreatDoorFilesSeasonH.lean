/- Part 8 of the proof of FilesSeason: shallow programs of Go functions, and what they compute. No condition. -/
import Derived.Test.YtjjgkigajpocoaaGreatDoorFilesSeasonG
import Derived.Handed
import Derived.Shelf.Vars
import Derived.Lib.LaidTab
import Derived.Lib.ItoaNum
noncomputable section
set_option linter.unusedVariables false
set_option linter.unusedSimpArgs false
namespace Go.Fer
def aFj(p:z1'):z1':=(lY p.length).filter λv=>decide (p.getD v.toNat 0≠-1)
def Jn(f:List UInt8):z2'×z19':=((hL f).1,aFj (hL f).2.1,(hL f).2.2)
abbrev O6:aN:=⟨.str,.au (.slice .str) (.au (.slice (.int .i64)) (.int .i64)),λx=>List.length x<65536,λx=>Jn x⟩
theorem aFk(f:List UInt8):(hL f).2.1.length<=f.length:=by
 grind [OA,hL,W5]
theorem aFl(x):a6 (aib o3.sh x) (O6.sh x):=bx λh=>by
 generalize x=f at h ⊢;unfold aib eV cm bg a8 bK;show _=mpure (Jn f);have aj:=aFk f;rw[show o3.sh f=mpure (hL f) from bN (h) _,aK];unfold Jn;generalize hL f=r at aj;obtain⟨ts,p,e⟩:=r;change p.length<=f.length at aj;rw[e6 (lY p.length) (λi o=>(ts,e,p,(p.length:Int),(i:Int),o,())) (λv o=>.next (if decide (p.getD v.toNat 0≠-1)=true then o++[v] else o)) (λo=>.next (ts,e,o,())) (λi o=>o.length<=i) [] ?_ ?_ ?_ ?_]
 ·rw[ee,HK,aK];rfl
 ·rfl
 ·simp
 ·intro i G o ar;rw[Cl]at G;have hw:=bp (n:=i+1);have uW:((i:Int)).toNat=i:=rfl;refine⟨?_,λf' hS=>?_⟩
  ·simp only[ct,kV];rw[bb ⟨by omega,by omega⟩,Wv (by omega),uW];cases decide (p.getD i 0≠-1) with
   | true=>
    rw[if_pos rfl,bb (by grind [cb]),aK];simp_all
   | false=>
    simp_all
  grind
 simp_all[Cl]
abbrev O7:aN:=⟨.str,.au (.slice (.int .i64)) (.int .i64),λx=>List.length x<65536,λx=>(hL x).2⟩
theorem aFm(x):a6 (aic o3.sh x) (O7.sh x):=bx λh=>by
 unfold aic;rw[show o3.sh x=mpure (hL x) from bN h _,aK]
theorem aFn{l:z2'}(h:fI (fv l) l):x6 l=decide ((iU l).1≠0):=by
 grind [x6,iU,aEV,aEW,Jj]
theorem aFo(x):a6 (aid O3 zM x) (OC.sh x):=rU λh=>by
 change List UInt8 at x;generalize x=f at h ⊢;change f.length<65536 at h;unfold aid eH eV cm bg a8 bK;show c6 _ λy=>y=OB f;unfold OB;rw[fD];refine⟨⟨h,by simp⟩,?_⟩;rintro⟨W7,a7,m,u⟩ ⟨e8,e_,_⟩;change W7=(iT f).1 at e8;change j_ m a7 (if (iT f).1=true then (iT f).2 else []) at e_;subst e8;have gK:=(OA f).2;have jg:=ajW f;dsimp only;cases aX:(iT f).1 with
 | false=>grind [dF]
 | true=>
  rw[aX,if_pos rfl]at e_;generalize (iT f).2=B at e_ gK jg;have wX:=e_.len;rw[if_neg (by decide),if_pos rfl,fD];refine WE B.length (λi s=>s.1=(((B.take i).filter x6).length)/\s.2.1=B.length/\s.2.2.1=i/\s.2.2.2.1=a7/\j_ s.2.2.2.2.1 a7 (ss iG B i)) ⟨rfl,by grind,rfl,rfl,e_⟩ ?_ ?_
  ·rintro i G ⟨s1,s2,e4,kH,dp,ns⟩ ⟨aB,bt,cT,bW,aM⟩;change kH=a7 at bW;subst aB bt cT bW;have dH:i<kH.length:=by omega
   have hw:=bp (n:=i+1);have ah:=jg _ (amm G);have Jm:(ss iG B i).getD i []=B[i]:=ajU G;obtain⟨cO,cJ,gT,_⟩:=aM.fi dH (W:=fv B[i]) (by grind);rw[Jm]at cJ gT;rw[W2 G]at gT;have uq:zM (kH.getD i [],dp,())=mpure ((iU B[i]).1,(iU B[i]).2,x7 (kH.getD i [],dp,()),()):=by
    grind [zM,bN]
   have kA:((B.take i).filter x6).length<=i:=aPG (aP0 _ _) (by grind);have aPs:=bp (n:=(((B.take i).filter x6).length)+1);have ajX:((B.take (i+1)).filter x6).length=((B.take i).filter x6).length+if x6 B[i]=true then 1 else 0:=by
    grind [List.take_add_one]
   rw[aFn ah]at ajX;cases hc:decide ((iU B[i]).1≠0) with
   | true=>
    simp_all[dF]
   | false=>
    simp_all[dF]
  ·simp_all[c6]
theorem aFp{af bet hj:Type}(f:af->hj)(g:bet->hj)(F:List af)(o:List bet)(aFq:af)(aFr:bet)(ah:F.length=o.length)(h:∀ k,k<F.length->f (F.getD k aFq)=g (o.getD k aFr)):F.map f=o.map g:=by
 refine aQX (by grind) λk E L=>?_;grind
theorem aFs{r:List UInt8}{j:Nat}(h:j<r.length)(b:UInt8):List.take j r++[b]++List.drop (j+1) r=r.set j b:=by
 rw[List.set_eq_take_append_cons_drop,if_pos h];simp
theorem aFt(r:List UInt8)(j:Nat)(b:UInt8):c_ (r.set j b)=(c_ r).set j (b.toNat:Int):=by
 unfold c_;rw[List.map_set]
theorem ajZ{R uo:List (z1')}{c:Nat}(ah:uo.length=R.length)(h:∀ k,k<R.length->(uo.getD k []).getD c 0=(R.getD k []).getD c 0)(aV:0<R.length):kt uo c=kt R c:=by
 unfold kt;rw[ah,h (R.length - 1) (by omega)];have e:gh (uo.take (R.length - 1)) (c:Int)=gh (R.take (R.length - 1)) (c:Int):=by
  unfold gh;refine aQX (by simp[ah]) λk E L=>?_;have an:k<R.length:=by simp at L;omega
  have OI:k<uo.length:=by omega
  have df:=h k an;have aFu:uo.getD k []=uo[k]:=by rw[amp,ams OI];rfl
  have aFv:R.getD k []=R[k]:=by rw[amp,ams an];rfl
  rw[aFu,aFv]at df;rw[aQp,aQp,List.getElem_take,List.getElem_take];exact df
 rw[e]
theorem aFw{l:z2'}(h:fI (fv l) l)(aA:(iU l).1≠1):iG l=l:=aEY (by
 have:wv (gi l)=fv l:=h.nL.wide;rw[this];exact aA)
theorem aj0{B:List (z2')}{i:Nat}(h:i<B.length):B.getD i []=B[i]:=by rw[amp,ams h];rfl
end Go.Fer
namespace Go.Fer
set_option maxRecDepth 100000
theorem aFx:Ch [[97,98],[99]]=([34,97,98,70,10,33,99,32,100,10,35,69,98,43,10,10],0):=by decide +kernel
theorem aj1:hL [34,97,120,70,10,33,99,32,100,10,35,69,98,43,10,10]=([[97,98],[99]],[2],0):=by decide +kernel
theorem aFy:OB [34,97,120,70,10,33,120,32,100,10,35,69,98,43,10,10]=(1,1,0):=by decide +kernel
abbrev Jo:aN:=⟨.dh,.bool,λ_=>True,λ_=>true⟩
theorem aFz(x):a6 (aiY x4.sh O6.sh O7.sh OC.sh Cm.sh OE.sh x) (Jo.sh x):=bx λ_=>by
 unfold aiY b3 b_;have D:Jn [34,97,120,70,10,33,99,32,100,10,35,69,98,43,10,10]=([[97,98],[99]],[0],0):=by
  unfold Jn;rw[aj1];rfl
 have w:x4.sh [[97,98],[99]]=mpure ([34,97,98,70,10,33,99,32,100,10,35,69,98,43,10,10],0):=(bN (show ([[97,98],[99]]:z2').length<2 ^ 63 by decide) _).trans (congrArg mpure aFx);have r:O6.sh [34,97,120,70,10,33,99,32,100,10,35,69,98,43,10,10]=mpure ([[97,98],[99]],[0],0):=(bN (show ([34,97,120,70,10,33,99,32,100,10,35,69,98,43,10,10]:List UInt8).length<65536 by decide) _).trans (congrArg mpure D);have d:O7.sh [34,97,120,70,10,33,99,32,100,10,35,69,98,43,10,10]=mpure ([2],0):=(bN (show ([34,97,120,70,10,33,99,32,100,10,35,69,98,43,10,10]:List UInt8).length<65536 by decide) _).trans (congrArg mpure (congrArg (·.2) aj1));have c:OC.sh [34,97,120,70,10,33,120,32,100,10,35,69,98,43,10,10]=mpure (1,1,0):=(bN (show ([34,97,120,70,10,33,120,32,100,10,35,69,98,43,10,10]:List UInt8).length<65536 by decide) _).trans (congrArg mpure aFy);have ad:Cm.sh ([[97,98],[99]],[[97,98],[99]])=mpure true:=bN (show ([[97,98],[99]]:z2').length<2 ^ 63/\([[97,98],[99]]:z2').length<2 ^ 63 from⟨by decide,by decide⟩) _;have aj2:∀ l:z1',l.length<2 ^ 63->OE.sh (l,l)=mpure true:=λl ah=>(bN (show l.length<2 ^ 63/\l.length<2 ^ 63 from⟨ah,ah⟩) _).trans (congrArg mpure (aPR rfl));rw[w,aK,r,aK,d,aK,c,aK];dsimp only;rw[ad,lK,aK,aj2 _ (by decide),lK,aK,aj2 _ (by decide),lK,aK];rfl
theorem aFA:Jo.sh ()=mpure true:=bN trivial _
theorem aFB{a b:z2'}(aW:a.length<2 ^ 63)(U:b.length<2 ^ 63):Cm.sh (a,b)=mpure (decide (a=b)):=bN (show a.length<2 ^ 63/\b.length<2 ^ 63 from⟨aW,U⟩) _
end Go.Fer
namespace Go.Fer
theorem aFC(fM:Nat)(s:z2')(ay:s.length<65536):c6 (N_ (fM,s,8,(fM,x3 (some s,some 8),[],false),())) λy=>y.1.2.2.2=false->x3 (some s,some 8) y.1.2.2.1:=by
 have ux:∀ ab,x3 (some s,some 8) ab<->ab=gH s:=λab=>⟨λ⟨l,e,_,h⟩=>by cases e;exact h,λe=>⟨s,rfl,ay,e⟩⟩
 generalize x3 (some s,some 8)=S at *
 unfold N_ e0 eV bg;dsimp only;refine zX (λA=>∃ k:Nat,k<=(gH s).length/\A=(fM,s,8,((8*k:Nat):Int),(fM,S,(gH s).take k,false),())) (λA=>(s.length+8 - A.2.2.2.1.toNat)) ?_ _ ⟨0,aPK _,rfl⟩;rintro A ⟨k,an,rfl⟩;dsimp only;by_cases aFD:8*k<s.length
 ·have WW:=Oz.2 aFD;have aw:decide (((8*k:Nat):Int)<(s.length:Int))=true:=aPR (by omega);have bA:∀ n:Nat,((n:Int)).toNat=n:=λ_=>rfl;have iA:(List.drop (8*k) s).length=s.length - 8*k:=aRk ..;have hm:(if (((List.drop (8*k) s).length:Nat):Int)<8 then (((List.drop (8*k) s).length:Nat):Int) else 8)=((min 8 (s.length - 8*k):Nat):Int):=by rw[iA];split<;>omega
  have hw:=bp (n:=((8*k:Nat))+((min 8 (s.length - 8*k):Nat):Int));have gF:=bp (n:=((8*k))+8);have WQ:(((8*k:Nat))+((min 8 (s.length - 8*k):Nat):Int)).toNat=8*k+min 8 (s.length - 8*k):=by omega
  have hc:List.drop (8*k) (List.take (8*k+min 8 (s.length - 8*k)) s)=(gH s)[k]:=by
   grind [aD5]
  simp only[ct,aw,if_true,bA,aQc,hm,dd,hw,WQ,hc];rw[h6];refine⟨⟨by omega,by omega,aPL _⟩,?_⟩;rw[h6];refine⟨⟨by omega,by omega,trivial,by omega⟩,?_⟩;rw[fD,h6];refine⟨⟨trivial,trivial,(gH s).drop (k+1),(ux _).2 ?_⟩,⟨true,trivial⟩,λy _=>?_⟩
  ·simp
  ·cases y with
   | false=>
    grind [aK,dF]
   | true=>
    refine dF.2 ⟨⟨k+1,WW,?_⟩,?_⟩
    ·grind [List.take_add_one]
    grind
 ·have aw:decide (((8*k:Nat))<(s.length:Int))=false:=aP5 (by omega);simp only[ct,aw,aK];refine dF.2 λ_=>(ux _).2 ?_;refine aQH ?_;grind [Oz]
def aj3(x:List (z1')×z34'):M (z14'):=
 letI d:=Int.ofNat (List.length x.1);letI a:=cD d x.2.2.1;letI e:=List.take (Int.toNat a) x.1;cm (ag ((0:Int)<=0/\0<=a/\a<=d) (dG (λ(A:Int×List (z1')×Int×z23')=>letI b:=A.2.2.2;letI c:=List.getD A.2.1 (Int.toNat b.1) [];bg (eV b.1 A.2.2.1) (ag (0<=b.1/\b.1<Int.ofNat (List.length A.2.1)) (ag (0<=A.1/\A.1<Int.ofNat (List.length c)) (ag (cb (Add.add (List.length b.2.1) (Add.add 0 1))) (mpure (aF.next (A.1,A.2.1,A.2.2.1,a8 b.1,b.2.1++[List.getD c (Int.toNat A.1) 0],())))))) (aq (mpure (aF.next (b.2.1,()))) (λr=>mpure (aF.done r)))) (x.2.1,e,Int.ofNat (List.length e),0,[],()))) λ(A:z14')=>mpure (A.1,())
def aj4(x:List (z1')×z34'):M (z14'):=eF (zC x.1 x.2.1 x.2.2.1) (gh (x.1.take (x.1.length - x.2.2.1.toNat)) x.2.1,())
theorem aFE(x):a6 (aj3 x) (aj4 x):=bx λh=>by
 obtain⟨l,c,w,u⟩:=x;obtain⟨E,⟨L,ak⟩,aZ,bP⟩:zC l c w:=h;unfold aj3 eV cm bg a8 cD;dsimp only;have hw:=bp (n:=(l.length:Int) - w);simp only[ct,hw];have e:((l.length:Int) - w).toNat=l.length - w.toNat:=by omega
 rw[bb ⟨aPL _,by omega,by omega⟩,e];generalize an:l.take (l.length - w.toNat)=k;have M5:k.length<65536:=by rw[<-an];simp;omega
 have I3:∀ r∈k,c<(r.length:Int):=λr D=>bP r (by rw[<-an]at D;exact aPV D);rw[e6 k (λi (o:z1')=>(c,k,(k.length:Int),(i:Int),o,())) (λr o=>.next (o++[r.getD c.toNat 0])) (λo=>.next (o,())) (λi o=>o.length=i) [] ?_ ?_ ?_ ?_]
 ·rw[ee,aK,cK];dsimp only;rw[show k.foldl (λo r=>o++[r.getD c.toNat 0]) []=gh k c from by rw[rX];rfl]
 ·rfl
 ·rfl
 ·intro i G o ar;have gF:=bp (n:=(i:Int)+1);have D:=I3 _ (amm G);refine⟨?_,λf' hS=>?_⟩
  ·simp only[ct,dP G,if_true,d_ G,dt G,cj,dd,kV,gF];rw[bb ⟨aZ,D⟩,bb (by unfold cb;omega)];rfl
  ·simp only[aF.next.injEq]at hS;subst hS;simp[ar]
 ·intro o ar;simp
end Go.Fer
namespace Go.Fer.Sk
open Go Go.Proofs Go.RowKit
def aFF:Code:=Tryz.f39.body.getD .skip
theorem aFG:Tryz.f39.body=some aFF:=by rfl
abbrev aFH:aN:=⟨.str,.bool,λ_=>True,λs=>s.all Tryz.Cb⟩
open Classical in
theorem aFI(x:List UInt8):decide (Tryz.uT ⟨x.toArray⟩ 0)=x.all Tryz.Cb:=by
 rw[aQU,aP2,aP4];unfold Tryz.uT;constructor
 ·intro h b U;obtain⟨i,G,rfl⟩:=List.mem_iff_getElem.1 U;have:=h i (by rw[tB];exact G) (aPK _);exact this
 ·intro h i G _;have dR:i<x.length:=by rw[tB]at G;exact G
  exact h _ (amm dR)
theorem aFJ:hD Tryz.prog 39 .str .bool aFH.sh where
 enter:=q8 Tryz.func39 aFG (by rfl)
 ik:=λF w args x bm fq aW ay=>by
  obtain⟨rfl,ah⟩:=N7 aW;refine (Tryz.aC5 ⟨x.toArray⟩ w).mono ?_;rintro e w' ⟨rfl,U⟩;refine⟨_,x.all Tryz.Cb,rfl,rfl,⟨[_],rfl,(pe rfl).2 ⟨_,rfl,?_⟩⟩,U⟩;simp_all[aFI]
def aFK:Code:=Tryz.f146.body.getD .skip
theorem aFL:Tryz.f146.body=some aFK:=by rfl
abbrev aFM:aN:=⟨.au .str .str,.au .str (.au .str .bool),λx=>x.1.length<4294967281,λx=>Lib.cut x.1 x.2⟩
theorem aFN(s sep:List UInt8):(Lib.cut s sep).1.length<=s.length/\(Lib.cut s sep).2.1.length<=s.length:=by
 grind [Lib.cut]
theorem aFO:hD Tryz.prog 146 (.au .str .str) (.au .str (.au .str .bool)) aFM.sh where
 enter:=q8 Tryz.func146 aFL (by rfl)
 ik:=λF w args x bm fq aW ay=>by
  obtain⟨s,sep⟩:=x;have ay:s.length<4294967281:=ay;obtain⟨rfl,ah,hp⟩:=V9 aW;obtain⟨_,m,hm⟩:=E2 fq (b:=0) (by decide);refine (Tryz.strings_Cut ⟨s.toArray⟩ ⟨sep.toArray⟩ m w (by grind [tB]) hm).mono ?_;rintro e w' ⟨rfl,n,rfl⟩;obtain⟨bE,c2⟩:=aFN s sep;refine⟨_,Lib.cut s sep,rfl,rfl,⟨[.string ⟨(Lib.cut s sep).1.toArray⟩,.string ⟨(Lib.cut s sep).2.1.toArray⟩,.bool (Lib.cut s sep).2.2],?_,?_⟩,⟨rfl,rfl,rfl,amo _,λ_ _=>rfl⟩⟩
  ·rfl
  ·refine z6.2 ⟨k3.2 ⟨rfl,Nat.lt_of_le_of_lt bE ah⟩,z6.2 ⟨k3.2 ⟨rfl,Nat.lt_of_le_of_lt c2 ah⟩,(pe rfl).2 ⟨_,rfl,gC.2 rfl⟩⟩⟩
def aFP:Code:=Tryz.f157.body.getD .skip
theorem aFQ:Tryz.f157.body=some aFP:=by rfl
abbrev aFR:aN:=⟨.au .str (.int .i64),.str,λx=>0<=x.2/\x.1.length*x.2.toNat<65536,λx=>Lib.repeatL x.1 x.2.toNat⟩
theorem aFS:hD Tryz.prog 157 (.au .str (.int .i64)) .str aFR.sh where
 enter:=q8 Tryz.func157 aFQ (by rfl)
 ik:=λF w args x bm fq aW ay=>by
  obtain⟨s,n⟩:=x;change Int at n;obtain⟨aV,E⟩:0<=n/\s.length*n.toNat<65536:=ay;obtain⟨v,us,rfl,ae,hu⟩:=FF aW;obtain⟨rfl,ah⟩:=k3.1 ae;obtain⟨ai,rfl,jR⟩:=(pe rfl).1 hu;obtain⟨rfl,aA⟩:=hO.1 jR;have jj:n<=9223372036854775807:=aA.2;have Hm:n=(n.toNat):=by omega
  have:=Tryz.strings_Repeat ⟨s.toArray⟩ n.toNat w (by omega) (by grind [tB]);rw[<-Hm]at this;refine this.mono ?_;rintro e w' ⟨rfl,U⟩;refine⟨_,Lib.repeatL s n.toNat,rfl,rfl,⟨[_],rfl,(pe rfl).2 ⟨_,rfl,?_⟩⟩,U⟩;grind [k3,Lib.repeatL_length]
abbrev aFT:aN:=⟨.au .str .str,.slice .str,λx=>x.1.length<4294967281/\1<=x.2.length,λx=>ny x.1 x.2⟩
theorem aFU:hD Tryz.prog 107 (.au .str .str) (.slice .str) aFT.sh where
 enter:=q8 Tryz.func107 (show Tryz.f107.body=some ahX by rfl) (by rfl)
 ik:=λF w args x bm fq aW ay=>by
  obtain⟨s,sep⟩:=x;obtain⟨ay,E⟩:s.length<4294967281/\1<=sep.length:=ay;obtain⟨rfl,ah,hp⟩:=V9 aW;obtain⟨_,m,hm⟩:=E2 fq (b:=0) (by decide);have cI:1<=(ByteArray.mk sep.toArray).size:=by grind [tB]
  refine (Any.strings_Split Tryz.ahQ (by kernel_rfl) ⟨s.toArray⟩ ⟨sep.toArray⟩ m w (by grind [tB]) hm cI).mono ?_;rintro e w' ⟨rfl,rfl⟩;have hlen:=Lib.splitB_all ⟨sep.toArray⟩ cI 0 _ ⟨s.toArray⟩ rfl;have s3:=Lib.countB_le ⟨sep.toArray⟩ cI _ ⟨s.toArray⟩ (amo _);rw[tB]at s3;have mz:=V_ ⟨sep.toArray⟩ (Lib.countB ⟨s.toArray⟩ ⟨sep.toArray⟩) ⟨s.toArray⟩;rw[tB]at mz;have Ap:(ny s sep).length=Lib.countB ⟨s.toArray⟩ ⟨sep.toArray⟩+1:=by grind [ny]
  refine⟨_,ny s sep,rfl,rfl,⟨[_],rfl,(pe rfl).2 ⟨_,rfl,(eb rfl).2 ⟨rfl,some ⟨w.heap.size,0,none⟩,Lib.countB ⟨s.toArray⟩ ⟨sep.toArray⟩+1,by grind,by omega,by omega,nofun,λp aj hc=>?_⟩⟩⟩,?_⟩
  ·cases aj;refine⟨.inr ⟨amo _,by simp⟩,rfl,λi G=>?_⟩;have dH:i<(Lib.splitB ⟨sep.toArray⟩ 0 (Lib.countB ⟨s.toArray⟩ ⟨sep.toArray⟩) ⟨s.toArray⟩).length:=by omega
   generalize aX:Lib.splitB ⟨sep.toArray⟩ 0 (Lib.countB ⟨s.toArray⟩ ⟨sep.toArray⟩) ⟨s.toArray⟩=B at dH mz hlen;have j8:(ny s sep)[i]=B[i].data.toList:=by
    grind [ny]
   refine⟨[.string B[i]],⟨.inr ⟨amo _,by simp⟩,rfl,λj aJ=>?_⟩,?_,?_⟩
   ·have aJ:j=0:=by grind
    simp_all[V.size]
   ·simp_all
   ·have e:(B[i]).data.toList.length=(B[i]).size:=aPI;grind
  ·exact (Below.refl _ _).alloc (amo _) _
end Go.Fer.Sk
namespace Go.Fer
open Go
theorem aj5:∀ s:List UInt8,(oE s=none/\Lib.index s [10,10]=-1)\/∃ t r,oE s=some (t,r)/\Lib.index s [10,10]=(t.length:Int)/\s=t++10::10::r
 | []=>.inl ⟨rfl,rfl⟩
 | b::l=>by
  unfold oE Lib.index;by_cases hc:b=10/\l.head?=some 10
  ·cases l<;>grind
  ·have aj:List.isPrefixOf [10,10] (b::l)=false:=by
    cases bq:List.isPrefixOf [10,10] (b::l) with
    | false=>rfl
    | true=>
     cases l<;>grind
   rcases aj5 l with⟨E,L⟩ | ⟨t,r,E,L,ak⟩<;>grind
theorem aFV(s:List UInt8):Lib.cut s [10,10]=match oE s with | some p=>(p.1,p.2,true) | none=>(s,[],false):=by
 unfold Lib.cut;rcases aj5 s with⟨E,L⟩ | ⟨t,r,E,L,ak⟩<;>simp_all
theorem aj6:∀ s:List UInt8,(Lib.index s [10]=-1/\jx s=[s])\/∃ t r,s=t++10::r/\Lib.index s [10]=(t.length:Int)/\jx s=t::jx r
 | []=>.inl ⟨rfl,rfl⟩
 | b::l=>by
  unfold Lib.index;by_cases U:b=10
  ·grind [WR]
  ·obtain⟨x,xs,aB,bt⟩:=Ji U l;rcases aj6 l with⟨E,L⟩ | ⟨t,r,E,L,ak⟩<;>grind
theorem aFW:∀ (n:Nat) (s:List UInt8),s.length<=n->Lib.splitK [10] 0 (Lib.count s [10]) s=jx s:=by
 intro n;induction n with
 | zero=>
  intro s h;have:s=[]:=aPU (by omega);subst this;rfl
 | succ n aO=>
  intro s h;rcases aj6 s with⟨E,L⟩ | ⟨t,r,E,L,ak⟩
  ·rw[Lib.count_miss E,L];rfl
  ·rw[Lib.count_hit (by simp) L,Nat.add_comm,Lib.splitK];have e:((t.length:Int)).toNat=t.length:=rfl;have aCr:s.drop (t.length+1)=r:=by simp_all
   grind
theorem aFX(s:List UInt8):Sk.ny s [10]=jx s:=by
 unfold Sk.ny;rw[Lib.splitB_data];exact aFW s.length s (amo _)
theorem aj7(s:List UInt8):∀ n,Lib.repeatL s n=I7 s n
 | 0=>rfl
 | n+1=>by
  have:=aj7 s n;unfold I7 at this ⊢;rw[List.replicate_succ,aRc,<-this];rfl
namespace Sk
open Go.Proofs
set_option maxRecDepth 100000
theorem aFY:hD Tryz.prog 39 kI hI Ov.sh:=aFJ
theorem aFZ:hD Tryz.prog 146 (.au kI kI) (.au kI (.au kI hI)) O0.sh:=aFO.u' λx=>bx λh=>by
 obtain⟨s,sep⟩:=x;obtain⟨rfl,L⟩:=h;refine (bN (L) _).trans (congrArg mpure ?_);exact aFV s
theorem aF0:hD Tryz.prog 107 (.au kI kI) mr O1.sh:=aFU.u' λx=>bx λh=>by
 obtain⟨s,sep⟩:=x;obtain⟨rfl,L⟩:=h;refine (bN (show s.length<4294967281/\1<=([10]).length from⟨L,by decide⟩) _).trans (congrArg mpure ?_);exact aFX s
theorem aF1:hD Tryz.prog 157 (.au kI cX) kI Om.sh:=aFS.u' λx=>bx λh=>by
 refine (bN h _).trans (congrArg mpure ?_);exact aj7 _ _
abbrev mq:V:=.cN e5
abbrev Fg:V:=.slice mq
abbrev aF2:V:=.slice Fg
def W9:List (Nat×V):=[(95,mq),(146,Fg),(142,aF2)]++xu
theorem aj8:ed Tryz.prog (q9 W9):=abF (by kernel_rfl)
def aF3:Code:=Tryz.f155.body.getD .skip
theorem aF4:Tryz.f155.body=some aF3:=by rfl
def O8:cL:=⟨⟨[(0,.eY 100001 0)],[(100001,.cells qp [.hP 100001,.own 100002]),(100002,.bl e5)]⟩,⟨[],[(100001,.cells qp [.hP 100001,.own 100002]),(100002,.bl e5)]⟩,[],1,Cd⟩
theorem W_:cW Tryz.prog dT 155 O8:=aC8 (n:=153) (rho:=Tryz.V8) { Tryz.ahR with } { Tryz.ahS with } (by rfl) (q8 Tryz.func155 aF4 (by rfl))
end Sk
end Go.Fer
namespace Go.Fer.Sk
open Go.Proofs
def qT:=aC3.cons (n:=39) (c:=Ov.dI) ⟨aFY,λ_ _=>rW⟩
def xj:=qT.cons (n:=146) (c:=O0.dI) ⟨aFZ,λ_ _=>rW⟩
def aF5:=xj.cons (n:=157) (c:=Om.dI) ⟨aF1,λ_ _=>rW⟩
theorem W'{T:pH}(aT:lL T){aP:dV}(sp:List (Nat×gq))(mc:Bp aP sp){n:Nat}{fn:Func}(ax:Tryz.prog.funcs[n]?=some fn){c:cL}(ann:cU){S:c.cA.al->M c.a7.al}(ay:∀ x,a6 (S x) (c.sh x))(b5:(fn.body.isSome&&DH fn (rf fn) c.kU c.lh)=true:=by kernel_rfl)(ah:∀ x,LW aP (q9 W9) xv (ta T sp) fn (rf fn) ann c.cA c.a7 c.lh x=S x:=by intro x;kernel_rfl):cW Tryz.prog aP n c:=
 have b5:=amn _ _ ▸ b5
 SM DN aj8 DO (aT.DQ mc) ax (DT b5.1) b5.2 λx=>FA (FB (ah x)) (ay x)
def aj9{T:pH}(aT:lL T){aP:dV}(iM:qI Tryz.prog aP)(sp:List (Nat×gq))(mc:Bp aP sp){n:Nat}{fn:Func}(ax:Tryz.prog.funcs[n]?=some fn)(c:aN)(ann:cU){S:c.ts.al->M c.aR.al}(ay:∀ x,a6 (S x) (c.sh x))(b5:DU fn c.ts c.aR=true:=by kernel_rfl)(ah:∀ x,DF aP (q9 W9) xv (ta T sp) fn (rf fn) ann c.ts c.aR x=S x:=by intro x;kernel_rfl):lL ((n,c.dI)::T):=
 have b5:=amn _ _ ▸ b5
 aT.cons ⟨abD DN aj8 iM DO (aT.DQ mc) ax (DT b5.1) b5.2 λx=>FA (FB (ah x)) (ay x),λ_ _=>rW⟩
end Go.Fer.Sk
namespace Go.Fer
def Xa(aF6:List bn->M Bool)(afy:bG×List bn->M Bool)(UL:bG->M Int)(Xb:Unit->M Bool)(IZ:List bn->M (bn×Int))(aF7:bn×z4'->M (bn×z1'×Bool))(aF8:z1'->M Int)(MT:bG×List bn->M (List bn×bG×Int))(aF9:bG×bn->M (List bn×bG×Int))(WA:List bn×List bn->M Bool)(afA:bG×bG->M Bool)(x:bG×List bn×z4'):M Bool:=
 aq (aF6 x.2.1) λy=>aq (qY (!(!y)) (afy (x.1,x.2.1)) false) λcg=>aq (qY (!(!y||cg)) (UL x.1) 0) λei=>if (!y||cg||decide (ei≠0)||decide (Int.ofNat (List.length x.2.2) > 10))=true then aq (Xb ()) λy=>mpure y else aq (IZ x.2.1) λy=>if (decide (y.2≠0)||decide (Int.ofNat (List.length y.1) > 8000))=true then mpure false else aq (aF7 (y.1,x.2.2)) λy=>aq (qY (!(!y.2.2)) (aF8 y.2.1) 0) λhv=>if (!y.2.2||decide (hv > 1))=true then aq (Xb ()) λy=>mpure y else aq (MT (x.1,x.2.1)) λkW=>aq (aF9 (x.1,y.1)) λy=>letI a:=decide (kW.2.2=0)&&decide (y.2.2=0);aq (qY a (WA (kW.1,y.1)) false) λtc=>aq (qY (a&&tc) (afA (kW.2.1,y.2.1)) false) λyY=>aq (qY (a&&tc&&yY) (Xb ()) false) λaF_=>mpure (a&&tc&&yY&&aF_)
def aj_(MT:bG×List bn->M (List bn×bG×Int))(IY:bn->M (List bn×z1'×Int))(x:bG×bn):M (List bn×bG×Int):=
 aq (IY x.2) λy=>if decide (y.2.2≠0)=true then mpure ([],((([],[],0,[]),[],[],[],[],0),[],[],[],[],0,0,0,0,0,0,0),y.2.2) else aq (MT (x.1,y.1)) λy=>mpure y
def wB(f:List UInt8)(l:z4')(i:Nat):Bool:=
 !(ks f (l.getD i (0,0)).1).2||decide ((l.getD i (0,0)).2<32)||decide ((l.getD i (0,0)).2 > 126)||decide (((f.getD (l.getD i (0,0)).1.toNat 0).toNat:Int)=(l.getD i (0,0)).2)||(l.take i).any λt=>decide (t.1=(l.getD i (0,0)).1)
def pZ(n:List UInt8)(s:z12'):List UInt8:=n.set s.1.toNat (UInt8.ofNat s.2.toNat)
def nR(f:List UInt8)(l:z4'):List UInt8×z1'×Bool:=
 if (List.range l.length).any (wB f l)=true then ([],[],false) else (l.foldl pZ f,l.map λs=>(ks f s.1).1,true)
theorem aj'{af bet rho:Type}{p:af->Bool}{h:bet->af->bet}{r:rho}{fin:bet->rho}:∀ (l:List af) (b:bet),fb (λv b=>if p v=true then (.done r:aF bet rho) else .next (h b v)) fin l b=if l.any p=true then r else fin (l.foldl h b)
 | [],b=>by rfl
 | v::l,b=>by
  simp only[fb,aQC];by_cases aj:p v=true
  ·grind
  ·simp only[aj,aQo];exact aj' l _
variable {af:Type}
theorem aka{l:List af}{d:af}{n:Nat}(h:n<=l.length):(List.range n).map (λk=>l.getD k d)=l.take n:=by
 refine aQX (by grind) λk E L=>?_;grind
theorem aF'{l:List af}{d:af}{n:Nat}(q:af->Bool)(h:n<=l.length):((List.range n).any λk=>q (l.getD k d))=(l.take n).any q:=by
 rw[<-aka h,List.any_map];rfl
theorem aGa{bet:Type}{l:List af}{d:af}(h:bet->af->bet)(b:bet):(List.range l.length).foldl (λb k=>h b (l.getD k d)) b=l.foldl h b:=by
 have e:=aka (l:=l) (d:=d) (amo _);grind [List.foldl_map]
abbrev Jp:aN:=⟨.au .str (.slice (.ad (.au (.int .i64) (.int .i64)))),.au .str (.au (.slice (.int .i64)) .bool),λx=>List.length x.1<65536/\List.length x.2<65536,λx=>nR x.1 x.2⟩
theorem aGb(x):a6 (ai0 OH.sh x) (Jp.sh x):=bx λh=>by
 change List UInt8×z4' at x;obtain⟨f,l⟩:=x;obtain⟨E,L⟩:f.length<65536/\l.length<65536:=h;unfold ai0 b3 c' eV cm bg a8 bK;show _=mpure (nR f l);dsimp only;rw[e6 (List.range l.length) (λi (s:List UInt8×z1')=>(f,l,s.1,(i:Int),s.2,())) (λi s=>if wB f l i=true then .done (.done ([],[],false)) else .next (pZ s.1 (l.getD i (0,0)),s.2++[(ks f (l.getD i (0,0)).1).1])) (λs=>.next (s.1,s.2,())) (λi s=>s.1.length=f.length/\s.2.length=i) (f,[]) ?_ ?_ ?_ ?_]
 ·rw[aj' (h:=λ(s:List UInt8×z1') i=>(pZ s.1 (l.getD i (0,0)),s.2++[(ks f (l.getD i (0,0)).1).1]))];unfold nR;by_cases U:(List.range l.length).any (wB f l)=true
  ·rw[if_pos U,if_pos U,aK,uD]
  ·rw[if_neg U,if_neg U,aK,cK];have e:(List.range l.length).foldl (λ(s:List UInt8×z1') i=>(pZ s.1 (l.getD i (0,0)),s.2++[(ks f (l.getD i (0,0)).1).1])) (f,[])=(l.foldl pZ f,l.map λs=>(ks f s.1).1):=by
    rw[aGa (h:=λ(s:List UInt8×z1') v=>(pZ s.1 v,s.2++[(ks f v.1).1]))];have:∀ (l:z4') (n:List UInt8) (o:z1'),l.foldl (λ(s:List UInt8×z1') v=>(pZ s.1 v,s.2++[(ks f v.1).1])) (n,o)=(l.foldl pZ n,o++l.map λs=>(ks f s.1).1):=by
     intro l;induction l with
     | nil=>intro n o;simp
     | cons v l aO=>intro n o;rw[aPY,aO];simp
    rw[this,aQi]
   rw[e]
 ·rfl
 ·exact⟨rfl,rfl⟩
 ·intro i G s ay;obtain⟨now,Xc⟩:=s;obtain⟨s1,s2⟩:now.length=f.length/\Xc.length=i:=ay;have G:i<l.length:=by simpa using G
  have GN:(List.range l.length)[i]'(by simpa using G)=i:=aPC ..;rw[GN];have hw:=bp (n:=(i:Int)+1);have Cp:((i:Int)).toNat=i:=rfl;have Xd:=bN (show f.length<65536 from E) (ks f (l.getD i (0,0)).1);have sS:wB f l i=(!(ks f (l.getD i (0,0)).1).2||decide ((l.getD i (0,0)).2<32)||decide ((l.getD i (0,0)).2 > 126)||decide (((f.getD (l.getD i (0,0)).1.toNat 0).toNat:Int)=(l.getD i (0,0)).2)||(l.take i).any λt=>decide (t.1=(l.getD i (0,0)).1)):=rfl;have ki:(ks f (l.getD i (0,0)).1).2=true->0<=(l.getD i (0,0)).1/\(l.getD i (0,0)).1<(f.length:Int):=λe=>by
   unfold ks at e;by_cases hc:(l.getD i (0,0)).1<0\/(f.length:Int)<=(l.getD i (0,0)).1\/f.getD (l.getD i (0,0)).1.toNat 0=10
   ·rw[if_pos hc]at e;cases e
   ·refine⟨?_,?_⟩
    ·rcases Int.lt_or_le (l.getD i (0,0)).1 0 with k | k
     ·exact absurd (.inl k) hc
     ·exact k
    ·rcases Int.lt_or_le (l.getD i (0,0)).1 (f.length:Int) with k | k
     ·exact k
     ·exact absurd (.inr (.inl k)) hc
  have Fe:=aF' (l:=l) (d:=(0,0)) (n:=i) (λt=>decide (t.1=(l.getD i (0,0)).1)) (Nat.le_of_lt G);have aPt:l.getD i (0,0)=l[i]:=by rw[amp,ams G];rfl
  refine⟨?_,λs' vf=>?_⟩
  ·simp only[ct,dP G,if_true,Cp,Prod.cu,Prod.ft];rw[show (0<=(i:Int)/\(i:Int)<(l.length:Int))=True from dt G];generalize aj:l.getD i (0,0)=s at Xd sS ki Fe;obtain⟨p,v⟩:=s;dsimp only at Xd sS ki Fe ⊢;rw[show OH.sh (f,p)=mpure (ks f p) from Xd];generalize pC:ks f p=N at sS ki;obtain⟨n,g⟩:=N;dsimp only at sS ki ⊢;simp only[aK,cj];cases g with
   | false=>
    simp_all
   | true=>
    obtain⟨e8,e_⟩:=ki rfl;have h0:(0<=p/\p<(f.length:Int))=True:=by simp only[e8,e_,aQJ]
    simp only[aP9,aQu,aQo,h0,aPH,aQJ,aQ7,aRq,imp_self,aP8,cj];have WB:(f.getD p.toNat 0).1.1.1=(f.getD p.toNat 0).toNat:=rfl;have aPu:=(f.getD p.toNat 0).toNat_lt;have yM:=bp (n:=((f.getD p.toNat 0).toNat:Int));rw[WB,yM];cases hc:(decide (v<32)||decide (v > 126)||decide (((f.getD p.toNat 0).toNat:Int)=v)) with
    | true=>
     simp_all
    | false=>
     have aGc:wB f l i=(l.take i).any λt=>decide (t.1=p):=by
      rw[sS];have:(!true||decide (v<32)||decide (v > 126)||decide (((f.getD p.toNat 0).toNat:Int)=v))=false:=hc;rw[this,aQo]
     rw[aGc,if_neg (by decide)];have ae:32<=v/\v<=126:=by
      simp only[aQg,aPT]at hc;omega
     rw[ev (List.range i) (λk (_:Unit)=>(f,l,now,(i:Int),n,(k:Int),Xc,())) (λk u=>if decide ((l.getD k (0,0)).1=p)=true then .done (.done (.done (.done (.done ([],[],false))))) else .next u) (λ_=>.next (f,l,now,(i:Int),n,Xc,())) () ?_ ?_ ?_]
     ·rw[s_,Fe];cases (l.take i).any λt=>decide (t.1=p) with
      | true=>
       simp
      | false=>
       rw[if_neg (by decide),aK,cK];simp only[Cp,ct,Prod.cu,aj];have iy:(p+1).toNat=p.toNat+1:=by omega
       have WC:=bp (n:=p+1);have Uu:p.toNat<now.length:=by omega
       have aGd:((now.length:Int)).toNat=now.length:=rfl;have aGe:fh [IntKind.wrap .u8 v]=[UInt8.ofNat v.toNat]:=by rw[EZ (by omega) (by omega)];rfl
       have mc:=aFs Uu (UInt8.ofNat v.toNat);simp only[dd,WC,iy,aGd,aQc,aGe,mc];have a8:(0<=(i:Int)/\i<(l.length:Int)):=⟨by omega,by omega⟩
       rw[bb a8,bb ⟨aPL _,e8,by omega⟩,bb a8,bb (by grind [cb]),bb a8,bb ⟨by omega,by omega,aPL _⟩,bb (by grind [cb]),bb (by grind [cb]),aK,cK];rw[hw];rfl
     ·rfl
     ·intro k an u;have an:k<i:=by grind
      have Eg:(List.range i)[k]'(by omega)=k:=aPC ..;rw[Eg];have lS:=bp (n:=k+1);have Jq:((k:Int)).toNat=k:=rfl;have aw:decide (k<(i:Int))=true:=aPR (by omega);simp only[aw,Jq,Cp,dd,lS,aj];rw[bb ⟨by omega,by omega⟩,bb ⟨by omega,by omega⟩];cases decide ((l.getD k (0,0)).1=p)<;>rfl
     simp
  ·grind [pZ]
 simp
theorem aGf(x:Int)(l:z1'):jf (x::l)=x - 32+jf l:=rfl
theorem akb:∀ (a b:z1'),jf (a++b)=jf a+jf b
 | [],b=>by grind [jf]
 | x::a,b=>by
  have:=akb a b;grind [aGf]
def nS(f:Nat->Int):Nat->Int
 | 0=>0
 | n+1=>nS f n+f n
theorem akc{f g:Nat->Int}:∀ (n:Nat),(∀ c,c<n->f c=g c)->nS f n=nS g n
 | 0,_=>rfl
 | n+1,h=>by
  show nS f n+f n=nS g n+g n;rw[akc n λc hc=>h c (by omega),h n (by omega)]
theorem akd(f g:Nat->Int):∀ n,nS (λc=>f c+g c) n=nS f n+nS g n
 | 0=>rfl
 | n+1=>by
  have:=akd f g n;grind [nS]
theorem ake(f:Nat->Int):∀ n,nS (λc=>f c % 95) n % 95=nS f n % 95
 | 0=>rfl
 | n+1=>by
  have:=ake f n;grind [nS]
theorem Xe(r:z1'):∀ n,n<=r.length->jf (r.take n)=nS (λc=>r.getD c 0 - 32) n
 | 0,_=>rfl
 | n+1,h=>by
  have aO:=Xe r n (by omega);have aA:n<r.length:=by omega
  have aD:r.getD n 0=r[n]:=by grind
  rw[aQF,ams aA,akb,aO];show nS (λc=>r.getD c 0 - 32) n+(r[n] - 32+0)=nS (λc=>r.getD c 0 - 32) n+(r.getD n 0 - 32)
  omega
theorem akf(n:Nat):∀ (R:List (z1')),(∀ r∈R,n<=r.length)->nS (λc=>jf (gh R (c:Int))) n=(R.map λr=>jf (r.take n)).sum
 | [],_=>by
  have:∀ n,nS (λc=>jf (gh [] c)) n=0:=by
   intro n;induction n with
   | zero=>rfl
   | succ n aO=>show nS _ n+jf []=0;rw[aO];rfl
  grind
 | r::R,h=>by
  have aO:=akf n R λr D=>h r (amr _ D);have e:∀ c:Nat,jf (gh (r::R) c)=(r.getD c 0 - 32)+jf (gh R c):=λc=>rfl;simp_all[akd,Xe]
theorem akg:∀ (l:z1'),(l.map λx=>x % 95).sum % 95=l.sum % 95
 | []=>rfl
 | x::l=>by
  have:=akg l;grind
theorem aGg{R:List (z1')}(w:Nat){pad:List (z1')}(fs:R=pad.map λp=>p++[lW p])(aj:∀ p∈pad,p.length=w/\p.all fc=true):jf (gh R (w:Int)) % 95=((pad.map jf).sum) % 95:=by
 subst fs;have e:gh (pad.map λp=>p++[lW p]) w=pad.map lW:=by
  unfold gh;simp_all
 rw[e];have bt:jf (pad.map lW)=((pad.map jf).map λx=>x % 95).sum:=by
  unfold jf;rw[aQE,aQE];grind [List.map_congr_left,Co,jf]
 rw[bt,akg]
variable {x:z2'}
theorem aGh(h:∀ t∈x,gP t):jN (ju x)=[]:=by
 have aPv:=I9 h;have Xf:=W1 h;refine List.eq_nil_iff_forall_not_mem.2 λv ae=>?_;obtain⟨i,G,rfl,U⟩:=E_.1 ae;have gK:(ju x).length=x.length+1:=by unfold ju;simp
 rw[gK]at G;by_cases e:i<x.length
 ·have j8:(ju x).getD i []=pW (fu x) x[i]:=by
   unfold ju;rw[amp,aPW (by simpa using e),aQW,ams e];rfl
  have ah:=Oi (w:=fu x) (Xf _ (amm e));rw[j8]at U;unfold jw pW at U;rw[aP2]at U;refine U ?_;have aB:(pV (fu x) x[i]++[lW (pV (fu x) x[i])]).length - 1=(pV (fu x) x[i]).length:=by simp
  rw[aB,List.take_left,amp,amu (amo _),Nat.sub_self];rfl
 ·have GN:i=x.length:=by omega
  subst GN;generalize fs:x.map (pW (fu x))=R;have j8:(ju x).getD x.length []=sn R (fu x+2):=by
   unfold ju;rw[amp,amu (by simp),fs];have:x.length - R.length=0:=by rw[<-fs];simp
   rw[this];rfl
  have On:∀ r∈R,r.all fc=true/\r.length=fu x+2:=λr D=>by
   rw[<-fs]at D;obtain⟨t,aG,rfl⟩:=List.mem_map.1 D;exact⟨Ol (h t aG),Oj (Xf t aG)⟩
  have aGi:R=(x.map (pV (fu x))).map λp=>p++[lW p]:=by rw[<-fs,aQE];rfl
  have GU:∀ p∈x.map (pV (fu x)),p.length=fu x+1/\p.all fc=true:=λp aj=>by
   obtain⟨t,aG,rfl⟩:=List.mem_map.1 aj;exact⟨Oi (Xf t aG),Oh (h t aG)⟩
  have aGj:∀ c:Nat,c<fu x+2->(gh R (c:Int)).all fc=true:=λc hc=>I6 λr D=>⟨(On r D).1,by have:=(On r D).2;omega⟩
  rw[j8]at U;unfold jw at U;rw[aP2]at U;refine U ?_;have fH:(sn R (fu x+2)).length=fu x+2:=by unfold sn;simp
  have aGk:∀ c,c<fu x+2->(sn R (fu x+2)).getD c 0=lW (gh R (c:Int)):=λc hc=>by
   unfold sn;rw[amp,aQW,List.getElem?_range hc];rfl
  have Va:(sn R (fu x+2)).all fc=true:=List.all_eq_true.2 λv ae=>by
   unfold sn at ae;grind [Wk]
  have aB:fu x+2 - 1=fu x+1:=by omega
  rw[fH,aB,aGk _ (by omega),Co (aGj _ (by omega)),Co (aja Va _),aGg (fu x+1) aGi GU];have t1:jf ((sn R (fu x+2)).take (fu x+1))=nS (λc=>jf (gh R c) % 95) (fu x+1):=by
   grind [Xe,akc,Co]
  have bU:=ake (λc=>jf (gh R c)) (fu x+1);have cX:=akf (fu x+1) R λr D=>by grind
  have hI:(R.map λr=>jf (r.take (fu x+1)))=(x.map (pV (fu x))).map jf:=by
   simp_all
  grind
theorem aGl(h:∀ t∈x,gP t):kO (fu x+2) (ju x)=[]:=by
 refine List.eq_nil_iff_forall_not_mem.2 λv ae=>?_;obtain⟨c,hc,rfl,U⟩:=E'.1 ae;grind [ju,kt,sn]
theorem aGm(h:∀ t∈x,gP t)(E:1<=x.length)(kP:x.length<=8):iU (hT x)=(0,0,0):=by
 have ay:=ajI h E kP;unfold iU;rw[ay.wide];grind [Wt,k2,aGh,aGl]
section
variable {l:z2'}
theorem akh(h:∀ t∈l,gP t):∀ b∈(gH l).map hT,iU b=(0,0,0):=λb U=>by
 grind [Jb,aGm]
theorem aGn(h:∀ t∈l,gP t):∀ b∈(gH l).map hT,iG b=b:=λb U=>aFw (Jl h b U) (by grind [akh])
theorem aGo:(gH l).length=(l.length+7) / 8:=by
 have h:∀ k,k<(gH l).length<->8*k<l.length:=λk=>Oz;have E:=h ((l.length+7) / 8);rcases aQD (gH l).length ((l.length+7) / 8) with k | k
 ·have:=(h (gH l).length).2 (by omega);omega
 omega
theorem Xg(h:∀ t∈l,gP t)(nM:l.length<=40):(lv l).length<=3000:=by
 rw[Jk];have:∀ B:List (z2'),(∀ b∈B,(eI b).length<=600)->(B.flatMap eI).length<=600*B.length:=by
  intro B;induction B<;>grind
 have:=this ((gH l).map hT) λb U=>OD (Jl h b U);grind [aGo]
end
theorem aGp(h:zH x=true):(∀ t∈x,gP t)/\x.length<=40:=by
 grind [zH,I']
end Go.Fer
namespace Go.Fer
abbrev fl:Type:=z2'
def cn(l:fl)(r c:Nat)(b:UInt8):fl:=l.set r ((l.getD r []).set c b)
def wC(B:List fl)(k r c:Nat)(b:UInt8):List fl:=B.set k (cn (B.getD k []) r c b)
def Cr(B:List fl)(k r c:Nat):UInt8:=((B.getD k []).getD r []).getD c 0
structure qG(B:List fl)(k r c:Nat):Prop where
 an:k<B.length
 D:r<(B.getD k []).length
 hc:c<((B.getD k []).getD r []).length
def ru(B:List fl)(k r c:Nat):List UInt8:=(B.take k).flatMap eI++(kr ((B.getD k []).take r)++((B.getD k []).getD r []).take c)
def O9(B:List fl)(k r c:Nat):List UInt8:=((B.getD k []).getD r []).drop (c+1)++10::(kr ((B.getD k []).drop (r+1))++10::(B.drop (k+1)).flatMap eI)
variable {af:Type}{k:Nat}
theorem aGq{l:List af}{d:af}(h:k<l.length):l=l.take k++l.getD k d::l.drop (k+1):=by
 simp_all
theorem aGr(a b:fl):kr (a++b)=kr a++kr b:=by grind [kr]
theorem O_(r:List UInt8)(l:fl):kr (r::l)=r++10::kr l:=by grind [kr]
variable {r:Nat}{c:Nat}
theorem Jr{B:List fl}(h:qG B k r c):B.flatMap eI=ru B k r c++Cr B k r c::O9 B k r c:=by
 obtain⟨an,D,hc⟩:=h;grind [aGq,ru,O9,Cr,eI,aGr,O_]
theorem aGs{l:List af}{x d:af}(h:k<l.length):(l.set k x).getD k d=x:=by
 grind
theorem getD_set_ne{l:List af}{j:Nat}{x d:af}(h:k≠j):(l.set k x).getD j d=l.getD j d:=by
 grind
theorem aGt{B:List fl}(h:qG B k r c)(b:UInt8):qG (wC B k r c b) k r c:=by
 obtain⟨an,D,hc⟩:=h;unfold wC cn;refine⟨by grind,?_,?_⟩<;>simp_all
theorem aGu{B:List fl}(h:qG B k r c)(b:UInt8):(wC B k r c b).flatMap eI=ru B k r c++b::O9 B k r c:=by
 rw[Jr (aGt h b)];obtain⟨an,D,hc⟩:=h;grind [ru,wC,cn,List.take_set_of_le,O9,List.drop_set_of_lt,Cr]
theorem aGv{B:List fl}(h:qG B k r c)(b:UInt8):(B.flatMap eI).set (ru B k r c).length b=(wC B k r c b).flatMap eI:=by
 grind [aGu,Jr]
theorem aGw{B:List fl}(h:qG B k r c):(B.flatMap eI).getD (ru B k r c).length 0=Cr B k r c:=by
 grind [Jr]
theorem aki{b:UInt8}(U:b≠10):∀ (l:fl) (q:Nat),(kr l)[q]?=some b->∃ r c,r<l.length/\c<(l.getD r []).length/\q=(kr (l.take r)++(l.getD r []).take c).length
 | [],q,h=>by simp[kr]at h
 | w::l,q,h=>by
  rw[O_]at h;rcases aQD q w.length with bq | bq
  ·exact⟨0,q,by simp,bq,by grind [kr]⟩
  ·rw[amu bq]at h;cases aw:q - w.length with
   | zero=>
    grind
   | succ n=>
    rw[aw]at h;obtain⟨r,c,E,L,ak⟩:=aki U l n h;refine⟨r+1,c,by grind,L,?_⟩;grind [O_]
theorem akj{b:UInt8}(U:b≠10):∀ (B:List fl) (p:Nat),(B.flatMap eI)[p]?=some b->∃ k r c,qG B k r c/\p=(ru B k r c).length
 | [],p,h=>by grind
 | l::B,p,h=>by
  rw[aQd]at h;rcases aQD p (eI l).length with aj | aj
  ·rw[aPW aj]at h;unfold eI at h aj;rcases aQD p (kr l).length with bq | bq
   ·rw[aPW bq]at h;obtain⟨r,c,E,L,ak⟩:=aki U l p h;exact⟨0,r,c,⟨by simp,E,L⟩,by grind [ru]⟩
   grind
  ·rw[amu aj]at h;obtain⟨k,r,c,⟨E,L,ak⟩,aZ⟩:=akj U B _ h;refine⟨k+1,r,c,⟨by grind,L,ak⟩,?_⟩;grind [ru]
def o'(p:Bool):List UInt8->Nat
 | []=>0
 | b::l=>(if (p&&decide (b=10))=true then 1 else 0)+o' (decide (b=10)) l
def Fh(l:List UInt8):Nat:=((List.range (l.length - 1)).filter λk=>decide (l.getD (k+1) 0=10)&&decide (l.getD k 0=10)).length
theorem akk:∀ (l:List UInt8) (a:UInt8),Fh (a::l)=o' (decide (a=10)) l
 | [],a=>rfl
 | b::t,a=>by
  have aO:=akk t b;have e:Fh (a::b::t)=(if (decide (a=10)&&decide (b=10))=true then 1 else 0)+Fh (b::t):=by
   unfold Fh;have bL:(a::b::t).length - 1=((b::t).length - 1)+1:=by simp
   rw[bL,List.range_succ_eq_map];have aB:((List.map Nat.succ (List.range ((b::t).length - 1))).filter λk=>decide ((a::b::t).getD (k+1) 0=10)&&decide ((a::b::t).getD k 0=10)).length=((List.range ((b::t).length - 1)).filter λk=>decide ((b::t).getD (k+1) 0=10)&&decide ((b::t).getD k 0=10)).length:=by
    rw[List.filter_map,aPJ];rfl
   grind
  rw[e,aO];rfl
theorem aGx(f:List UInt8)(p:Nat)(h:p<=f.length):E8 f p=o' false (f.take p):=by
 have e:E8 f p=Fh (f.take p):=by
  grind [E8,Fh,List.filter_congr]
 rw[e];cases bq:f.take p with
 | nil=>rfl
 | cons a l=>
  grind [akk,o']
variable {b:UInt8}
theorem Xh(h:fk b=true):b≠10:=λe=>by rw[e]at h;exact absurd h (by decide)
theorem akl:∀ (w:List UInt8) (p:Bool),w.all fk=true->o' p w=0
 | [],p,_=>rfl
 | b::w,p,h=>by
  simp only[aQq,amn]at h;show (if (p&&decide (b=10))=true then 1 else 0)+o' (decide (b=10)) w=0;rw[akl w _ h.2,aP5 (Xh h.1)];simp
theorem akm:∀ (w b6:List UInt8) (p:Bool),w.all fk=true->(p=true->w≠[])->o' p (w++10::b6)=o' true b6
 | [],b6,p,_,aj=>by
  grind [o']
 | b::w,b6,p,h,aj=>by
  simp only[aQq,amn]at h;show (if (p&&decide (b=10))=true then 1 else 0)+o' (decide (b=10)) (w++10::b6)=_;rw[aP5 (Xh h.1),akm w b6 false h.2 (λk=>by grind)];simp
theorem Xi:∀ (l:fl) (b6:List UInt8) (p:Bool),(∀ w∈l,w.all fk=true/\w≠[])->∃ q,o' p (kr l++b6)=o' q b6/\(l≠[]->q=true)
 | [],b6,p,_=>⟨p,rfl,λk=>absurd rfl k⟩
 | w::l,b6,p,h=>by
  obtain⟨E,L⟩:=h w (by simp);obtain⟨q,e,bq⟩:=Xi l b6 true λw hw=>h w (amr _ hw);refine⟨if l=[] then true else q,?_,λ_=>?_⟩
  ·rw[O_,aQG,aRl,akm w _ p E λ_=>L];by_cases ah:l=[]
   ·subst ah;rfl
   grind
  grind
variable {l:fl}
theorem akn{W:Nat}(h:fI W l):∀ w∈l,w.all fk=true/\w≠[]:=λw hw=>by
 obtain⟨E,L⟩:=h.2.2.2.2 w hw;have:=h.2.2.1;grind
theorem aGy{W:Nat}(h:fI W l)(b6:List UInt8)(p:Bool):o' p (eI l++b6)=1+o' true b6:=by
 have e:eI l++b6=kr l++10::b6:=by unfold eI;simp
 obtain⟨q,aB,bt⟩:=Xi l (10::b6) p (akn h);have ah:l≠[]:=λk=>by have:=h.1;grind
 grind [o']
theorem ako:∀ (B:List fl) (b6:List UInt8) (p:Bool),(∀ l∈B,fI (fv l) l)->∃ q,o' p (B.flatMap eI++b6)=B.length+o' q b6
 | [],b6,p,_=>⟨p,by simp⟩
 | l::B,b6,p,h=>by
  obtain⟨q,e⟩:=ako B b6 true λl ah=>h l (amr _ ah);refine⟨q,?_⟩;rw[aQd,aQG,aGy (h l (by simp)),aQn];omega
theorem x_{B:List fl}(h:k<B.length):B.getD k []∈B:=by grind
theorem aGz{B:List fl}(ay:∀ l∈B,fI (fv l) l)(h:qG B k r c):E8 (B.flatMap eI) (ru B k r c).length=k:=by
 have mc:=Jr h;have hlen:(ru B k r c).length<=(B.flatMap eI).length:=by grind
 rw[aGx _ _ hlen,mc,List.take_left];unfold ru;obtain⟨an,D,hc⟩:=h;have ah:=ay _ (x_ an);obtain⟨q,e⟩:=ako (B.take k) (kr ((B.getD k []).take r)++((B.getD k []).getD r []).take c) false λl ah=>ay l (aPV ah);obtain⟨cJ,bt,_⟩:=Xi ((B.getD k []).take r) (((B.getD k []).getD r []).take c) q λw hw=>akn ah w (aPV hw);have hR:(B.getD k []).getD r []∈B.getD k []:=by
  grind
 rw[e,bt,akl _ cJ (aD_ (ah.2.2.2.2 _ hR).2 _),aQm];omega
def p0(B:List fl)(k r c:Nat):Nat:=nQ B k+r*(fv (B.getD k [])+1)+c
theorem aGA(B:List fl)(k:Nat):nQ B k=((B.take k).flatMap eI).length:=by
 simp_all[nQ]
theorem Xj{B:List fl}(ay:∀ l∈B,fI (fv l) l)(h:qG B k r c):(ru B k r c).length=p0 B k r c:=by
 obtain⟨an,D,hc⟩:=h;have ah:=ay _ (x_ an);unfold ru p0;rw[aP1,aP1,<-aGA,W3   _ λw hw=>(ah.2.2.2.2 w (aPV hw)).1,aQm,aQm,aQ8 (by omega)];omega
theorem akp{B:List fl}(ay:∀ l∈B,fI (fv l) l)(h:qG B k r c):c<fv (B.getD k [])/\fk (Cr B k r c)=true:=by
 obtain⟨an,D,hc⟩:=h;have ah:=ay _ (x_ an);have hR:(B.getD k []).getD r []∈B.getD k []:=by
  grind
 obtain⟨E,L⟩:=ah.2.2.2.2 _ hR;grind [Cr]
theorem aGB{B:List fl}(ay:∀ l∈B,fI (fv l) l)(h:qG B k r c):ks (B.flatMap eI) ((p0 B k r c:Nat):Int)=((k:Int),true):=by
 have aj:=Xj ay h;have hc:=(akp ay h).2;grind [Jr,ks,Xh,aGz]
structure p1(B iN:List fl):Prop where
 len:iN.length=B.length
 sh:∀ l∈iN,fI (fv l) l
 uU:∀ k,k<B.length->(iN.getD k []).length=(B.getD k []).length/\fv (iN.getD k [])=fv (B.getD k [])
theorem p1.refl{B:List fl}(ay:∀ l∈B,fI (fv l) l):p1 B B:=⟨rfl,ay,λ_ _=>⟨rfl,rfl⟩⟩
theorem p1.nQ{B iN:List fl}(ay:∀ l∈B,fI (fv l) l)(h:p1 B iN):∀ k,k<=B.length->nQ iN k=nQ B k
 | 0,_=>rfl
 | k+1,an=>by
  have aO:=p1.nQ ay h k (by omega);have D5:k<B.length:=by omega
  have o1:k<iN.length:=by rw[h.len];omega
  have aB:=W4 (ay _ (amm D5));have bt:=W4 (h.sh _ (amm o1));have cT:=h.uU k D5;rw[aj0 D5,aj0 o1]at cT;rw[W6 D5,W6 o1,aO,aB,bt,cT.1,cT.2]
variable {iN:List fl}
theorem p1.aGC{B:List fl}(ay:∀ l∈B,fI (fv l) l)(h:p1 B iN)(an:k<B.length)(r c:Nat):p0 iN k r c=p0 B k r c:=by
 unfold p0;rw[h.nQ ay k (by omega),(h.uU k an).2]
theorem p1.at{B:List fl}(ay:∀ l∈B,fI (fv l) l)(h:p1 B iN)(aW:qG B k r c):qG iN k r c:=by
 obtain⟨an,D,hc⟩:=aW;obtain⟨aB,bt⟩:=h.uU k an;have o1:k<iN.length:=by grind
 have ah:=h.sh _ (x_ o1);have Kk:=ay _ (x_ an);have c1:r<(iN.getD k []).length:=by omega
 have m1:(iN.getD k []).getD r []∈iN.getD k []:=by
  grind
 have m0:(B.getD k []).getD r []∈B.getD k []:=by
  grind
 have cf:=(ah.2.2.2.2 _ m1).1;have ep:=(Kk.2.2.2.2 _ m0).1;exact⟨o1,c1,by omega⟩
theorem O'{W:Nat}(h:fI W l)(D:r<l.length)(U:fk b=true):fI W (cn l r c b):=by
 obtain⟨E,L,ak,aZ,bP⟩:=h;unfold cn;refine⟨by grind,by grind,ak,aZ,λw hw=>?_⟩;grind
theorem p1.put{B:List fl}(h:p1 B iN)(aW:qG iN k r c)(U:fk b=true):p1 B (wC iN k r c b):=by
 obtain⟨an,D,hc⟩:=aW;have ah:=h.sh _ (x_ an);have ay:=O' ah D (c:=c) U;have hw:=ay.wide;unfold wC;refine⟨by rw[aQk];exact h.len,λl rR=>?_,λj aJ=>?_⟩
 ·rcases List.mem_or_eq_of_mem_set rR with rR | rR
  ·exact h.sh l rR
  grind
 ·by_cases e:k=j
  ·subst e;rw[aGs an,hw];refine⟨?_,(h.uU k aJ).2⟩;unfold cn;rw[aQk];exact (h.uU k aJ).1
  ·rw[getD_set_ne e];exact h.uU j aJ
def hC(R:List (z1'))(r c:Nat)(v:Int):List (z1'):=R.set r ((R.getD r []).set c v)
variable {R:List (z1')}{v:Int}
theorem x'(D:r<R.length)(k:Nat):(hC R r c v).getD k []=if r=k then (R.getD r []).set c v else R.getD k []:=by
 grind [hC]
theorem Xk{r:z1'}(h:lu r)(U:jw r=false)(hc:c<r.length)(ae:fc v=true)(eM:v≠r.getD c 0):jw (r.set c v)=true:=by
 cases bq:jw (r.set c v) with
 | true=>rfl
 | false=>
  have aV:=(E9 h).1 U;have b5:lu (jv r c v):=zK h ae;have E:=(E9 b5).1 bq;rw[ON h.1 (by omega) (by omega)]at E;have g:=OL h.2.2 hc;grind [oB]
theorem Xl{W:Nat}(h:pX W R)(hc:c<W)(U:kt R c=false)(D:r<R.length)(ae:fc v=true)(eM:v≠(R.getD r []).getD c 0):kt (hC R r c v) c=true:=by
 obtain⟨E,L,ak,aZ,bP⟩:=h;have hR:=bP _ (zO D);have hlen:(hC R r c v).length=R.length:=by unfold hC;rw[aQk]
 unfold kt at U ⊢;rw[aPT,Decidable.not_not]at U;rw[hlen,aP2];have mx:∀ w∈R.take (R.length - 1),w.length=W/\w.all fc=true:=λw hw=>bP w (aPV hw);by_cases e:r=R.length - 1
 ·grind [hC,List.take_set_of_le]
 ·have j8:(hC R r c v).getD (R.length - 1) []=R.getD (R.length - 1) []:=by grind [x']
  have tk:(hC R r c v).take (R.length - 1)=(R.take (R.length - 1)).set r ((R.getD r []).set c v):=by grind [hC,List.take_set]
  have yv:gh ((R.take (R.length - 1)).set r ((R.getD r []).set c v)) c=(gh (R.take (R.length - 1)) c).set r v:=by
   simp_all[gh]
  have kA:(gh (R.take (R.length - 1)) c).length=R.length - 1:=by unfold gh;simp
  have EN:=ajg mx hc;have aar:(gh (R.take (R.length - 1)) c).getD r 0=(R.getD r []).getD c 0:=by
   unfold gh;grind
  rw[j8,tk,yv,U,Co EN,Co (OK EN ae),WG _ _ _ (by omega)];have g:=OL hR.2 (i:=c) (by omega);grind [oB]
theorem akq{n i:Nat}{p:Int->Bool}(G:i<n)(h:∀ k,k<n->p (k:Int)=decide (k=i)):(lY n).filter p=[(i:Int)]:=by
 have E:(lY n).filter p=(lY n).filter λv=>decide (v=(i:Int)):=aQf λv ae=>by
  obtain⟨k,an,rfl⟩:=List.mem_map.1 ae;rw[h k (List.mem_range.1 an)];grind
 rw[E];unfold lY;have L:(List.range n).filter ((λv=>decide (v=(i:Int))) ∘ λi:Nat=>i)=[i]:=by
  have ak:(List.range n).filter ((λv=>decide (v=(i:Int))) ∘ λi:Nat=>i)=(List.range n).filter λk=>decide (k=i):=aQf λk _=>decide_eq_decide.2 (by grind);have:∀ m,i<m->(List.range m).filter (λk=>decide (k=i))=[i]:=by
   intro m;induction m with
   | zero=>omega
   | succ m aO=>
    grind [List.range_succ,List.filter_eq_nil_iff]
  grind
 grind
def Cs(W:Nat)(R:List (z1')):Prop:=pX W R/\jN R=[]/\kO W R=[]
theorem Cs.fG{W:Nat}(h:Cs W R)(an:k<R.length):jw (R.getD k [])=false:=by
 cases bq:jw (R.getD k []) with
 | false=>rfl
 | true=>
  have:=E_.2 ⟨k,an,rfl,bq⟩;rw[h.2.1]at this;grind
theorem Cs.Js{W:Nat}(h:Cs W R)(an:k<W):kt R k=false:=by
 cases bq:kt R k with
 | false=>rfl
 | true=>
  have:=E'.2 ⟨k,an,rfl,bq⟩;rw[h.2.2]at this;grind
theorem akr(aV:0<R.length){j:Nat}(D:r<R.length)(kA:c<(R.getD r []).length)(aJ:j≠c):kt (hC R r c v) j=kt R j:=
 ajZ (by unfold hC;simp) (λk an=>by
  grind [x']) aV
theorem aGD{W:Nat}(h:Cs W R)(D:r<R.length)(hc:c<W)(ae:fc v=true)(eM:v≠(R.getD r []).getD c 0) :
  k2 W (hC R r c v)=(1,(r:Int),(c:Int))/\nP (hC R r c v) (r:Int) (c:Int)=R:=by
 have ay:=h.1;have hR:=ay.2.2.2.2 _ (zO D);have uX:=ay.fG (zO D);have hlen:(hC R r c v).length=R.length:=by unfold hC;simp
 have aGE:jN (hC R r c v)=[(r:Int)]:=by
  unfold jN;rw[hlen];refine akq D λk an=>?_;have Jq:((k:Int)).toNat=k:=rfl;rw[Jq,x' D];by_cases e:k=r
  ·subst e;rw[if_pos rfl,aPR rfl];exact Xk uX (h.fG D) (by omega) ae eM
  ·rw[if_neg λx=>e x.symm,aP5 e];exact h.fG an
 have Fc:kO W (hC R r c v)=[(c:Int)]:=by
  refine akq hc λk an=>?_;have Jq:((k:Int)).toNat=k:=rfl;rw[Jq];by_cases e:k=c
  ·subst e;rw[aPR rfl];exact Xl ay hc (h.Js hc) D ae eM
  ·rw[aP5 e,akr (by omega) D (by omega) e];exact h.Js an
 have Qr:((c:Int)).toNat=c:=rfl;have hm:nP (hC R r c v) r c=R:=by
  unfold nP;have aGF:lu ((R.getD r []).set c v):=⟨by rw[aQk];exact uX.1,by rw[aQk];exact uX.2.1,OK uX.2.2 ae⟩
  have aGG:jv ((R.getD r []).set c v) c ((R.getD r []).getD c 0)=R.getD r []:=by
   simp_all[jv]
  have aD:=OL hR.2 (i:=c) (by omega);have ax:nO ((R.getD r []).set c v) c=(R.getD r []).getD c 0:=aEr aGF (by omega) (by grind) (oB.2 aD) (by rw[aGG];exact h.fG D);simp_all[hC]
 refine⟨?_,hm⟩;unfold k2;have dx:List.getD [(r:Int)] 0 0=r:=rfl;have ec:List.getD [(c:Int)] 0 0=c:=rfl;rw[aGE,Fc,dx,ec,hm,Qr,h.Js hc];rfl
theorem aks{l:z1'}{a b:Int}(h:a≠b)(aW:a∈l)(U:b∈l):2<=l.length:=by
 match l,aW,U with
 | [],aW,_=>grind
 | [x],aW,U=>
  grind
 | _::_::_,_,_=>simp
theorem aGH{W:Nat}(h:Cs W R){jO gl:Nat}(D:r<R.length)(hc:c<W)(bj:jO<R.length)(kB:gl<W){iu:Int}(ae:fc v=true)(akt:fc iu=true)
  (eM:v≠(R.getD r []).getD c 0) (Xm:iu≠(R.getD jO []).getD gl 0) (aw:¬(r=jO/\c=gl)):(k2 W (hC (hC R r c v) jO gl iu)).1=2:=by
 have ay:=h.1;have Gm:(hC R r c v).length=R.length:=by unfold hC;simp
 have gn:jO<(hC R r c v).length:=by omega
 have hp:(hC (hC R r c v) jO gl iu).length=R.length:=by grind [hC]
 have hw:=ay.2.2.2.2 _ (zO D);have Dm:=ay.2.2.2.2 _ (zO bj);have key:2<=(jN (hC (hC R r c v) jO gl iu)).length\/2<=(kO W (hC (hC R r c v) jO gl iu)).length:=by
  by_cases e:r=jO
  ·subst e;have ur:=λx=>aw ⟨rfl,x⟩;right;refine aks     (by omega) (E'.2 ⟨c,hc,rfl,?_⟩) (E'.2 ⟨gl,kB,rfl,?_⟩)
   ·have kA:gl<((hC R r c v).getD r []).length:=by grind [x']
    rw[akr (by omega) gn kA ur];exact Xl ay hc (h.Js hc) D ae eM
   ·have bt:kt (hC (hC R r c v) r gl iu) gl=kt (hC R r gl iu) gl:=ajZ (by grind [hC]) (λk an=>by
     grind [x']) (by unfold hC;grind)
    rw[bt];exact Xl ay kB (h.Js kB) D akt Xm
  ·left;refine aks     (by omega) (E_.2 ⟨r,by omega,rfl,?_⟩) (E_.2 ⟨jO,by omega,rfl,?_⟩)
   ·rw[x' gn,if_neg λx=>e x.symm,x' D,if_pos rfl];exact Xk (ay.fG (zO D)) (h.fG D) (by omega) ae eM
   ·rw[x' gn,if_pos rfl,x' D,if_neg e];exact Xk (ay.fG (zO bj)) (h.fG bj) (by omega) akt Xm
 grind [k2]
theorem aku(l:fl)(r c:Nat)(b:UInt8):gi (cn l r c b)=hC (gi l) r c (b.toNat:Int):=by
 grind [cn,hC,List.map_set,aFt,O4]
def Fi(l:fl):Prop:=fI (fv l) l/\iU l=(0,0,0)
theorem Fi.nL{l:fl}(h:Fi l):Cs (fv l) (gi l):=by
 obtain⟨E,L⟩:=h;unfold iU at L;rcases Jj (fv l) (gi l) with⟨e,c⟩ | ⟨e,c⟩ | ⟨r,a,e,_⟩
 ·exact⟨E.nL,List.length_eq_zero_iff.1 (by omega),List.length_eq_zero_iff.1 (by omega)⟩
 ·grind
 grind
theorem akv:fc (b.toNat:Int)=fk b:=by
 grind [fc,fk]
theorem akw(l:fl)(r c:Nat):((gi l).getD r []).getD c 0=(((l.getD r []).getD c 0).toNat:Int):=by rw[O4,Ja]
theorem aGI(h:Fi l)(D:r<l.length)(hc:c<fv l)(U:fk b=true)(eM:b≠(l.getD r []).getD c 0) :
  iU (cn l r c b)=(1,(r:Int),(c:Int))/\iG (cn l r c b)=l:=by
 have ay:=O' h.1 D (c:=c) U;have hw:=ay.wide;have aE1:=ay.nL.wide;have aA:=h.nL;obtain⟨aM,aS⟩:=aGD aA (r:=r)   (by grind) hc (v:=b.toNat) (by grind [akv]) (λe=>eM (by
  grind [akw,UInt8.toNat_inj]))
 grind [aku,iU,iG,uY,WY]
theorem aGJ(h:Fi l){jO gl:Nat}(D:r<l.length)(hc:c<fv l)(bj:jO<l.length)(kB:gl<fv l){bf:UInt8}(U:fk b=true)(eg:fk bf=true)
  (eM:b≠(l.getD r []).getD c 0) (Xm:bf≠(l.getD jO []).getD gl 0) (aw:¬(r=jO/\c=gl)):uZ (cn (cn l r c b) jO gl bf)=true:=by
 have ay:=O' h.1 D (c:=c) U;have ps:=O' ay (r:=jO) (c:=gl)   (by unfold cn;grind) eg;have hw:=ps.wide;have aA:=h.nL;grind [aGH,akv,akw,UInt8.toNat_inj,aku,uZ,iU]
abbrev pa:Type:=Nat×Nat×Nat×UInt8
def Ct(B:List fl)(c:pa):z12':=(((p0 B c.1 c.2.1 c.2.2.1:Nat):Int),(c.2.2.2.toNat:Int))
def Fj(B:List fl)(c:pa):Prop:=qG B c.1 c.2.1 c.2.2.1/\fk c.2.2.2=true/\c.2.2.2≠Cr B c.1 c.2.1 c.2.2.1
def nj(B:List fl)(c:pa):List fl:=wC B c.1 c.2.1 c.2.2.1 c.2.2.2
def akx(f:List UInt8)(s:z12'):Prop:=(ks f s.1).2=true/\32<=s.2/\s.2<=126/\((f.getD s.1.toNat 0).toNat:Int)≠s.2
theorem aGK{f:List UInt8}{l:z4'}(h:(nR f l).2.2=true) :
  (∀ s∈l,akx f s)/\l.Pairwise (λa b=>a.1≠b.1)/\nR f l=(l.foldl pZ f,l.map λs=>(ks f s.1).1,true):=by
 unfold nR at h ⊢;by_cases U:(List.range l.length).any (wB f l)=true
 ·rw[if_pos U]at h;cases h
 ·rw[if_neg U];have aD:∀ i,i<l.length->wB f l i=false:=λi G=>by
   cases bq:wB f l i with
   | false=>rfl
   | true=>exact absurd (List.any_eq_true.2 ⟨i,List.mem_range.2 G,bq⟩) U
  have fz:∀ i (G:i<l.length),l.getD i (0,0)=l[i]:=λi G=>by rw[amp,ams G];rfl
  refine⟨λs ay=>?_,?_,rfl⟩
  ·obtain⟨i,G,rfl⟩:=List.mem_iff_getElem.1 ay;have:=aD i G;unfold wB at this;rw[fz i G]at this;simp only[aQg,Bool.not_eq_false',aPT]at this;obtain⟨⟨⟨⟨E,L⟩,ak⟩,aZ⟩,_⟩:=this;exact⟨E,by omega,by omega,aZ⟩
  ·rw[List.pairwise_iff_getElem];intro i j G aJ AG e;have:=aD j aJ;unfold wB at this;have:l[i]=(l.take j)[i]'(by grind):=by simp
   grind
theorem aky{B:List fl}(ay:∀ l∈B,fI (fv l) l):∀ (l:z4'),(∀ s∈l,akx (B.flatMap eI) s)->∃ cs:List pa,l=cs.map (Ct B)/\∀ c∈cs,Fj B c
 | [],_=>⟨[],rfl,by simp⟩
 | s::l,h=>by
  obtain⟨cs,e,hc⟩:=aky ay l λs ay=>h s (amr _ ay);obtain⟨E,L,ak,aZ⟩:=h s (by simp);obtain⟨p,v⟩:=s;have aj:¬(p<0\/((B.flatMap eI).length)<=p\/(B.flatMap eI).getD p.toNat 0=10):=λk=>by
   grind [ks]
  have e_:=λk=>aj (.inr (.inr k));have aGL:(B.flatMap eI)[p.toNat]?=some ((B.flatMap eI).getD p.toNat 0):=by
   grind
  obtain⟨k,r,c,aW,l8⟩:=akj e_ B p.toNat aGL;have aD:=aGw aW;rw[<-l8]at aD;rw[Xj ay aW]at l8;have aPw:(UInt8.ofNat v.toNat).toNat=v.toNat:=by simp;omega
  refine⟨(k,r,c,UInt8.ofNat v.toNat)::cs,?_,λgl kB=>?_⟩
  ·grind [Ct]
  ·rcases List.mem_cons.1 kB with rfl | kB
   ·refine⟨aW,?_,λk=>?_⟩
    ·grind [fk]
    grind
   grind
theorem akz{B:List fl}(ay:∀ l∈B,fI (fv l) l):∀ (cs:List pa) (iN:List fl),p1 B iN->(∀ c∈cs,Fj B c)->(cs.map (Ct B)).foldl pZ (iN.flatMap eI)=(cs.foldl nj iN).flatMap eI/\p1 B (cs.foldl nj iN)
 | [],iN,h,_=>⟨rfl,h⟩
 | c::cs,iN,h,aD=>by
  obtain⟨aW,b5,_⟩:=aD c (by simp);have F8:=h.at ay aW;have e:pZ (iN.flatMap eI) (Ct B c)=(nj iN c).flatMap eI:=by
   unfold pZ Ct nj;have iy:(((p0 B c.1 c.2.1 c.2.2.1):Int)).toNat=p0 B c.1 c.2.1 c.2.2.1:=rfl;rw[iy,<-h.aGC ay aW.an,<-Xj h.sh F8,aGv F8];simp
  rw[aPS,aPY,e];exact akz ay cs _ (h.put F8 b5) λc hc=>aD c (amr _ hc)
def su(k:Nat)(cs:List pa):List pa:=cs.filter λc=>decide (c.1=k)
theorem akA:∀ (cs:List pa) (B:List fl),(∀ c∈cs,c.1<B.length)->∀ k,(cs.foldl nj B).getD k []=(su k cs).foldl (λl c=>cn l c.2.1 c.2.2.1 c.2.2.2) (B.getD k [])
 | [],B,_,k=>rfl
 | c::cs,B,h,k=>by
  have ah:(nj B c).length=B.length:=by grind [nj,wC]
  have aO:=akA cs (nj B c) (λc hc=>by grind) k;grind [su,nj,wC]
theorem aGM(l:List af)(h:l.length=2):∃ a b,l=[a,b]:=by
 match l,h with
 | [a,b],_=>simp
section
variable {B:List fl} {cs:List pa}
theorem aGN(hw:∀ l∈B,Fi l)(aD:∀ c∈cs,Fj B c)(aj:cs.Pairwise λa b=>p0 B a.1 a.2.1 a.2.2.1≠p0 B b.1 b.2.1 b.2.2.1)(an:k<B.length) :
  (su k cs=[]->(cs.foldl nj B).getD k []=B.getD k [])/\
  (∀ c,su k cs=[c]->iU ((cs.foldl nj B).getD k [])=(1,(c.2.1:Int),(c.2.2.1:Int))/\iG ((cs.foldl nj B).getD k [])=B.getD k [])/\
  ((su k cs).length=2->uZ ((cs.foldl nj B).getD k [])=true):=by
 have ay:∀ l∈B,fI (fv l) l:=λl ah=>(hw l ah).1;have lS:=hw _ (x_ an);have Ka:=akA cs B (λc hc=>(aD c hc).1.an) k;have ob:∀ c∈su k cs,Fj B c/\c.1=k:=λc hc=>by
  obtain⟨E,L⟩:=List.mem_filter.1 hc;exact⟨aD c E,aP6 L⟩
 have a8:∀ c:pa,Fj B c->c.1=k->c.2.1<(B.getD k []).length/\c.2.2.1<fv (B.getD k [])/\fk c.2.2.2=true/\c.2.2.2≠((B.getD k []).getD c.2.1 []).getD c.2.2.1 0:=λc hc e=>by
  subst e;exact⟨hc.1.D,(akp ay hc.1).1,hc.2.1,hc.2.2⟩
 refine⟨λe=>?_,λc e=>?_,λe=>?_⟩
 ·grind
 ·grind [aGI]
 ·have gp:(su k cs).Pairwise λa b=>p0 B a.1 a.2.1 a.2.2.1≠p0 B b.1 b.2.1 b.2.2.1:=aj.filter _;obtain⟨c,gl,bt⟩:=aGM _ e;grind [aGJ]
end
def u0(cs:List pa):z1':=cs.map λc=>(c.1:Int)
theorem aGO(cs:List pa)(k:Nat):nN (u0 cs) (k:Int)=(su k cs).length:=by
 grind [nN,u0,su,List.filter_congr]
theorem akB(x:z1'):∀ (l:z1') (m:Nat),m<=l.foldl (λm v=>max m (nN x v)) m/\(∀ v∈l,nN x v<=l.foldl (λm v=>max m (nN x v)) m)/\(l.foldl (λm v=>max m (nN x v)) m=m\/∃ v∈l,nN x v=l.foldl (λm v=>max m (nN x v)) m)
 | [],m=>⟨amo _,by simp,.inl rfl⟩
 | a::l,m=>by
  obtain⟨E,L,ak⟩:=akB x l (max m (nN x a));grind
theorem aGP{x:z1'}(h:v ∉ x):nN x v=0:=by
 grind [nN,List.filter_eq_nil_iff]
theorem aGQ{x:z1'}{n:Nat}(h:Cn x<=n)(v:Int):nN x v<=n:=by
 by_cases ae:v∈x
 ·exact aPG ((akB x x 0).2.1 v ae) h
 grind [aGP]
structure u1(l:z2')(x:z4')(cs:List pa):Prop where
 aGR:x=cs.map (Ct ((gH l).map hT))
 qw:∀ c∈cs,Fj ((gH l).map hT) c
 aGS:cs.Pairwise λa b=>p0 ((gH l).map hT) a.1 a.2.1 a.2.2.1≠p0 ((gH l).map hT) b.1 b.2.1 b.2.2.1
 val:nR (lv l) x=((cs.foldl nj ((gH l).map hT)).flatMap eI,u0 cs,true)
 ix:p1 ((gH l).map hT) (cs.foldl nj ((gH l).map hT))
variable {l:z2'}
theorem aGT(b5:∀ t∈l,gP t){x:z4'}(h:(nR (lv l) x).2.2=true):∃ cs,u1 l x cs:=by
 obtain⟨E,L,ak⟩:=aGK h;have ay:=Jl b5;rw[Jk]at E ak;obtain⟨cs,e,aD⟩:=aky ay x E;obtain⟨f1,f2⟩:=akz ay cs _ (p1.refl ay) aD;refine⟨cs,e,aD,?_,?_,f2⟩
 ·grind [Ct]
 ·rw[Jk,ak,e];congr 2;rw[aQE];refine aPF λc hc=>?_;show (ks _ ((p0 _ c.1 c.2.1 c.2.2.1))).1=_;rw[aGB ay (aD c hc).1]
theorem akC(b5:∀ t∈l,gP t):∀ b∈(gH l).map hT,Fi b:=λb U=>⟨Jl b5 b U,akh b5 b U⟩
theorem aGU(l:List af)(h:l.length<=1):l=[]\/∃ c,l=[c]:=by
 match l,h with
 | [],_=>simp
 | [c],_=>simp
section
variable {l:z2'} {x:z4'} {cs:List pa}
theorem u1.one(h:u1 l x cs)(b5:∀ t∈l,gP t)(an:k<((gH l).map hT).length)(E:(su k cs).length<=1) :
  uZ ((cs.foldl nj ((gH l).map hT)).getD k [])=false/\iG ((cs.foldl nj ((gH l).map hT)).getD k [])=((gH l).map hT).getD k []:=by
 obtain⟨s1,s2,_⟩:=aGN (akC b5) h.qw h.aGS an;have hw:=akC b5 _ (x_ an);rcases aGU _ E with e | ⟨c,e⟩
 ·rw[s1 e];refine⟨?_,aGn b5 _ (x_ an)⟩;unfold uZ;rw[hw.2];rfl
 ·grind [uZ]
theorem u1.aGV(h:u1 l x cs):iT (nR (lv l) x).1=(true,cs.foldl nj ((gH l).map hT)):=by
 rw[h.val];exact W0 h.ix.sh
theorem aGW{X Z:List fl}(ah:X.length=Z.length)(h:∀ k,k<Z.length->iG (X.getD k [])=Z.getD k []):X.map iG=Z:=by
 have:=aFp   iG id X Z [] [] ah λk an=>h k (by omega);simp_all
theorem u1.aGX(h:u1 l x cs)(b5:∀ t∈l,gP t)(nM:l.length<=40)(E:∀ k,(su k cs).length<=1) :
  hL (nR (lv l) x).1=(l,W5 (cs.foldl nj ((gH l).map hT)),0):=by
 have hlen:=h.ix.len;have aPx:=aGW hlen λk an=>(h.one b5 an (E k)).2;have h_:¬(cs.foldl nj ((gH l).map hT)).any uZ=true:=λk=>by
  obtain⟨b,U,ao⟩:=List.any_eq_true.1 k;obtain⟨i,G,rfl⟩:=List.mem_iff_getElem.1 U;have:=(h.one b5   (by omega) (E i)).1;grind
 unfold hL;rw[h.aGV];grind [aE9]
end
end Go.Fer
namespace Go.Fer
theorem akD:∀ (l:z4') (f:List UInt8),(l.foldl pZ f).length=f.length
 | [],f=>rfl
 | s::l,f=>by
  rw[aPY,akD l];unfold pZ;rw[aQk]
theorem aGY(f:List UInt8)(l:z4'):(nR f l).1.length<=f.length:=by
 unfold nR;split
 ·exact aPK _
 ·show (l.foldl pZ f).length<=_;rw[akD];exact amo _
section
variable {l:z2'} (b5:∀ t∈l,gP t) (nM:l.length<=40)
include b5 nM
theorem aGZ:x4.sh l=mpure (lv l,0):=(bN (show l.length<2 ^ 63 by omega) _).trans (by show mpure (Ch l)=_;rw[aiT,ajN b5 nM])
variable {x:z4'}
theorem aG0(ao:x.length<=10):Jp.sh (lv l,x)=mpure (nR (lv l) x):=by
 have:=Xg b5 nM;exact bN (show (lv l).length<65536/\x.length<65536 by omega) _
theorem aG1(x:z4'):(nR (lv l) x).1.length<65536:=by
 have:=Xg b5 nM;have:=aGY (lv l) x;omega
end
theorem u1.len{l:z2'}{x:z4'}{cs:List pa}(h:u1 l x cs):cs.length=x.length:=by rw[h.aGR,aPJ]
theorem aG2{l:z2'}{x:z4'}{cs:List pa}(h:u1 l x cs)(ao:x.length<=10):E7.sh (u0 cs)=mpure (Cn (u0 cs):Int):=
 bN (show (u0 cs).length<65536 by unfold u0;rw[aPJ,h.len];omega) _
theorem aG3{x:z2'}(h:x.length<2 ^ 63):Jd.sh x=mpure (zH x):=bN (show x.length<2 ^ 63 from h) _
end Go.Fer
namespace Go.Fer
abbrev Jt:aN:=⟨.au W.zu .str,.au W.zt (.au W.zu (.int .i64)),λx=>x.2.length<65536/\((hL x.2).2.2=0->W.NY (x.1,(hL x.2).1)),λx=>if (hL x.2).2.2≠0 then ([],W.VV,(hL x.2).2.2) else W.zv x.1 (hL x.2).1⟩
theorem aG4(x):a6 (aj_ W.xY.sh o3.sh x) (Jt.sh x):=bx λh=>by
 obtain⟨d,f⟩:=x;obtain⟨E,L⟩:f.length<65536/\((hL f).2.2=0->W.NY (d,(hL f).1)):=h;unfold aj_;rw[show o3.sh f=mpure (hL f) from bN E _,aK];by_cases he:(hL f).2.2=0
 ·rw[if_neg (by rw[he];decide),show W.xY.sh (d,(hL f).1)=mpure (W.zv d (hL f).1) from bN (L he) _,aK];show mpure _=mpure (if _ then _ else _);rw[if_neg (by rw[he];decide)]
 ·rw[if_pos (aPR he)];show mpure _=mpure (if _ then _ else _);rw[if_pos he]
theorem aG5{d:bG}(aw:W.fR d){l:z2'}(b5:∀ t∈l,gP t)(nM:l.length<=40){x:z4'}{cs:List pa}(h:u1 l x cs)(E:∀ k,(su k cs).length<=1) :
  Jt.sh (d,(nR (lv l) x).1)=W.xY.sh (d,l):=by
 have D:=h.aGX b5 nM E;have aj:W.NY (d,l):=⟨aw.iL,aw.jL,by show l.length<2 ^ 63;omega,λs ay=>by have:=(b5 s ay).1;omega⟩
 refine (bN (show _/\_ from⟨aG1 b5 nM x,λ_=>by rw[D];exact aj⟩) _).trans ((bN aj _).trans ?_).symm;show mpure (W.zv d l)=mpure (if (hL (nR (lv l) x).1).2.2≠0 then _ else _);rw[D];rfl
theorem amA(x:bG×List bn×z4')(E:ij x.1.1)(L:H.mL x.1.2)(ak:x.2.1.length<2 ^ 63) :
  Xa Jd.sh W.IV.sh W.uS.sh Jo.sh x4.sh Jp.sh E7.sh W.xY.sh Jt.sh Cm.sh W.IU.sh x=mpure true:=by
 obtain⟨d,l,x⟩:=x;unfold Xa;dsimp only;rw[aG3 ak,aK,show W.IV.sh (d,l)=mpure (W.zB d l) from bN ⟨E,L,ak⟩ _,lK,aK,show W.uS.sh d=mpure (W.o8 d) from bN ⟨E,L⟩ _,lK,aK,aFA];by_cases hc:zH l=true/\W.zB d l=false/\W.o8 d=0/\x.length<=10
 ·obtain⟨aG,ax,he,ao⟩:=hc;obtain⟨b5,nM⟩:=aGp aG;have gX:=Xg b5 nM;have aw:W.fR d:=(W.aCg (l:=l) (n:=(l.length:Int)) E L (by rw[ax,he];simp)).1;rw[if_neg (by simp[aG,ax,he];omega),aGZ b5 nM,aK];dsimp only;rw[if_neg (by rw[aPO,aP2,aP2,ct];omega),aG0 b5 nM ao,aK];cases ae:(nR (lv l) x).2.2 with
  | false=>
   rw[show qY (!!false) (E7.sh (nR (lv l) x).2.1) (0:Int)=mpure 0 from rfl,aK,if_pos (by rfl),aK]
  | true=>
   obtain⟨cs,h⟩:=aGT b5 ae;have U:(nR (lv l) x).2.1=u0 cs:=by rw[h.val]
   rw[U,aG2 h ao,show qY (!!true) (mpure (Cn (u0 cs):Int)) 0=mpure (Cn (u0 cs):Int) from rfl,aK];by_cases L:Cn (u0 cs)<=1
   ·have s3:∀ k,(su k cs).length<=1:=λk=>by rw[<-aGO];exact aGQ L _
    have ah:∀ s∈l,s.length<=10000:=λs ay=>by have:=(b5 s ay).1;omega
    have ds:=W.aCh aw nM ah;have hlen:=W.aBe (W.nI d) l;have my:=W.aB1 (W.ahD aw) ah;rw[if_neg (by rw[aP9,aQo,aP2];omega),aG5 aw b5 nM h s3,ds,aK,aK];dsimp only;rw[aFB (by omega) (by omega),W.aCc my];simp[lK]
   ·rw[if_pos (by rw[aP9,aQo,aP2];omega),aK]
 ·rw[if_pos (by
   cases aG:zH l
   ·rfl
   ·cases ax:W.zB d l
    ·by_cases he:W.o8 d=0
     ·simp[aG,ax,he]at hc ⊢;omega
     ·simp[he]
    ·rfl),aK]
end Go.Fer
namespace Go.Fer.Sk
open Go.Proofs Go.Proofs.Tryz
set_option maxRecDepth 100000
noncomputable section
abbrev ab:cU:=.fg
abbrev S(a b:cU):cU:=.seq a b
abbrev cr:cU:=S ab ab
abbrev C(a b:cU):cU:=.cond a b
abbrev B(a:cU):cU:=.block a
abbrev J(s:List (Nat×cc))(b:List (Nat×b'))(x y:cU):cU:=.join ⟨s,b⟩ x y
abbrev W(s:List (Nat×cc))(b:List (Nat×b'))(x:cU):cU:=.loop ⟨s,b⟩ x
abbrev cq(s:List (Nat×cc))(b:List (Nat×b'))(t:List (Nat×cc))(c:List (Nat×b'))(u:List (Nat×cc))(d:List (Nat×b'))(x y:cU):cU:=.range ⟨s,b⟩ ⟨t,c⟩ ⟨u,d⟩ x y
abbrev X(s:List (Nat×cc))(b:List (Nat×b'))(x:cU):cU:=S ab (B (W s b x))
abbrev K(s:List (Nat×cc))(b:List (Nat×b'))(x y:cU):cU:=S ab (J s b x y)
abbrev bD(n:Nat):cc:=.eY n 0
abbrev ai:cc:=.val bU
abbrev b2:b':=.bl bU
abbrev u2:cc:=.val hI
abbrev aG6:cc:=.val e5
abbrev gg:b':=.bl e5
abbrev pb:cc:=.val kI
abbrev gA:b':=.bl kI
abbrev sv:cc:=.val HD
abbrev u3:cc:=.val HE
abbrev wD:cc:=.val L1
abbrev Xn:b':=.gx xt
abbrev eR:cc:=.val gr
abbrev Ju:b':=.bl gr
abbrev Cu:cc:=.val L2
abbrev Fk:cc:=.val L3
abbrev sw:cc:=.val HG
abbrev Cv:b':=.gx t32
abbrev nk:cc:=.val s6
abbrev sx:cc:=.val qo
abbrev akE:b':=.gx SU
abbrev Pa:b':=.gx wI
abbrev Jv:b':=.gx zU
abbrev j0:cc:=.val mr
abbrev Xo:b':=.bl abP
abbrev aG7:b':=.bl Bm
abbrev akF:b':=.gx Bm
abbrev aG8:cc:=.val abQ
abbrev Pb:b':=.bl uA
abbrev Jw:b':=.gx uA
abbrev akG:cc:=.val ra
abbrev zP:b':=.bl ra
abbrev aG9:cc:=.val mq
abbrev akH:b':=.bl mq
abbrev aG_:cc:=.val SW
abbrev Jx:b':=.gx s7
abbrev aG':b':=.bl yU
abbrev Fl:b':=.bl uz
abbrev aHa:b':=.gx uz
abbrev akI:cc:=.val ll
abbrev zQ:b':=.bl ll
abbrev mK:cc:=.val rb
abbrev aHb:cc:=.val abX
abbrev akJ:cc:=.val abY
abbrev Jy:cc:=.val DM
abbrev Fm:cc:=.val Fg
abbrev Fo:b':=.bl Fg
abbrev akK:b':=.gx SV
abbrev Xp:b':=.bl DK
abbrev akL:b':=.gx DK
abbrev Xq:cc:=.val L0
abbrev akM:b':=.bl Bl
abbrev aHc:b':=.bl DL
abbrev akN:b':=.gx DL
abbrev Xr:cc:=.val yV
abbrev akO:cc:=.val ab0
abbrev akP:cc:=.val rT
abbrev Jz:b':=.bl rT
abbrev aHd:cc:=.val ab1
abbrev Xs:cc:=.val SZ
abbrev iH:b':=.bl s8
abbrev Cw:b':=.gx s8
abbrev akQ:cc:=.val SX
abbrev akR:cc:=.val SY
abbrev aHe:cc:=.val S2
abbrev Xt:cc:=.val S3
abbrev akS:cc:=.val ab2
abbrev Fp:cc:=.val L5
abbrev JA:cc:=.val ab3
abbrev aHf:cc:=.val ab4
abbrev aHg:cc:=.val ab7
abbrev aHh:cc:=.val ab8
abbrev Fq:cc:=.val ab9
abbrev aHi:cc:=.val ab_
abbrev aHj:cc:=.val aca
abbrev aHk:cc:=.val acb
abbrev Pc:cc:=.val HJ
abbrev pR:List (Nat×cc):=[(6,bD 17),(56,.fG [30000,30001,30002,30003,30004,30005,30006,30007,30008,30009]),(57,ai)]
abbrev p2:List (Nat×cc):=[(1,bD 1)]
abbrev akT:List (Nat×cc):=[(1,bD 1),(2,bD 2),(3,bD 1),(38,ai),(39,ai)]
abbrev akU:List (Nat×cc):=[(2,bD 2),(7,bD 22),(8,bD 8),(9,bD 9),(10,.own 10),(11,bD 11),(24,sv),(25,ai),(26,ai)]
abbrev akV:List (Nat×cc):=[(2,bD 2),(3,bD 3),(4,.own 4),(5,.own 5),(7,Xr),(8,ai),(9,ai),(23,ai),(29,Xs),(30,ai),(31,ai)]
abbrev wF:List (Nat×cc):=[(1,bD 1),(3,ai)]
abbrev akW:List (Nat×cc):=[(2,bD 2),(7,bD 30),(10,ai),(11,ai),(46,ai),(47,ai),(52,u3),(53,ai),(54,ai),(61,ai),(62,ai)]
abbrev aHl:List (Nat×cc):=[(1,bD 1),(2,bD 2),(3,bD 1),(5,.kQ 22),(38,ai),(39,ai),(60,ai),(61,ai)]
abbrev akX:List (Nat×cc):=[(0,mK),(1,eR),(2,ai),(3,.il),(9,ai),(29,Cu),(30,ai),(31,ai),(1000000,.aR gr)]
abbrev akY:List (Nat×cc):=[(0,mK),(1,.own 200001),(2,sw),(3,ai),(4,.hk 100002),(16,nk),(17,ai),(18,ai)]
abbrev Xu:List (Nat×cc):=[(1,bD 1),(2,bD 2)]
abbrev akZ:List (Nat×cc):=[(2,bD 2),(3,bD 3),(4,.own 4),(5,.own 5),(7,Xr),(8,ai),(9,ai),(23,ai)]
abbrev ak0:List (Nat×cc):=[(2,bD 2),(7,bD 30),(10,ai),(46,ai),(47,ai),(52,u3),(53,ai),(54,ai)]
abbrev ak1:List (Nat×cc):=[(0,Fm),(3,bD 3),(4,.own 4),(5,.own 5),(13,Fm),(14,ai),(15,ai)]
abbrev ak2:List (Nat×cc):=[(0,.il),(2,.eL yV),(10,akR),(11,ai),(1000000,.aR (.au ll bU))]
abbrev JB:List (Nat×cc):=[(2,bD 2),(3,bD 3)]
abbrev ak3:List (Nat×cc):=[(2,ai),(6,bD 6),(8,bD 8),(9,u2),(17,akQ),(18,ai),(19,ai)]
abbrev ak4:List (Nat×cc):=[(4,bD 4),(5,bD 5),(10,.hk 24),(28,Xs),(29,ai),(30,ai)]
abbrev ak5:List (Nat×cc):=[(2,bD 2),(3,bD 3),(4,.own 4),(5,.own 5),(7,Xr),(23,ai)]
abbrev Fs:List (Nat×cc):=[(1,bD 1),(5,ai)]
abbrev ak6:List (Nat×cc):=[(0,akS),(1,ai),(2,ai),(3,ai),(9,ai),(18,eR),(19,ai),(20,ai)]
abbrev ak7:List (Nat×cc):=[(0,Fm),(3,bD 3),(4,.own 4),(5,.own 5),(40,ai),(41,ai)]
abbrev ak8:List (Nat×cc):=[(1,ai),(6,mK),(8,.own 8),(9,.own 50260),(29,ai),(30,ai)]
abbrev ak9:List (Nat×cc):=[(1,j0),(2,bD 2),(5,ai),(6,ai),(7,ai),(8,ai),(10,ai)]
abbrev Pd:List (Nat×cc):=[(1,bD 1),(3,ai),(4,ai)]
abbrev ak_:List (Nat×cc):=[(1,aHd),(4,bD 4),(5,u2),(13,Xs),(14,ai),(15,ai)]
abbrev ak':List (Nat×cc):=[(0,mK),(1,sw),(5,.own 50140),(6,ai),(16,ai),(17,ai)]
abbrev Xv:List (Nat×cc):=[(2,bD 2),(3,bD 3),(7,ai)]
abbrev lx:List (Nat×b'):=[(17,.cells HI [eR,.own 30000,.own 30001,.own 30002,.own 30003,.own 30004,.own 30005,.own 30006,.own 30007,.own 30008,.own 30009]),(30000,iH),(30001,iH),(30002,iH),(30003,iH),(30004,iH),(30005,iH),(30006,iH),(30007,iH),(30008,iH),(30009,iH),(100000,.cells uB [nk,sx,eR,nk,ai,ai,ai,ai,ai,ai,ai,sx,.own 100002]),(100002,Jz)]
abbrev wG:List (Nat×b'):=[(12,Cw),(17,.cells HI [eR,.own 30000,.own 30001,.own 30002,.own 30003,.own 30004,.own 30005,.own 30006,.own 30007,.own 30008,.own 30009]),(30000,iH),(30001,iH),(30002,iH),(30003,iH),(30004,iH),(30005,iH),(30006,iH),(30007,iH),(30008,iH),(30009,iH),(100000,.cells uB [nk,sx,eR,nk,ai,ai,ai,ai,ai,ai,ai,sx,.own 100002]),(100002,Jz)]
abbrev Pe:List (Nat×b'):=[(1,.cells t32 [.own 17,.own 22,ai,.own 27,.own 84,.own 87,.own 90,.own 93,ai]),(2,.cells t32 [.dW,.dW,ai,.dW,.dW,.dW,.dW,.dW,ai]),(17,Xp),(22,akM),(27,Xo),(84,b2),(87,aG7),(90,aG'),(93,Fl)]
abbrev ala:List (Nat×b'):=[(1,.cells t32 [.own 17,.own 22,ai,.own 27,eR,Cu,Fk,sw,ai]),(2,.cells t32 [.dW,.dW,ai,.dW,.dW,.dW,.dW,.dW,ai]),(17,Xp),(22,.h7 Bl (.own 50530)),(27,Xo),(50530,aHc)]
abbrev zR:List (Nat×b'):=[(2,Cv),(28,.mp uz bU),(30,.cells HH [sv,u3,ai,wD,eR,Cu,Fk,sw,ai,.dW,.hk 28])]
abbrev alb:List (Nat×b'):=[(1,.cells t32 [.own 17,.own 22,ai,.own 27,eR,Cu,Fk,sw,ai]),(2,.cells t32 [.dW,.dW,ai,.dW,.dW,.dW,.dW,.dW,ai]),(17,Xp),(22,akM),(27,Xo)]
abbrev alc:List (Nat×b'):=[(4,gA),(5,.cells zU [.dW,.dW,ai,.dW,.dW,.dW,.dW,.dW,ai,.dW,.dW,.dW,.dW,ai,ai,ai,ai,ai,ai,ai]),(50230,Jx)]
abbrev Ft:List (Nat×b'):=[(3,Jw),(4,b2),(5,b2),(140000,.bQ e5)]
abbrev JC:List (Nat×b'):=[(3,.cells qp [.hP 3,.own 30000]),(30000,gg)]
abbrev Fu:List (Nat×b'):=[(2,Pa),(3,.im bU),(4,b2),(5,b2)]
abbrev ald:List (Nat×b'):=[(2,Cv),(28,.mp uz bU),(30,.cells HH [sv,u3,ai,wD,eR,Cu,Fk,sw,ai,.own 109,.hk 28]),(109,Pb)]
abbrev ale:List (Nat×b'):=[(28,.mp uz bU),(30,.cells HH [sv,u3,ai,wD,eR,Cu,Fk,sw,ai,.own 109,.hk 28]),(109,Pb)]
abbrev alf:List (Nat×b'):=[(100000,.cells uB [nk,sx,eR,nk,ai,ai,ai,ai,ai,ai,ai,sx,.own 100002]),(100002,Jz)]
abbrev Xw:List (Nat×b'):=[(4,gA),(5,.cells qp [.hP 5,.own 30000]),(30000,gg)]
abbrev p3:List (Nat×b'):=[(1,Xn)]
abbrev qH:List (Nat×b'):=[(1,Pa)]
abbrev alg:List (Nat×b'):=[(2,.im xt),(22,.cells Bn [sv,u3,ai,wD,.own 61]),(61,Ju)]
abbrev alh:List (Nat×b'):=[(100010,Jw),(100011,.cells mq [aG9]),(140000,.bQ e5)]
abbrev Xx:List (Nat×b'):=[(3,b2),(50150,Fo),(140000,.bQ e5)]
abbrev Cx:List (Nat×b'):=[(2,Xn),(3,Xn)]
abbrev tE:List (Nat×b'):=[(1,Cv)]
abbrev Xy:List (Nat×b'):=[(50130,Fo),(140000,.bQ e5)]
abbrev Xz:List (Nat×b'):=[(100002,.mp bU bU),(200001,b2)]
abbrev JD:List (Nat×b'):=[(2,Pa),(3,Pa)]
abbrev JE:List (Nat×b'):=[(5,Cv),(6,Cv)]
abbrev bL:cU:=S ab (C cr ab)
abbrev eO:cU:=C ab ab
abbrev aB:cU:=S ab eO
abbrev bt:cU:=S ab (S eO (S (B cr) ab))
abbrev pc:cU:=S ab bL
abbrev cT:cU:=S ab (S eO (S (B pc) ab))
abbrev bW:cU:=S ab cr
abbrev ek:cU:=S aB (S (B bL) ab)
abbrev l1:cU:=S ab (S ab (K Xu alb (X akT alb (S ab (S eO (J akT ala (B (S ab (S ab (S (.n9 5 ab) (X aHl ala bt))))) (.K' 22 ab))))) (K Xu Pe (X [(1,bD 1),(2,bD 2),(100,ai),(101,ai)] Pe bt) (J Xu Pe (X [(1,bD 1),(2,bD 2),(119,ai),(120,ai)] Pe bt) cr))))
abbrev CR:cU:=K [(0,eR),(1,ai)] [] aB (K [(0,eR),(6,JA)] [] aB (S ab (K [(7,.own 30)] [(30,b2)] (B (W [(7,.own 30),(8,ai)] [(30,b2)] (S aB (B ab)))) cr)))
abbrev ali:cU:=S ab (K [(4,.hk 12)] [(12,.mp bU ll)] (X [(4,.hk 12),(13,sx),(14,ai),(15,ai)] [(12,.mp bU ll)] (S ab (S eO (S (B (S ab (S pc ab))) ab)))) (K [(9,.own 9)] [(9,zQ)] (X [(4,.hk 12),(9,.own 9),(39,eR),(40,ai),(41,ai)] [(9,zQ),(12,.k5 bU ll)] bt) cr))
abbrev lZ:cU:=S ab (S bL cr)
abbrev u4:cU:=S ab bW
abbrev u5:cU:=S ab u4
abbrev Cy:cU:=S aB (S (B pc) ab)
abbrev ya:cU:=B (S ab (S ab aB))
abbrev alj:cU:=S ab (K [(7,.own 7)] [(7,gg)] (X [(1,ai),(7,.own 7),(15,Jy),(16,ai),(17,ai)] [(7,gg)] bt) cr)
abbrev Fv:cU:=S ab (S ab (S bL bW))
abbrev Cz:cU:=S aB (S (B ab) ab)
abbrev wH:cU:=B (S ab aB)
abbrev Pf:cU:=S ab (S eO (S (B bW) ab))
abbrev alk:cU:=S ab (S bL (J [] [] (X [(0,eR),(1,eR),(5,ai)] [] ek) cr))
abbrev alm:cU:=K [] [] (X [(0,eR),(3,ai)] [] ek) cr
abbrev aln:cU:=X [(1,bD 1),(4,ai)] tE ek
abbrev XA:cU:=S ab (S bL (S bL cr))
abbrev Pg:cU:=S ab (S ab u5)
abbrev alo:cU:=S ab (S (S ab (B (S ab (C cr bL)))) cr)
abbrev nl:=cL.mk ⟨[(0,bD 100000),(1,.val gr)],[(100000,.gx s7)]⟩ ⟨[(0,.val kI)],[(100000,.gx s7)]⟩ [none] 2
def aHm:=mk aF5 func28 OG (S ab (K [(0,j0),(3,ai)] [] (X [(0,j0),(3,ai),(4,ai)] [] Cz) cr)) aEh
def ft:=mk aHm func6 Jd (K [(0,j0)] [] (X [(0,j0),(3,ai)] [] (S aB (J [(0,j0),(3,ai)] [] (B (S bL (X [(0,j0),(3,ai),(4,ai)] [] ek))) ab))) cr) aEi
def aHn:=mk ft func192 dv bW ayi
def aHo:=mk aHn func114 H.dv bW H.avy
def aHp:=mk aHo func113 H.y0 bW H.avC
def aHq:=mk aHp func115 H.By lZ H.avE
def aHr:=mk aHq func54 H.y2 (S ab (S bL (J p2 qH (X wF qH ek) (J p2 qH (X [(1,bD 1),(4,ai)] qH ek) (J p2 qH (X Fs qH ek) (J [] [] (X [(1,bD 1),(6,ai)] qH Cy) cr)))))) H.awb
def aHs:=mk aHr func55 H.Mu bW H.avJ
def TG:=mk aHs func22 H.jX (S ab (S bL (J [] [] (X wF qH (S aB (J wF qH (B (X Pd qH ek)) ab))) cr))) H.awd
def aHt:=mk TG func211 rl bW ayn
def aHu:=mk aHt func268 xM alm ayo
def aHv:=mk aHu func212 v8 (K p2 [(1,akN)] (X wF [(1,akN)] ek) cr) ayq
def aHw:=mk aHv func213 r7 bW ayj
def aHx:=mk aHw func269 Ez bW ayl
def aHy:=mk aHx func214 uK bW aym
def aHz:=mk aHy func144 zc (S ab (S bL (J p2 p3 (X wF p3 Cy) (J p2 p3 (X Fs p3 (S aB (J Fs p3 (B (S bL (X [(1,bD 1),(5,ai),(6,ai)] p3 ek))) ab))) (J [] [] (X [(1,bD 1),(7,ai)] p3 Cy) cr))))) ays
def aHA:=mk aHz func71 jX (S ab (S bL (J [] [] (X wF p3 (S aB (J wF p3 (B (X Pd p3 Cy)) ab))) cr))) ayu
def aHB:=mk aHA func72 dv bW azh
def aHC:=mk aHB func145 M' (K [] [] (X [(0,eR),(1,ai),(5,ai)] [] ek) cr) azl
def aHD:=mk aHC func73 Nb lZ azu
def aHE:=mk aHD func74 U2 bW azv
def aHF:=mk aHE func32 sa (S ab (S pc (S bL (J p2 tE aln (J p2 tE (X Fs tE ek) (J p2 tE (X [(1,bD 1),(6,ai)] tE ek) (J [] [] (X [(1,bD 1),(7,ai)] tE Cy) cr))))))) azw
def kX:=mk aHF func8 W.uS lZ W.aB3
def aHG:=mk kX func67 y9 (S ab (S bL (J p2 p3 (X wF p3 (S aB (J wF p3 (B (S bL (X Pd p3 ek))) ab))) (S bL (J p2 p3 (X Fs p3 ek) cr))))) azf
def aHH:=mk aHG func29 Nz (S ab (S bL (J p2 tE (X wF tE ek) (J p2 tE aln (S bL (K Fs tE (X [(1,bD 1),(5,ai),(6,ai)] tE Cz) cr)))))) aAP
def aHI:=mk aHH func30 H.y9 (S ab (S bL (S bL (K [(3,ai)] [] (X Pd qH Cz) cr)))) H.axV
def aHJ:=mk aHI func68 W.N0 (S ab (K [(3,.own 5)] [(5,gA)] (X [(0,pb),(3,.own 5),(4,ai)] [(5,gA)] (S aB (J [(0,pb),(3,.own 5),(4,ai)] [(5,gA)] (B aB) ab))) cr)) W.aB6
def aHK:=mk aHJ func69 W.NZ (S ab (S bL (K [(3,ai)] [] (X [(0,pb),(3,ai),(4,ai)] [] (S aB (S (B (S bL ab)) ab))) cr))) W.aB5
def aHL:=mk aHK func70 W.N1 (S ab u5) W.aB7
def aHM:=mk aHL func31 W.N3 (S ab (K [(3,.own 3),(5,j0)] [(3,b2)] (X [(3,.own 3),(5,j0),(6,ai)] [(3,b2)] (S aB (S (B (S ab (S bL ab))) ab))) (K [] [] (X [(3,.own 3),(5,j0),(8,j0),(9,eR),(10,eR),(11,ai)] [(3,b2)] ek) cr))) W.aB8
def h2:=mk aHM func7 W.IV (S ab (S bL (K [(1,j0),(2,bD 2),(5,ai),(6,ai),(7,ai),(8,ai)] [(2,Jv)] (X [(1,j0),(2,bD 2),(5,ai),(6,ai),(7,ai),(8,ai),(9,ai)] [(2,Jv)] Cz) (J [(2,bD 2),(5,ai),(6,ai),(7,ai),(8,ai)] [(2,Jv)] (X ak9 [(2,Jv)] (S aB (J ak9 [(2,Jv)] (B (S bL (S ab (B (S ab (C ab (S ab (C ab (S ab (C cr aB)))))))))) ab))) cr)))) W.aCf
def aHN:=mk h2 func77 (kY .str) (K [] [] (X [(0,j0),(1,aG8),(7,ai),(8,ai)] [] cT) cr) aDU
def aHO:=mk aHN func37 (h4 .str) bW aDV
def XB:=mk aHO func38 Cg bW aDY
def alp:cL:=⟨⟨[(0,.il),(1,.eL mr),(2,.eL bU),(1000000,.aR mr)],[]⟩,⟨[(1000000,.aR mr)],[]⟩,[],3,N_⟩
theorem aHP:cW Tryz.prog dT 154 alp:=ew (S:=N_) XB [] trivial func154 (X [(0,.il),(1,.eL mr),(2,.eL bU),(4,ai),(1000000,.aR mr)] [] (S aB (S wH ab))) (λx=>wK _)
theorem aHQ:ye Tryz.prog 154 ⟨[mr,bU],mr,x3⟩:=LX (c:=alp) aHP ln (λx l ab=>(l,x.1.getD [],x.2.getD 0,(l,ab,[],false),())) rfl (by decide) (by simp[hV])
 (λx l ab i ao=>by
  obtain⟨T,aT⟩:=ao;obtain⟨s,hm,ay,_⟩:=aT;subst hm;by_cases aV:i=0
  ·subst aV;exact .inr (.inr (.inl ⟨rfl,rfl⟩))
  ·by_cases E:i=1
   ·subst E;exact .inr (.inl ⟨by decide,by decide,_,_,rfl,rfl⟩)
   by_cases ak:i=2
   ·subst ak;exact .inr (.inl ⟨by decide,by decide,_,_,rfl,rfl⟩)
   by_cases L:i=ca
   ·subst L;exact .inr (.inr (.inr ⟨rfl,rfl⟩))
   ·refine .inl ?_;exact (if_neg aV).trans ((if_neg E).trans ((if_neg ak).trans (if_neg L))))
 rfl (λbk=>⟨_,_,_,_,rfl⟩) (λx l ao=>by
  obtain⟨T,aT⟩:=ao;obtain⟨s,hm,ay,_⟩:=aT;subst hm;have h:=aFC l s ay;refine⟨h.1,λbk gN et gf p fH=>?_⟩;have e:aL.aR bk.1.1 mr bk.1.2.1 bk.1.2.2.1 bk.1.2.2.2=.aR et mr gf p false:=fH;injection e with aB bt cT bW ek
  rw[<-bW];exact h.2 bk gN ek)
def XC:=nE XB (XB.u [] [(154,⟨[mr,bU],mr,x3⟩)] ⟨aHQ,trivial⟩) [] trivial func78 Oq (K JB [(2,.cells mr [j0]),(3,.cells bU [ai])] aB cr) aDR
def XD:cL:=⟨⟨[(0,bD 100001),(1,.val kI)],[(100001,.cells qp [.hP 100001,.own 100002]),(100002,.bl e5)]⟩,⟨[(0,.val bU)],[(100001,.cells qp [.hP 100001,.own 100002]),(100002,.bl e5)]⟩,[none,none],2,Ce⟩
theorem alq:cW Tryz.prog dT 79 XD:=ew XC [(155,.eu O8)] ⟨W_,trivial⟩ func79 u5 aDJ
def alr:cL:=⟨⟨[(0,bD 100000),(1,.val e5)],[(100000,.cells bU [.val bU])]⟩,⟨[],[(100000,.cells bU [.val bU])]⟩,[],2,Oc⟩
theorem aHR:cW Tryz.prog dT 217 alr:=ew XC [] trivial func217 ab aDD
def aHS:=mk XC func156 wo bW aDB
def aHT:=mk aHS func218 wo bW aDC
def als:=nE aHT ln [(217,.eu alr)] ⟨aHR,trivial⟩ func149 pU (S ab (K [(3,bD 3)] [(3,.cells bU [ai])] (X [(3,bD 3),(6,akG),(7,ai),(8,ai)] [(3,.cells bU [ai])] bt) cr)) aDE
def alu:cL:=⟨⟨[(0,.own 200001),(1,.val bU),(2,.val bU)],[(200001,.bl ra)]⟩,⟨[(0,.own 7)],[(7,.bl e5),(200001,.bl ra)]⟩,[none],3,Og⟩
theorem aHU:cW Tryz.prog dT 150 alu:=ew als [] trivial func150 (S ab (K [(7,.own 7)] [(7,gg),(200001,zP)] (X [(1,ai),(7,.own 7),(15,.sub 200001),(16,ai),(17,ai)] [(7,gg),(200001,zP)] bt) cr)) aDO
def Ph:=nE als ln [(150,.eu alu)] ⟨aHU,trivial⟩ func80 I8 (S ab (S ab (K [(0,j0),(3,.own 3),(4,ai)] [(3,zP)] (X [(0,j0),(3,.own 3),(4,ai),(12,j0),(13,ai),(14,ai)] [(3,zP)] bt) (J [(3,.own 3),(4,ai)] [(3,zP)] (X [(3,.own 3),(4,ai),(23,j0),(24,ai),(25,ai)] [(3,zP)] Pf) (K [(3,.own 3),(10,.own 10)] [(3,zP),(10,gg)] (X [(3,.own 3),(10,.own 10),(51,ai),(52,ai)] [(3,zP),(10,gg)] bt) cr))))) aDQ
def Pj:cL:=⟨⟨[(0,bD 100001)],[(100001,.cells qp [.hP 100001,.own 100002]),(100002,.bl e5)]⟩,⟨[(0,.val kI)],[(100001,.cells qp [.hP 100001,.undef])]⟩,[none],1,zD⟩
theorem XE:cW Tryz.prog dT 82 Pj:=ew Ph [] trivial func82 bW aDK
def alv:cL:=⟨⟨[(0,bD 100001),(1,.val ra)],[(100001,.cells qp [.hP 100001,.own 100002]),(100002,.bl e5)]⟩,⟨[(0,.val bU)],[(100001,.cells qp [.hP 100001,.own 100002]),(100002,.bl e5)]⟩,[none,none],2,Oe⟩
theorem aHV:cW Tryz.prog dT 158 alv:=ew Ph [(155,.eu O8)] ⟨W_,trivial⟩ func158 u5 aDI
def alw:cL:=⟨⟨[(0,bD 100001),(1,.val e5)],[(100001,.cells qp [.hP 100001,.own 100002]),(100002,.bl e5)]⟩,⟨[],[(100001,.cells qp [.hP 100001,.own 100002]),(100002,.bl e5)]⟩,[none],2,I5⟩
theorem aHW:cW Tryz.prog dT 159 alw:=ew Ph [(155,.eu O8)] ⟨W_,trivial⟩ func159 u5 aDH
def aHX:=nE Ph ln [(82,.eu Pj),(158,.eu alv),(159,.eu alw)] ⟨XE,aHV,aHW,trivial⟩ func81 sk (K [(0,Jy),(3,bD 3)] JC ab (J [(3,bD 3)] JC (X [(3,bD 3),(6,Jy),(7,ai),(8,ai)] JC Pf) bW)) aDL
def aHY:=nE aHX ln [(79,.eu XD),(82,.eu Pj)] ⟨alq,XE,trivial⟩ func40 Ou (K [(0,j0),(3,bD 3)] JC ab (S (S ab (B (cq [(3,bD 3)] JC [(3,bD 100003),(7,j0)] [(100003,.cells qp [.hP 100003,.own 130000]),(130000,gg)] [] [(100003,.cells qp [.hP 100003,.own 130000]),(130000,gg)] ab (B ab)))) cr)) aDT
def mD:=nD aHY [] func10 x4 XA aDZ
def Bs:=mk mD func15 Cm (S ab (S bL (J [] [] (X [(0,j0),(1,j0),(5,ai)] [] ek) cr))) aEg
def aHZ:=lo Bs [] func147 wz 1 bW aEO (hc:=λx h=>by obtain⟨w,hw⟩:=h;exact uC ⟨trivial,s9 hw⟩)
def aH0:=mk aHZ func216 (kY (.slice (.int .u8))) (K [] [] (X [(0,Jy),(1,aHe),(7,ai),(8,ai)] [] cT) cr) aDW
def aH1:=mk aH0 func148 (h4 (.slice (.int .u8))) bW aDX
def aH2:=mk aH1 func190 Of (S ab (K [(3,.own 3)] [(3,gA)] (X [(3,.own 3),(11,Jy),(12,ai),(13,ai)] [(3,gA)] Pf) cr)) aDN
def aH3:=nE aH2 ln [(79,.eu XD),(82,.eu Pj)] ⟨alq,XE,trivial⟩ func109 x9 (S ab (K [(0,akJ),(4,.own 4),(5,bD 5)] Xw ab (J [(4,.own 4),(5,bD 5)] Xw (X [(4,.own 4),(5,bD 5),(10,akJ),(11,ai),(12,ai)] Xw Pf) bW))) aFa
def tF:=mk aH3 func150 x1 alj aDF
def aH4:cL:=⟨⟨[(0,.val DM),(1,.val bU),(2,.val bU)],[]⟩,⟨[(0,.own 7)],[(7,.bl e5)]⟩,[none],3,aj4⟩
theorem aH5:cW Tryz.prog dT 150 aH4:=ew tF [] trivial func150 alj aFE
theorem aH6:FG Tryz.prog 150 (.au DM (.au cX cX)) ra x1.sh:=(aC9 (ts:=(.au DM (.au cX cX))) (e:=e5) (by decide) rfl aH5 ln (b0:=7) (λx=>(x.1,x.2.1,x.2.2,())) (λx=>rfl) rfl (by decide) rfl (λbk=>bk.1) (λbk=>⟨rfl,rfl⟩) (λx h=>⟨h,λbk aG=>congrArg (λz=>z.1) aG⟩)).2
def zS:dV:={tK:=λ_=>none,tL:=λk=>if k=147 then some ⟨[ra],[bU],hI,wz.sh⟩ else none,z_:=λk=>if k=81 then some ⟨(.slice mq),e5,kI,sk.pre,sk.g,false⟩ else if k=109 then some ⟨(.slice (.slice mq)),e5,(.au mr hI),x9.pre,x9.g,false⟩ else if k=148 then some ⟨(.au (.slice mq) S2),e5,hI,(h4 (.slice (.int .u8))).pre,(h4 (.slice (.int .u8))).g,false⟩ else if k=149 then some ⟨mq,e5,e5,pU.pre,pU.g,false⟩ else if k=150 then some ⟨(.au (.slice mq) (.au bU bU)),e5,ra,x1.pre,x1.g,true⟩ else none}
theorem alx:qI Tryz.prog zS where
 tK:=by
  intro k v h;cases h
 tL:=by
  intro k v h;simp only[zS]at h;split at h
  ·cases h;subst_vars;exact⟨rfl,(tF.ok (147,wz.dI) (uE (by kernel_rfl))).1⟩
  cases h
 z_:=by
  intro k v h;simp only[zS]at h;split at h
  ·cases h;subst_vars;exact⟨(tF.ok (81,sk.dI) (uE (by kernel_rfl))).1,λh=>by cases h⟩
  split at h
  ·cases h;subst_vars;exact⟨(tF.ok (109,x9.dI) (uE (by kernel_rfl))).1,λh=>by cases h⟩
  split at h
  ·cases h;subst_vars;exact⟨(tF.ok (148,(h4 (.slice (.int .u8))).dI) (uE (by kernel_rfl))).1,λh=>by cases h⟩
  split at h
  ·cases h;subst_vars;exact⟨(tF.ok (149,pU.dI) (uE (by kernel_rfl))).1,λh=>by cases h⟩
  split at h
  ·cases h;subst_vars;exact⟨(tF.ok (150,x1.dI) (uE (by kernel_rfl))).1,λ_=>aH6⟩
  cases h
def XF:cL:=⟨⟨[(0,.val kI)],[(140000,.bQ e5)]⟩,⟨[(0,.own 50140),(1,.val hI)],[(50140,.bl Fg),(140000,.bQ e5)]⟩,[none,none],1,O3⟩
theorem aly:cW Tryz.prog zS 75 XF:=W' tF [(107,.dI O1.dI)] ⟨⟨aF0,λ_ _=>rW⟩,trivial⟩ func75 (S ab (K [(4,.own 4)] [(4,Fo),(140000,.bQ e5)] (B (W [(0,pb),(4,.own 4)] [(4,Fo),(140000,.bQ e5)] (S aB (B (S ab (S bL (K [(4,.own 4),(6,pb),(8,.own 8)] [(4,Fo),(8,akH),(140000,.bQ e5)] (X [(4,.own 4),(6,pb),(8,.own 8),(24,j0),(25,ai),(26,ai)] [(4,Fo),(8,akH),(140000,.bQ e5)] bt) (S ab (S ab (S bL ab)))))))))) cr)) aEP
def alz:cL:=⟨⟨[(0,.val e5),(1,bD 100011),(2,bD 100010)],[(100010,.gx uA),(100011,.cells mq [.val mq]),(140000,.bQ e5)]⟩,⟨[(0,.val hI)],[(100010,.gx uA),(100011,.cells mq [.val mq]),(140000,.bQ e5)]⟩,[none],3,OJ⟩
theorem aH7:cW Tryz.prog zS 153 alz:=W' tF [] trivial func153 u5 aEo
def alA:cL:=⟨⟨[(0,.val ra),(1,.ji 153 [(100011,0),(100010,0)])],[(100010,.gx uA),(100011,.cells mq [.val mq]),(140000,.bQ e5)]⟩,⟨[(0,.val bU)],[(100010,.gx uA),(100011,.cells mq [.val mq]),(140000,.bQ e5)]⟩,[none],2,OO⟩
theorem aH8:cW Tryz.prog zS 219 alA:=ew tF [(153,.eu alz)] ⟨aH7,trivial⟩ func219 (K [] alh (X [(0,akG),(1,.ji 153 [(100011,0),(100010,0)]),(7,ai),(8,ai)] alh cT) cr) aEs
def alB:cL:=⟨⟨[(0,.val ra),(1,.ji 153 [(100011,0),(100010,0)])],[(100010,.gx uA),(100011,.cells mq [.val mq]),(140000,.bQ e5)]⟩,⟨[(0,.val hI)],[(100010,.gx uA),(100011,.cells mq [.val mq]),(140000,.bQ e5)]⟩,[none],2,OP⟩
theorem aH9:cW Tryz.prog zS 151 alB:=ew tF [(219,.eu alA)] ⟨aH8,trivial⟩ func151 bW aEv
def alC:=mk tF func152 I4 (S ab (K [(1,.own 1)] [(1,gg)] (X [(1,.own 1),(2,aG6)] [(1,gg)] Cz) cr)) aDG
def XG:cL:=⟨⟨[(0,.val Fg)],[(140000,.bQ e5)]⟩,⟨[(0,.val bU),(1,.val uA)],[(140000,.bQ e5)]⟩,[none,none],1,zM⟩
theorem alD:cW Tryz.prog zS 76 XG:=W' alC [(151,.eu alB)] ⟨aH9,trivial⟩ func76 (S ab (K [(0,Fm),(3,bD 3),(4,.own 4),(5,.own 5)] Ft (X ak1 Ft (S ab (S eO (J ak1 Ft ya ab)))) (J [(0,Fm),(3,bD 3),(4,.own 4),(5,.own 5)] Ft (X ak7 Ft (S ab (S eO (J ak7 Ft wH ab)))) (S bL (S bL (S ab (S ab (S ab (S (S ab (C bW ab)) cr))))))))) aEx
def aH_:=aj9 alC alx [(75,.eu XF),(76,.eu XG)] ⟨aly,alD,trivial⟩ func46 o3 (S ab (S ab (S bL (K [(3,.own 3),(5,.own 50150)] Xx (X [(3,.own 3),(5,.own 50150),(7,ai),(20,.own 50150),(21,ai),(22,ai)] Xx (S ab (S eO (S (B (S ab (K [(3,.own 3),(5,.own 50150),(7,ai),(9,Fm),(10,ai),(20,.own 50150),(21,ai),(22,ai)] Xx (S ab (S ab (B (S ab (C cr aB))))) cr))) ab)))) lZ)))) Uj
def aH':=mk aH_ func33 O6 (S ab (K [(2,j0),(3,.own 3),(4,ai)] [(3,b2)] (X [(2,j0),(3,.own 3),(4,ai),(14,eR),(15,ai),(16,ai)] [(3,b2)] (S ab (S eO (J [(2,j0),(3,.own 3),(4,ai),(14,eR),(15,ai),(16,ai)] [(3,b2)] wH ab)))) cr)) aFl
def aIa:=mk aH' func34 O7 u4 aFm
def aIb:=aj9 aIa alx [(75,.eu XF),(76,.eu XG)] ⟨aly,alD,trivial⟩ func35 OC (S ab (S ab (S bL (J [(3,ai),(5,.own 50130)] Xy (X [(3,ai),(5,.own 50130),(18,.own 50130),(19,ai),(20,ai)] Xy (S ab (S eO (J [(3,ai),(5,.own 50130),(18,.own 50130),(19,ai),(20,ai)] Xy ya ab)))) cr)))) aFo
def aIc:=mk aIb func36 OE alk aEf
def mh:=mk aIc func9 Jo Pg aFz
def aId:=mk mh func41 OH (S ab (S bL (K [(6,ai)] [] (X [(0,pb),(1,ai),(6,ai),(7,ai)] [] (S aB (J [(0,pb),(1,ai),(6,ai),(7,ai)] [] (B aB) ab))) cr))) aEm
def jc:=mk aId func11 Jp (S ab (K [(4,pb),(5,.own 5)] [(5,b2)] (X [(0,pb),(1,nk),(4,pb),(5,.own 5),(7,ai)] [(5,b2)] (S aB (J [(0,pb),(1,nk),(4,pb),(5,.own 5),(7,ai)] [(5,b2)] (B (S ab (S bL (J [(0,pb),(1,nk),(4,pb),(5,.own 5),(7,ai),(8,ai)] [(5,b2)] (X [(0,pb),(1,nk),(4,pb),(5,.own 5),(7,ai),(8,ai),(10,ai)] [(5,b2)] ek) cr)))) ab))) cr)) aGb
def oi:=mk jc func12 E7 (S ab (K [(3,ai)] [] (X [(0,eR),(3,ai),(4,ai)] [] (S aB (J [(0,eR),(3,ai),(4,ai)] [] (B (K [(0,eR),(3,ai),(4,ai),(5,ai)] [] (X [(0,eR),(3,ai),(4,ai),(5,ai),(6,ai)] [] (S aB (J [(0,eR),(3,ai),(4,ai),(5,ai),(6,ai)] [] (B aB) ab))) ab)) ab))) cr)) aEk
def aIe:=mk oi func342 (kY lT) (K [] [] (X [(0,wD),(1,aHi),(7,ai),(8,ai)] [] cT) cr) (tf lT)
def aIf:=mk aIe func313 (h4 lT) bW (tg lT)
def aIg:=lo aIf [] func314 (zg lT) 1 bW (Im lT)
def aIh:=nD aIg [(314,1)] func263 (ls lT) bW (Io lT)
def aIi:=mk aIh func264 dv bW ayD
def aIj:=mk aIi func274 BL bW ayF
def aIk:=mk aIj func275 rl bW ayE
def aIl:=mk aIk func273 M2 bW ayM
def aIm:=mk aIl func284 (kY bH) (K [] [] (X [(0,eR),(1,akO),(7,ai),(8,ai)] [] cT) cr) (tf bH)
def aIn:=mk aIm func233 (h4 bH) bW (tg bH)
def aIo:=lo aIn [] func320 (zg bH) 1 bW (Im bH)
def aIp:=nD aIo [(320,1)] func277 (ls bH) bW (Io bH)
def aIq:=mk aIp func278 xM alm ayI
def aIr:=nD aIq [] func276 v8 bW ayN
def aIs:=mk aIr func345 (kY tm) (K [] [] (X [(0,Xq),(1,aHf),(7,ai),(8,ai)] [] cT) cr) (tf tm)
def aIt:=mk aIs func321 (h4 tm) bW (tg tm)
def aIu:=lo aIt [] func322 (zg tm) 1 bW (Im tm)
def aIv:=nD aIu [(322,1)] func280 (ls tm) bW (Io tm)
def aIw:=lo aIv [] func279 EE 1 bW ayO
def aIx:=mk aIw func206 r7 bW ayG
def aIy:=mk aIx func207 uK bW ayH
def aIz:=lo aIy [] func281 EF 1 bW ayP
def aIA:=mk aIz func346 (kY mF) (K [] [] (X [(0,sv),(1,aHj),(7,ai),(8,ai)] [] cT) cr) (tf mF)
def aIB:=mk aIA func323 (h4 mF) bW (tg mF)
def aIC:=lo aIB [] func324 (zg mF) 1 bW (Im mF)
def aID:=nD aIC [(324,1)] func282 (ls mF) bW (Io mF)
def aIE:=mk aID func347 (kY nc) (K [] [] (X [(0,u3),(1,aHk),(7,ai),(8,ai)] [] cT) cr) (tf nc)
def aIF:=mk aIE func325 (h4 nc) bW (tg nc)
def aIG:=lo aIF [] func326 (zg nc) 1 bW (Im nc)
def aIH:=nD aIG [(326,1)] func283 (ls nc) bW (Io nc)
def aII:=nD aIH [(279,1),(281,1)] func224 zc Pg ayQ
def aIJ:=mk aII func160 jX (S ab (S bL (K [] [] (X [(3,.hk 12),(14,wD),(15,ai),(16,ai)] [(12,.mp uz bU)] (S ab (S eO (S (B (S ab (S ab (S pc ab)))) ab)))) cr))) ayU
def aIK:=mk aIJ func210 dv bW azg
def aIL:=mk aIK func226 uN bW azi
def aIM:=mk aIL func227 M_ (K [] [] (X [(0,eR),(1,akO),(7,eR),(8,ai),(9,ai)] [] cT) cr) azk
def aIN:=lo aIM [] func228 U0 1 bW azn (hc:=λx h=>by obtain⟨w,p,ax,_⟩:=h;exact uC ⟨⟨trivial,s9 (congrArg (λo=>o.1) ax)⟩,s9 (congrArg (λo=>o.2) ax)⟩)
def aIO:=lo aIN [(228,1)] func225 Is 1 bW azo (hc:=λx h=>by obtain⟨_,w,ax,_⟩:=h;exact uC ⟨trivial,s9 ax⟩)
def aIP:=mk aIO func230 uN bW azj
def aIQ:=nD aIP [] func229 It bW azp
def aIR:=lo aIQ [] func231 Iu 1 bW azq (hc:=λx h=>by obtain⟨w,ax,_⟩:=h;exact uC ⟨trivial,s9 ax⟩)
def aIS:=mk aIR func232 Iv bW azr
def aIT:=mk aIS func285 (kY pO) (K [] [] (X [(0,Cu),(1,aHg),(7,ai),(8,ai)] [] cT) cr) (tf pO)
def aIU:=mk aIT func234 (h4 pO) bW (tg pO)
def aIV:=mk aIU func286 (kY pP) (K [] [] (X [(0,Fk),(1,aHb),(7,ai),(8,ai)] [] cT) cr) (tf pP)
def aIW:=mk aIV func235 (h4 pP) bW (tg pP)
def aIX:=mk aIW func287 (kY r') (K [] [] (X [(0,sw),(1,aHh),(7,ai),(8,ai)] [] cT) cr) (tf r')
def aIY:=mk aIX func236 (h4 r') bW (tg r')
def aIZ:=nD aIY [(225,1),(231,1)] func161 U1 (S ab Pg) azs
def aI0:=mk aIZ func83 sa (S ab (S pc (S bL cr))) azt
def aI1:=mk aI0 func124 H.dv bW H.avz
def aI2:=mk aI1 func257 (H.kY H.ja) (K [] [] (X [(0,sx),(1,Xt),(7,ai),(8,ai)] [] cT) cr) H.avK
def aI3:=mk aI2 func202 (H.h4 H.ja) bW H.avL
def aI4:=mk aI3 func237 H.y0 (K p2 [(1,akE)] (X [(1,bD 1),(13,.own 13),(14,ai),(15,ai)] [(1,akE),(13,b2)] cT) cr) H.avD
def aI5:=mk aI4 func118 H.D2 bW H.avB
def aI6:=mk aI5 func239 H.By u4 H.avF
def aI7:=lo aI6 [] func238 H.HV 1 bW H.avG
def aI8:=mk aI7 func240 H.D3 bW H.avH
def XH:=nD aI8 [(238,1)] func162 H.y2 (S ab (S bL (J p2 qH (X [(1,bD 1),(38,nk),(39,ai),(40,ai)] qH cT) (J p2 qH (X [(1,bD 1),(57,nk),(58,ai),(59,ai)] qH cT) u4)))) H.awc
def alE:cL:=⟨⟨[(0,.dW),(1,.val S0)],[]⟩,⟨[(0,.own 50000)],[(50000,.bl bU)]⟩,[none],2,H.D8⟩
theorem aI9:cW Tryz.prog dT 260 alE:=ew XH [] trivial func260 (S ab (S (S ab (B (cq [(2,bD 2)] [(2,.cells gr [.own 50000]),(50000,b2)] [(2,bD 100002),(7,ai)] [(100002,.cells gr [.own 150000]),(150000,b2)] [] [(100002,.cells gr [.own 150000]),(150000,b2)] ab (B ab)))) cr)) H.av7
def alF:cL:=⟨⟨[(0,.val S0)],[]⟩,⟨[(0,.own 50040)],[(50040,.bl bU)]⟩,[none],1,H.D8⟩
theorem aI_:cW Tryz.prog dT 199 alF:=ew XH [(260,.eu alE)] ⟨aI9,trivial⟩ func199 bW H.av8
def XI:=nE XH ln [(166,.eu Wb),(199,.eu alF)] ⟨ah7,aI_,trivial⟩ func127 H.vN u5 H.av9
def alG:cL:=⟨⟨[(0,.il),(1,.eL L6),(1000000,.aR bU)],[]⟩,⟨[(1000000,.aR bU)],[]⟩,[],2,H.TO⟩
theorem aI':cW Tryz.prog dT 288 alG:=ew (S:=H.TO) XI [] trivial func288 (X [(0,.il),(5,.l2 5),(1000000,.aR bU)] [(5,.cE bU ll)] (S ab (S eO wH))) (λx=>wK _)
theorem aJa:ye Tryz.prog 288 ⟨[L6],bU,H.lM⟩:=LX (c:=alG) aI' ln (λx l ab=>(l,x.getD [],(l,ab,[],false),())) rfl (by decide) (by simp[hV])
 (λx l ab i ao=>by
  obtain⟨T,aT⟩:=ao;obtain⟨m,hm,_⟩:=aT;subst hm;by_cases aV:i=0
  ·subst aV;exact .inr (.inr (.inl ⟨rfl,rfl⟩))
  ·by_cases E:i=1
   ·subst E;exact .inr (.inl ⟨by decide,by decide,_,_,rfl,rfl⟩)
   by_cases L:i=ca
   ·subst L;exact .inr (.inr (.inr ⟨rfl,rfl⟩))
   ·refine .inl ?_;exact (if_neg aV).trans ((if_neg E).trans (if_neg L)))
 rfl (λbk=>⟨_,_,_,_,rfl⟩) (λx l ao=>by
  obtain⟨T,aT⟩:=ao;obtain⟨m,hm,_⟩:=aT;subst hm;have h:=H.aw7 l m;refine⟨h.1,λbk gN et gf p fH=>?_⟩;have e:aL.aR bk.1.1 bU bk.1.2.1 bk.1.2.2.1 bk.1.2.2.2=.aR et bU gf p false:=fH;injection e with aB bt cT bW ek
  rw[<-bW];exact h.2 bk gN ek)
def aJb:=nE XI (XI.u [] [(288,⟨[L6],bU,H.lM⟩)] ⟨aJa,trivial⟩) [] trivial func241 H.D_ bW H.awa
def aJc:=mk aJb func163 H.Ee ali H.awl
def aJd:=mk aJc func84 H.jX (S ab (S bL (S pc cr))) H.awn
def aJe:=mk aJd func42 W.uS lZ W.aBX
def XJ:=nE aJe ln [(242,.eu ah9)] ⟨aC2,trivial⟩ func164 H.ND (S ab (K [(0,Fq),(3,ai)] [] (X [(0,Fq),(3,ai),(9,Fq),(10,ai),(11,ai)] [] (S ab (S eO (J [(0,Fq),(3,ai),(9,Fq),(10,ai),(11,ai)] [] ya ab)))) (K [(6,.own 50240)] [(50240,zQ)] (X [(6,.own 50240),(25,Fq),(26,ai),(27,ai)] [(50240,zQ)] bt) cr))) H.aAW
def alH:cL:=⟨⟨[(0,.val L5)],[]⟩,⟨[(0,.own 50240)],[(50240,.bl cX)]⟩,[none],1,H.NF⟩
theorem aJf:cW Tryz.prog dT 165 alH:=ew XJ [(243,.eu ah8)] ⟨aC1,trivial⟩ func165 (S ab (K [(0,Fp),(3,ai)] [] (X [(0,Fp),(3,ai),(9,Fp),(10,ai),(11,ai)] [] (S ab (S eO (J [(0,Fp),(3,ai),(9,Fp),(10,ai),(11,ai)] [] ya ab)))) (K [(6,.own 50240)] [(50240,b2)] (X [(6,.own 50240),(25,Fp),(26,ai),(27,ai)] [(50240,b2)] bt) cr))) H.aAX
def alI:cL:=⟨⟨[(0,.own 200001)],[(200001,.bl cX)]⟩,⟨[(0,.sub 200001)],[(200001,.bl cX)]⟩,[none],1,H.NG⟩
theorem aJg:cW Tryz.prog dT 167 alI:=ew XJ [] trivial func167 (S ab (S bL (J [(0,.own 200001)] [(200001,b2)] (X [(0,.own 200001),(3,ai)] [(200001,b2)] (S aB (J [(0,.own 200001),(3,ai)] [(200001,b2)] (B (S ab (C (K [(0,.own 200001),(3,ai)] [(200001,b2)] (X [(0,.own 200001),(3,ai),(4,.sub 200001),(5,ai)] [(200001,b2)] (S aB (J [(0,.own 200001),(3,ai),(4,.sub 200001),(5,ai)] [(200001,b2)] (B bL) ab))) bW) ab))) ab))) cr))) H.aA3
def aJh:=mk XJ func168 H.IJ lZ H.aA_
def yb:=nE aJh ln [(165,.eu alH),(166,.eu Wb),(167,.eu alI)] ⟨aJf,ah7,aJg,trivial⟩ func85 H.ET (S ab (S pc (S ab (S ab (S pc (S ab (S bL (S ab Fv)))))))) H.aBa
def aJi:cL:=⟨⟨[(0,.val HD)],[]⟩,⟨[(0,.own 60)],[(60,.bl DK)]⟩,[none],1,W.tA⟩
theorem aJj:cW Tryz.prog dT 169 aJi:=ew yb [] trivial func169 lZ W.zx
abbrev XK:gq:=.mB (jH.mB (W.hM mF).dI)
theorem alJ:gq.j1 Tryz.prog dT 169 XK:=Ca (sh:=(W.hM mF).sh) aJj (λx h=>⟨h,λbk gN=>by have h:bk=_:=gN;subst h;exact (iE).symm⟩)
def aJk:cL:=⟨⟨[(0,.val HE)],[]⟩,⟨[(0,.own 60)],[(60,.bl Bl)]⟩,[none],1,W.tA⟩
theorem aJl:cW Tryz.prog dT 170 aJk:=ew yb [] trivial func170 lZ W.zx
abbrev XL:gq:=.mB (jH.mB (W.hM nc).dI)
theorem alK:gq.j1 Tryz.prog dT 170 XL:=Ca (sh:=(W.hM nc).sh) aJl (λx h=>⟨h,λbk gN=>by have h:bk=_:=gN;subst h;exact (iE).symm⟩)
def aJm:cL:=⟨⟨[(0,.val L1)],[]⟩,⟨[(0,.own 60)],[(60,.bl HF)]⟩,[none],1,W.tA⟩
theorem aJn:cW Tryz.prog dT 171 aJm:=ew yb [] trivial func171 lZ W.zx
abbrev XM:gq:=.mB (jH.mB (W.hM lT).dI)
theorem alL:gq.j1 Tryz.prog dT 171 XM:=Ca (sh:=(W.hM lT).sh) aJn (λx h=>⟨h,λbk gN=>by have h:bk=_:=gN;subst h;exact (iE).symm⟩)
def XN:cL:=⟨⟨[(0,.val L0)],[]⟩,⟨[(0,.own 60)],[(60,.bl DL)]⟩,[none],1,W.tA⟩
theorem alM:cW Tryz.prog dT 172 XN:=ew yb [] trivial func172 lZ W.zx
def alN:cL:=⟨⟨[(0,.val gr)],[]⟩,⟨[(0,.own 60)],[(60,.bl cX)]⟩,[none],1,W.NN⟩
theorem alO:cW Tryz.prog dT 173 alN:=ew yb [] trivial func173 lZ W.aBE
abbrev XO:gq:=.mB (jH.mB H.vM.dI)
theorem alP:gq.j1 Tryz.prog dT 173 XO:=Ca (sh:=H.vM.sh) alO (λx h=>⟨h,λbk gN=>by have h:bk=_:=gN;subst h;exact (iE).symm⟩)
def aJo:cL:=⟨⟨[(0,.val L2)],[]⟩,⟨[(0,.own 60)],[(60,.bl Bm)]⟩,[none],1,W.tA⟩
theorem aJp:cW Tryz.prog dT 174 aJo:=ew yb [] trivial func174 lZ W.zx
abbrev XP:gq:=.mB (jH.mB (W.hM pO).dI)
theorem alQ:gq.j1 Tryz.prog dT 174 XP:=Ca (sh:=(W.hM pO).sh) aJp (λx h=>⟨h,λbk gN=>by have h:bk=_:=gN;subst h;exact (iE).symm⟩)
def aJq:cL:=⟨⟨[(0,.val L3)],[]⟩,⟨[(0,.own 60)],[(60,.bl yU)]⟩,[none],1,W.tA⟩
theorem aJr:cW Tryz.prog dT 175 aJq:=ew yb [] trivial func175 lZ W.zx
abbrev Pk:gq:=.mB (jH.mB (W.hM pP).dI)
theorem XQ:gq.j1 Tryz.prog dT 175 Pk:=Ca (sh:=(W.hM pP).sh) aJr (λx h=>⟨h,λbk gN=>by have h:bk=_:=gN;subst h;exact (iE).symm⟩)
def aJs:cL:=⟨⟨[(0,.val HG)],[]⟩,⟨[(0,.own 60)],[(60,.bl uz)]⟩,[none],1,W.tA⟩
theorem aJt:cW Tryz.prog dT 176 aJs:=ew yb [] trivial func176 lZ W.zx
abbrev XR:gq:=.mB (jH.mB (W.hM r').dI)
theorem alR:gq.j1 Tryz.prog dT 176 XR:=Ca (sh:=(W.hM r').sh) aJt (λx h=>⟨h,λbk gN=>by have h:bk=_:=gN;subst h;exact (iE).symm⟩)
def alS:=nE yb ln [(169,XK),(170,XL),(171,XM),(172,.eu XN),(173,XO),(174,XP),(175,Pk),(176,XR)] ⟨alJ,alK,alL,alM,alP,alQ,XQ,alR,trivial⟩ func86 W.NQ l1 W.aBH
def alT:cL:=⟨⟨[(0,.val zU)],[]⟩,⟨[(0,bD 17)],[(17,.gx s7)]⟩,[none],1,W.xI⟩
theorem aJu:cW Tryz.prog dT 43 alT:=ew alS [] trivial func43 u4 W.Uh
def JF:=mk alS func44 W.NV bW W.aBT
def Pl:cL:=⟨⟨[(0,bD 100000),(1,.val qo),(2,.val gr)],[(100000,.gx s7)]⟩,⟨[(0,.val kI)],[(100000,.gx s7)]⟩,[none],3,W.EY⟩
theorem XS:cW Tryz.prog dT 177 Pl:=ew JF [] trivial func177 Fv W.aBl
def XT:cL:=nl (W.gO 5 W.VB)
theorem aJv:cW Tryz.prog dT 87 XT:=ew JF [(177,.eu Pl)] ⟨XS,trivial⟩ func87 bW W.aBm
def aJw:cL:=nl (W.gO 4 W.VC)
theorem aJx:cW Tryz.prog dT 88 aJw:=ew JF [(177,.eu Pl)] ⟨XS,trivial⟩ func88 bW W.aBn
def aJy:cL:=nl (W.gO 1 W.VD)
theorem aJz:cW Tryz.prog dT 89 aJy:=ew JF [(177,.eu Pl)] ⟨XS,trivial⟩ func89 bW W.Ui
def aJA:=mk JF func181 W.B6 (S ab (S bL (K [(3,.own 3)] [(3,gA)] (X [(3,.own 3),(9,eR),(10,ai),(11,ai)] [(3,gA)] bt) cr))) W.aBh
def aJB:=mk aJA func180 W.tz alo W.aBi
def aJC:=mk aJB func178 W.B7 bW W.aBj
def aJD:=mk aJC func332 H.TS bW H.avO
def aJE:=mk aJD func312 H.TT (S ab (S ab (S ab (S (S ab (C (S bL cr) ab)) (S bL (S bL (S bL cr))))))) H.avP
def aJF:=mk aJE func311 H.th bW H.avQ
def aJG:=mk aJF func258 M1 (K [] [] (X [(0,eR),(1,ai),(7,ai),(8,ai)] [] cT) cr) ayK
def aJH:=mk aJG func195 r3 bW ayL
def JG:=lo aJH [] func194 H.El 1 bW H.Ui
abbrev CA:=DS (aty JG) [(194,1)] []
def alU:cL:=⟨⟨[(0,.val qo)],[]⟩,⟨[(0,.own 9),(1,.val hI)],[(9,.bl ll)]⟩,[none,none],1,H.MA⟩
theorem aJI:cW Tryz.prog CA 163 alU:=ew JG [] trivial func163 ali H.awm
def alV:cL:=⟨⟨[(0,.own 200001),(1,.val S3)],[(200001,.bl ll)]⟩,⟨[(0,.sub 200001)],[(200001,.bl ll)]⟩,[none],2,H.MC⟩
theorem aJJ:cW Tryz.prog CA 193 alV:=ew JG [] trivial func193 (S ab (S ab (S bL (J [(0,.own 200001),(5,ai)] [(200001,zQ)] (X [(0,.own 200001),(1,Xt),(5,ai),(6,ai)] [(200001,zQ)] (S aB (J [(0,.own 200001),(1,Xt),(5,ai),(6,ai)] [(200001,zQ)] (B pc) ab))) bW)))) H.awo
def aJK:=mk JG func173 H.vM lZ H.avM
def aJL:=mk aJK func299 H.TU (K [(0,JA),(2,ai)] [] bL (J [(0,JA),(2,ai)] [] bL (J [(0,JA),(2,ai)] [] bL cr))) H.avR
def Fw:=mk aJL func245 H.TV (S ab (S (C cr ab) cr)) (H.avS (λ_=>dZ))
def alW:cL:=⟨⟨[(0,.own 200001),(1,.val bU),(2,.val bU),(3,.val HJ)],[(200001,.bl s8)]⟩,⟨[],[(200001,.bl s8)]⟩,[],4,H.Mw⟩
theorem aJM:cW Tryz.prog CA 355 alW:=ew Fw [] trivial func355 (X [(0,.own 200001),(1,ai),(2,ai),(3,Pc),(8,ai)] [(200001,iH)] (S aB (J [(0,.own 200001),(1,ai),(2,ai),(3,Pc),(8,ai)] [(200001,iH)] (B (X [(0,.own 200001),(1,ai),(2,ai),(3,Pc),(8,ai),(9,ai)] [(200001,iH)] Cz)) ab))) H.av3
def alX:cL:=⟨⟨[(0,.own 200001),(1,.val bU),(2,.val bU),(3,.val bU),(4,.val HJ)],[(200001,.bl s8)]⟩,⟨[],[(200001,.bl s8)]⟩,[],5,H.Mx⟩
theorem aJN:cW Tryz.prog CA 341 alX:=ew Fw [(355,.eu alW)] ⟨aJM,trivial⟩ func341 (S ab (X [(0,.own 200001),(1,ai),(2,ai),(3,ai),(4,Pc),(10,u2),(11,u2)] [(200001,iH)] (B (S ab (S bL ab))))) H.av4
def alY:cL:=⟨⟨[(0,.own 200001),(1,.val HJ)],[(200001,.bl s8)]⟩,⟨[],[(200001,.bl s8)]⟩,[],2,H.D7⟩
theorem aJO:cW Tryz.prog CA 310 alY:=ew Fw [(341,.eu alX)] ⟨aJN,trivial⟩ func310 cr H.av6
def alZ:cL:=⟨⟨[(0,bD 100000),(1,.val gr)],[(100000,.cells uB [.val s6,.val qo,.val gr,.val s6,.val bU,.val bU,.val bU,.val bU,.val bU,.val bU,.val bU,.val qo,.own 100002]),(100002,.bl rT)]⟩,⟨[(0,.val rT),(1,.val hI)],[(100000,.cells uB [.val s6,.val qo,.val gr,.val s6,.val bU,.val bU,.val bU,.val bU,.val bU,.val bU,.val bU,.val qo,.own 100002]),(100002,.bl rT)]⟩,[none,none],2,H.xI⟩
theorem aJP:cW Tryz.prog CA 259 alZ:=ew Fw [(310,.eu alY)] ⟨aJO,trivial⟩ func259 (K [(0,bD 100000),(1,eR),(6,bD 17)] [(17,.cells HI [eR,.own 30000,.own 30001,.own 30002,.own 30003,.own 30004,.own 30005,.own 30006,.own 30007,.own 30008,.own 30009]),(100000,.cells uB [nk,sx,eR,nk,ai,ai,ai,ai,ai,ai,ai,sx,.own 100002]),(100002,Jz),(30000,iH),(30001,iH),(30002,iH),(30003,iH),(30004,iH),(30005,iH),(30006,iH),(30007,iH),(30008,iH),(30009,iH)] ab (J [(6,bD 17)] lx (X [(1,eR),(6,bD 17),(21,sx),(22,ai),(23,ai)] lx (S ab (S eO (J [(1,eR),(6,bD 17),(21,sx),(22,ai),(23,ai)] lx (B (S ab (.split 8 4 10 ab))) ab)))) (J [(6,bD 17)] lx (S ab (B (.iI (.num 57 0 (S ab (S eO (J pR lx (B (S ab (S ab (X [(6,bD 17),(10,.own 30000),(56,.fG [30000,30001,30002,30003,30004,30005,30006,30007,30008,30009]),(57,ai),(62,.own 30000),(63,ai),(64,ai)] lx (S ab (S eO (S (B (S ab (K [(6,bD 17),(10,.own 30000),(11,ai),(12,bD 12),(13,ai),(56,.fG [30000,30001,30002,30003,30004,30005,30006,30007,30008,30009]),(57,ai),(62,.own 30000),(63,ai),(64,ai)] wG aB bL))) ab))))))) ab)))) (.iI (.num 57 1 (S ab (S eO (J pR lx (B (S ab (S ab (X [(6,bD 17),(10,.own 30001),(56,.fG [30000,30001,30002,30003,30004,30005,30006,30007,30008,30009]),(57,ai),(62,.own 30001),(63,ai),(64,ai)] lx (S ab (S eO (S (B (S ab (K [(6,bD 17),(10,.own 30001),(11,ai),(12,bD 12),(13,ai),(56,.fG [30000,30001,30002,30003,30004,30005,30006,30007,30008,30009]),(57,ai),(62,.own 30001),(63,ai),(64,ai)] wG aB bL))) ab))))))) ab)))) (.iI (.num 57 2 (S ab (S eO (J pR lx (B (S ab (S ab (X [(6,bD 17),(10,.own 30002),(56,.fG [30000,30001,30002,30003,30004,30005,30006,30007,30008,30009]),(57,ai),(62,.own 30002),(63,ai),(64,ai)] lx (S ab (S eO (S (B (S ab (K [(6,bD 17),(10,.own 30002),(11,ai),(12,bD 12),(13,ai),(56,.fG [30000,30001,30002,30003,30004,30005,30006,30007,30008,30009]),(57,ai),(62,.own 30002),(63,ai),(64,ai)] wG aB bL))) ab))))))) ab)))) (.iI (.num 57 3 (S ab (S eO (J pR lx (B (S ab (S ab (X [(6,bD 17),(10,.own 30003),(56,.fG [30000,30001,30002,30003,30004,30005,30006,30007,30008,30009]),(57,ai),(62,.own 30003),(63,ai),(64,ai)] lx (S ab (S eO (S (B (S ab (K [(6,bD 17),(10,.own 30003),(11,ai),(12,bD 12),(13,ai),(56,.fG [30000,30001,30002,30003,30004,30005,30006,30007,30008,30009]),(57,ai),(62,.own 30003),(63,ai),(64,ai)] wG aB bL))) ab))))))) ab)))) (.iI (.num 57 4 (S ab (S eO (J pR lx (B (S ab (S ab (X [(6,bD 17),(10,.own 30004),(56,.fG [30000,30001,30002,30003,30004,30005,30006,30007,30008,30009]),(57,ai),(62,.own 30004),(63,ai),(64,ai)] lx (S ab (S eO (S (B (S ab (K [(6,bD 17),(10,.own 30004),(11,ai),(12,bD 12),(13,ai),(56,.fG [30000,30001,30002,30003,30004,30005,30006,30007,30008,30009]),(57,ai),(62,.own 30004),(63,ai),(64,ai)] wG aB bL))) ab))))))) ab)))) (.iI (.num 57 5 (S ab (S eO (J pR lx (B (S ab (S ab (X [(6,bD 17),(10,.own 30005),(56,.fG [30000,30001,30002,30003,30004,30005,30006,30007,30008,30009]),(57,ai),(62,.own 30005),(63,ai),(64,ai)] lx (S ab (S eO (S (B (S ab (K [(6,bD 17),(10,.own 30005),(11,ai),(12,bD 12),(13,ai),(56,.fG [30000,30001,30002,30003,30004,30005,30006,30007,30008,30009]),(57,ai),(62,.own 30005),(63,ai),(64,ai)] wG aB bL))) ab))))))) ab)))) (.iI (.num 57 6 (S ab (S eO (J pR lx (B (S ab (S ab (X [(6,bD 17),(10,.own 30006),(56,.fG [30000,30001,30002,30003,30004,30005,30006,30007,30008,30009]),(57,ai),(62,.own 30006),(63,ai),(64,ai)] lx (S ab (S eO (S (B (S ab (K [(6,bD 17),(10,.own 30006),(11,ai),(12,bD 12),(13,ai),(56,.fG [30000,30001,30002,30003,30004,30005,30006,30007,30008,30009]),(57,ai),(62,.own 30006),(63,ai),(64,ai)] wG aB bL))) ab))))))) ab)))) (.iI (.num 57 7 (S ab (S eO (J pR lx (B (S ab (S ab (X [(6,bD 17),(10,.own 30007),(56,.fG [30000,30001,30002,30003,30004,30005,30006,30007,30008,30009]),(57,ai),(62,.own 30007),(63,ai),(64,ai)] lx (S ab (S eO (S (B (S ab (K [(6,bD 17),(10,.own 30007),(11,ai),(12,bD 12),(13,ai),(56,.fG [30000,30001,30002,30003,30004,30005,30006,30007,30008,30009]),(57,ai),(62,.own 30007),(63,ai),(64,ai)] wG aB bL))) ab))))))) ab)))) (.iI (.num 57 8 (S ab (S eO (J pR lx (B (S ab (S ab (X [(6,bD 17),(10,.own 30008),(56,.fG [30000,30001,30002,30003,30004,30005,30006,30007,30008,30009]),(57,ai),(62,.own 30008),(63,ai),(64,ai)] lx (S ab (S eO (S (B (S ab (K [(6,bD 17),(10,.own 30008),(11,ai),(12,bD 12),(13,ai),(56,.fG [30000,30001,30002,30003,30004,30005,30006,30007,30008,30009]),(57,ai),(62,.own 30008),(63,ai),(64,ai)] wG aB bL))) ab))))))) ab)))) (.iI (.num 57 9 (S ab (S eO (J pR lx (B (S ab (S ab (X [(6,bD 17),(10,.own 30009),(56,.fG [30000,30001,30002,30003,30004,30005,30006,30007,30008,30009]),(57,ai),(62,.own 30009),(63,ai),(64,ai)] lx (S ab (S eO (S (B (S ab (K [(6,bD 17),(10,.own 30009),(11,ai),(12,bD 12),(13,ai),(56,.fG [30000,30001,30002,30003,30004,30005,30006,30007,30008,30009]),(57,ai),(62,.own 30009),(63,ai),(64,ai)] wG aB bL))) ab))))))) ab)))) (.iI (.num 57 10 (S ab (S eO ab))) ab))))))))))))) cr))) H.Uh
def XU(f:Nat):cL:=⟨⟨[(0,bD 100000),(1,.val gr)],[(100000,.cells uB [.val s6,.val qo,.val gr,.val s6,.val bU,.val bU,.val bU,.val bU,.val bU,.val bU,.val bU,.val qo,.own 100002]),(100002,.bl rT)]⟩,⟨[],[(100000,.cells uB [.val s6,.val qo,.val gr,.val s6,.val bU,.val bU,.val bU,.val bU,.val bU,.val bU,.val bU,.val qo,.own 100002]),(100002,.bl rT)]⟩,[],2,H.BD f⟩
theorem al0:∀f,cW Tryz.prog CA 196 (XU f)
 |0=>S9 func196 H.awY
 |f+1=>ew Fw [(196,.eu (XU f)),(259,.eu alZ)] ⟨al0 f,aJP,trivial⟩ func196 (S ab (S (S ab (C (J [] alf (S ab aB) ab) ab)) (X [(0,bD 100000),(1,eR),(4,ai),(7,ai)] alf Cz))) (H.aw1 f)
def aJQ:=nE Fw (JG.u [(194,1)] [] trivial) [(163,.eu alU),(193,.eu alV),(196,.eu (XU 5))] ⟨aJI,aJJ,al0 5,trivial⟩ func116 H.o3 (S ab (S pc (S ab (S ab (K [(7,bD 15)] [(15,.cells uB [nk,sx,eR,nk,ai,ai,ai,ai,ai,ai,ai,.sub 50200,.own 30000]),(50200,zQ),(30000,Jz)] bL lZ))))) H.Uj
def aJR:=mk aJQ func119 H.En (K [(4,bD 4),(5,u2)] [(4,Jw)] (X ak_ [(4,Jw)] (S ab (S eO (J ak_ [(4,Jw)] (B (S ab (S ab (B (S ab (C ab aB)))))) ab)))) cr) H.aw5
def aJS:=lo aJR [] func203 H.Et 1 bW H.axm
def aJT:=lo aJS [(203,1)] func201 H.Us 1 bW H.axn (hc:=λx h=>by obtain⟨_,f,ax,_⟩:=h;exact uC ⟨trivial,s9 ax⟩)
def XV:=mk aJT func198 H.y3 (S ab (K [(7,ai)] [] (X [(1,ai),(2,ai),(7,ai),(14,nk),(15,ai),(16,ai)] [] bt) cr)) H.awz
def al1:cL:=⟨⟨[(0,.il),(1,.eL rT),(2,.eL yV),(1000000,.aR (.au ll bU))],[]⟩,⟨[(1000000,.aR (.au ll bU))],[]⟩,[],3,(H.Mp H.y3.sh)⟩
theorem aJU:cW Tryz.prog dT 197 al1:=ew (S:=(H.Mp H.y3.sh)) XV [] trivial func197 (X ak2 [] (S ab (S eO (J ak2 [] (B (S ab (X [(0,.il),(2,.eL yV),(5,akQ),(6,ai),(10,akR),(11,ai),(1000000,.aR (.au ll bU))] [] (S aB (S (B aB) ab))))) ab)))) (λx=>wK _)
theorem aJV:ye Tryz.prog 197 ⟨[rT,yV],(.au ll bU),H.vZ⟩:=LX (c:=al1) aJU ln (λx l ab=>(l,x.1.getD none,x.2.getD none,(l,ab,[],false),())) rfl (by decide) (by simp[hV])
 (λx l ab i ao=>by
  obtain⟨T,aT⟩:=ao;obtain⟨t,b,E,L,aj,_⟩:=aT;obtain⟨mw,qP⟩:=x;change mw=some (some t) at E;change qP=some (some b) at L;subst E;subst L;by_cases aV:i=0
  ·subst aV;exact .inr (.inr (.inl ⟨rfl,rfl⟩))
  ·by_cases E:i=1
   ·subst E;exact .inr (.inl ⟨by decide,by decide,_,_,rfl,rfl⟩)
   by_cases ak:i=2
   ·subst ak;exact .inr (.inl ⟨by decide,by decide,_,_,rfl,rfl⟩)
   by_cases L:i=ca
   ·subst L;exact .inr (.inr (.inr ⟨rfl,rfl⟩))
   ·refine .inl ?_;exact (if_neg aV).trans ((if_neg E).trans ((if_neg ak).trans (if_neg L))))
 rfl (λbk=>⟨_,_,_,_,rfl⟩) (λx l ao=>by
  obtain⟨T,aT⟩:=ao;obtain⟨t,b,E,L,aj,_⟩:=aT;obtain⟨mw,qP⟩:=x;change mw=some (some t) at E;change qP=some (some b) at L;subst E;subst L;have h:=H.aw_ l t b aj;refine⟨h.1,λbk gN et gf p fH=>?_⟩;have e:aL.aR bk.1.1 (.au ll bU) bk.1.2.1 bk.1.2.2.1 bk.1.2.2.2=.aR et (.au ll bU) gf p false:=fH;injection e with aB bt cT bW ek
  rw[<-bW];exact h.2 bk gN ek)
def aJW:=nE XV (XV.u [] [(197,⟨[rT,yV],(.au ll bU),H.vZ⟩)] ⟨aJV,trivial⟩) [] trivial func121 H.Eo bW H.axc
def aJX:=lo aJW [] func204 H.Ut 1 (S ab (S (S ab (B (cq [(2,.eL bU),(3,.eL S1),(5,bD 5),(6,bD 6)] [(5,.cells bU [ai]),(6,.cells hI [u2])] [(2,.eL bU),(3,.eL S1),(5,bD 100005),(6,bD 100006),(12,akI),(13,ai)] [(100005,.cells bU [ai]),(100006,.cells hI [u2])] [] [(100005,.cells bU [ai]),(100006,.cells hI [u2])] cr (B bL)))) cr)) H.axo (hc:=λx h=>by obtain⟨_,_,_,_,rfl,_⟩:=h;exact uC ⟨⟨⟨trivial,rfl⟩,rfl⟩,rfl⟩)
def aJY:=nD aJX [(201,1),(204,1)] func131 H.Eu (S ab (S ab (S bL lZ))) H.axp
def aJZ:=mk aJY func246 H.BF bW H.axq
def al2:=nD aJZ [] func179 H.MI bW H.axr
def aJ0:cL:=nl (W.gO 1 W.VE)
theorem aJ1:cW Tryz.prog dT 90 aJ0:=ew al2 [] trivial func90 bW W.aBo
def aJ2:=mk al2 func122 H.y4 lZ H.awB
def aJ3:=lo aJ2 [] func132 H.BG 1 bW H.axs
def al3:=nD aJ3 [(132,1)] func59 H.MJ bW H.axu
def aJ4:cL:=nl (W.gO 1 W.VF)
theorem aJ5:cW Tryz.prog dT 91 aJ4:=ew al3 [] trivial func91 bW W.aBp
def aJ6:=lo al3 [] func117 H.Uv 1 bW H.axv
def aJ7:=lo aJ6 [] func120 H.Uw 1 (S ab (S ab (S (S ab (B (cq [(2,.eL bU),(3,.eL wI),(7,bD 7)] [(7,.cells bU [ai])] [(2,.eL bU),(3,.eL wI),(7,bD 100007),(13,akI),(14,ai)] [(100007,.cells bU [ai])] [] [(100007,.cells bU [ai])] cr (B aB)))) cr))) H.axw (hc:=λx h=>by obtain⟨_,_,_,_,rfl,_⟩:=h;exact uC ⟨⟨⟨trivial,rfl⟩,rfl⟩,rfl⟩)
def al4:=nD aJ7 [(117,1),(120,1)] func56 H.ML Fv H.axz
def aJ8:cL:=nl (W.gO 1 W.VG)
theorem aJ9:cW Tryz.prog dT 92 aJ8:=ew al4 [] trivial func92 bW W.aBq
def aJ_:=mk al4 func125 H.Bx bW H.avA
def aJ':=lo aJ_ [] func129 H.Ev 1 bW H.afo
def aKa:=mk aJ' func126 H.BH (S ab (S ab (K [(6,bD 6),(8,bD 8),(9,u2)] [(6,Cw),(8,Cw)] (X ak3 [(6,Cw),(8,Cw)] (S ab (S eO (J ak3 [(6,Cw),(8,Cw)] wH ab)))) cr))) H.axB
def aKb:=lo aKa [] func130 H.UA 1 (S ab (K [(6,ai)] [] (X [(0,akP),(1,.eL bU),(2,.eL wI),(6,ai),(10,ai)] [] (S ab (S eO (J [(0,akP),(1,.eL bU),(2,.eL wI),(6,ai),(10,ai)] [] ya ab)))) cr)) H.axE (hc:=λx h=>by obtain⟨_,_,_,rfl,_⟩:=h;exact uC ⟨⟨trivial,rfl⟩,rfl⟩)
def al5:=nD aKb [(129,1),(130,1)] func58 H.MN Fv H.axG
def aKc:cL:=nl (W.gO 1 W.VH)
theorem aKd:cW Tryz.prog dT 93 aKc:=ew al5 [] trivial func93 bW W.aBr
def XW:=lo al5 [] func123 H.UD 1 bW H.axK (hc:=λx h=>by obtain⟨a,b,ax⟩:=h;exact uC ⟨⟨trivial,s9 (congrArg (λo=>o.1) ax)⟩,s9 (congrArg (λo=>o.2) ax)⟩)
def al6:cL:=⟨⟨[(0,.il),(1,.eL L4),(1000000,.aR bU)],[]⟩,⟨[(1000000,.aR bU)],[]⟩,[],2,H.TN⟩
theorem aKe:cW Tryz.prog dT 200 al6:=ew (S:=H.TN) XW [] trivial func200 (X [(0,.il),(5,.l2 5),(1000000,.aR bU)] [(5,.cE bU bU)] (S ab (S eO wH))) (λx=>wK _)
theorem aKf:ye Tryz.prog 200 ⟨[L4],bU,H.lM⟩:=LX (c:=al6) aKe ln (λx l ab=>(l,x.getD [],(l,ab,[],false),())) rfl (by decide) (by simp[hV])
 (λx l ab i ao=>by
  obtain⟨T,aT⟩:=ao;obtain⟨m,hm,_⟩:=aT;subst hm;by_cases aV:i=0
  ·subst aV;exact .inr (.inr (.inl ⟨rfl,rfl⟩))
  ·by_cases E:i=1
   ·subst E;exact .inr (.inl ⟨by decide,by decide,_,_,rfl,rfl⟩)
   by_cases L:i=ca
   ·subst L;exact .inr (.inr (.inr ⟨rfl,rfl⟩))
   ·refine .inl ?_;exact (if_neg aV).trans ((if_neg E).trans (if_neg L)))
 rfl (λbk=>⟨_,_,_,_,rfl⟩) (λx l ao=>by
  obtain⟨T,aT⟩:=ao;obtain⟨m,hm,_⟩:=aT;subst hm;have h:=H.aw6 l m;refine⟨h.1,λbk gN et gf p fH=>?_⟩;have e:aL.aR bk.1.1 bU bk.1.2.1 bk.1.2.2.1 bk.1.2.2.2=.aR et bU gf p false:=fH;injection e with aB bt cT bW ek
  rw[<-bW];exact h.2 bk gN ek)
def aKg:=nE XW (XW.u [] [(200,⟨[L4],bU,H.lM⟩)] ⟨aKf,trivial⟩) [] trivial func128 H.My bW H.av'
def al7:=nD aKg [(123,1)] func57 H.MO (S ab (S ab (S bL (K [(10,.hk 24)] [(24,.mp bU bU)] (X ak4 [(4,.im bU),(5,.im bU),(24,.mp bU bU)] (S ab (S eO (J ak4 [(4,.im bU),(5,.im bU),(24,.mp bU bU)] ya ab)))) cr)))) H.axL
def aKh:cL:=nl (W.gO 2 W.VJ)
theorem aKi:cW Tryz.prog dT 94 aKh:=ew al7 [] trivial func94 (S ab XA) W.aBu
def aKj:=lo al7 [] func248 H.Ev 1 bW H.axD
def XX:=nD aKj [(248,1)] func182 H.MP (S ab (S ab (S bL (J [(4,.own 4),(5,.own 5)] [(4,b2),(5,b2)] (X ak5 Fu (S ab (S eO (J ak5 Fu (B (S ab (K akZ Fu (X akV Fu (S ab (S eO (J akV Fu ya ab)))) (J akZ Fu aB aB)))) ab)))) cr)))) H.axP
def aKk:cL:=nl (W.gO 1 W.VL)
theorem aKl:cW Tryz.prog dT 95 aKk:=ew XX [] trivial func95 (S ab lZ) W.aBw
def Fx:cL:=⟨⟨[(0,.val t32)],[]⟩,⟨[(0,.val HD),(1,.val HE),(2,.val bU),(3,.own 28),(4,.own 11),(5,.own 16),(6,.own 20),(7,.own 24),(8,.val bU)],[(28,.bl HF),(11,.bl bU),(16,.bl Bm),(20,.bl yU),(24,.bl uz)]⟩,[some 9],1,W.zy⟩
theorem JH:cW Tryz.prog dT 86 Fx:=ew XX [(169,XK),(170,XL),(171,XM),(172,.eu XN),(173,XO),(174,XP),(175,Pk),(176,XR)] ⟨alJ,alK,alL,alM,alP,alQ,XQ,alR,trivial⟩ func86 l1 W.aBG
def aKm:=mk XX func262 Ik u4 ayW
def aKn:=lo aKm [] func261 Iq 1 bW ayX (hc:=λx h=>by obtain⟨i,w,n,ax,_⟩:=h;exact uC ⟨⟨⟨trivial,s9 (congrArg (λo=>o.1) ax)⟩,s9 (congrArg (λo=>o.2.1) ax)⟩,s9 (congrArg (λo=>o.2.2) ax)⟩)
def aKo:=nD aKn [(261,1)] func205 EG (S ab (S pc (S bL (K [(7,bD 22)] [(22,.cells Bn [sv,u3,ai,wD,.own 61]),(61,Ju)] (X [(2,bD 2),(7,bD 22),(24,sv),(25,ai),(26,ai)] alg (S ab (S eO (J [(2,bD 2),(7,bD 22),(24,sv),(25,ai),(26,ai)] alg (B (S ab (K [(2,bD 2),(7,bD 22),(10,.own 10),(24,sv),(25,ai),(26,ai)] [(2,.im xt),(10,b2),(22,.cells Bn [sv,u3,ai,wD,.own 61]),(61,Ju)] (X akU [(2,.im xt),(8,.im bU),(9,akL),(10,b2),(11,.cells bU [ai]),(22,.cells Bn [sv,u3,ai,wD,.own 61]),(61,Ju)] (S aB (J akU [(2,.im xt),(8,.im bU),(9,akL),(10,b2),(11,.im bU),(22,.cells Bn [sv,u3,ai,wD,.own 61]),(61,Ju)] wH (S cr ab)))) (S bL ab)))) ab)))) cr)))) ay1
def al8:=mk aKo func133 EC Fv ay9
def aKp:cL:=nl (W.gO 4 W.B3)
theorem aKq:cW Tryz.prog dT 96 aKp:=ew al8 [(86,.eu Fx)] ⟨JH,trivial⟩ func96 (S ab (S ab (S ab (S ab (S bL (S pc bW)))))) W.aBK
def aKr:=mk al8 func265 M0 alo ay2
def aKs:=mk aKr func208 M7 (S ab (K [(0,akS),(1,ai),(9,ai)] [] (X ak6 [] (S ab (S eO (J ak6 [] wH ab)))) cr)) ay7
def yc:=mk aKs func134 ED (S ab lZ) ay'
def aKt:cL:=nl (W.gO 3 W.VM)
theorem aKu:cW Tryz.prog dT 97 aKt:=ew yc [] trivial func97 (S ab lZ) W.aBy
def JI:cL:=⟨⟨[(0,bD 100000),(1,.val t32)],[(100000,.gx s7)]⟩,⟨[(0,.val kI)],[(100000,.gx s7)]⟩,[none],2,W.zz⟩
theorem Pm:cW Tryz.prog dT 183 JI:=ew yc [] trivial func183 (S ab (S bL bW)) W.aBI
def aKv:cL:=nl (W.gO 2 W.IK)
theorem aKw:cW Tryz.prog dT 98 aKv:=ew yc [(86,.eu Fx),(183,.eu JI)] ⟨JH,Pm,trivial⟩ func98 Fv W.aBL
def aKx:cL:=nl (W.gO 3 W.VN)
theorem aKy:cW Tryz.prog dT 99 aKx:=ew yc [(86,.eu Fx),(183,.eu JI)] ⟨JH,Pm,trivial⟩ func99 u5 W.aBM
def aKz:cL:=nl (W.gO 4 W.VO)
theorem aKA:cW Tryz.prog dT 100 aKz:=ew yc [(86,.eu Fx),(183,.eu JI)] ⟨JH,Pm,trivial⟩ func100 u5 W.aBN
def aKB:cL:=nl (W.gO 5 W.VP)
theorem aKC:cW Tryz.prog dT 101 aKB:=ew yc [(86,.eu Fx),(183,.eu JI)] ⟨JH,Pm,trivial⟩ func101 u5 W.aBO
def al9:cL:=⟨⟨[(0,.own 200001),(1,.val cX),(2,.val cX)],[(200001,.bl yU)]⟩,⟨[(0,.sub 200001)],[(200001,.bl yU)]⟩,[none],3,(W.NO W.V1)⟩
theorem aKD:cW Tryz.prog dT 184 al9:=ew yc [] trivial func184 (S ab (S ab (S bL u5))) (W.aBF W.V1)
def aKE:cL:=nl (W.gO 1 W.IL)
theorem aKF:cW Tryz.prog dT 102 aKE:=ew yc [(175,Pk),(184,.eu al9)] ⟨XQ,aKD,trivial⟩ func102 (S ab (S bL (S .La cr))) W.aBP
def aKG:=mk yc func267 v' (S ab (S ab (S ab (S ab (S ab (S ab Pg)))))) azy
def aKH:=mk aKG func209 v' (S ab (S (C bW ab) bW)) (azA (λ_=>dZ))
def aKI:=mk aKH func135 Nf (K [(0,nk),(1,ai)] [] aB (K [(0,nk),(6,JA)] [] aB (S ab (K [(7,.own 30)] [(30,Pb)] (B (W [(7,.own 30),(8,ai)] [(30,Pb)] (S aB (B ab)))) cr)))) azH
def al_:=mk aKI func61 EK (S ab (S pc (S bL (K [(2,bD 2),(7,bD 30)] zR (S ab (C pc ab)) (J [(2,bD 2),(7,bD 30)] zR (X [(2,bD 2),(7,bD 30),(46,ai),(47,ai)] zR (S ab (S eO (J [(2,bD 2),(7,bD 30),(46,ai),(47,ai)] zR (B (S ab (X ak0 zR (S ab (S eO (J ak0 zR (B (S ab (X akW zR (S ab (S eO (J akW zR ya ab)))))) ab)))))) ab)))) (J [(2,bD 2),(7,bD 30)] ald (X [(2,bD 2),(7,bD 30),(92,eR),(93,ai),(94,ai)] ald bt) (J [(7,bD 30)] ale (X [(7,bD 30),(114,sw),(115,ai),(116,ai)] ale bt) cr))))))) azU
def al':cL:=⟨⟨[(0,.val gr),(1,.val cX)],[]⟩,⟨[(0,.own 30)],[(30,.bl cX)]⟩,[none],2,zi⟩
theorem aKJ:cW Tryz.prog dT 136 al':=ew al_ [] trivial func136 CR agK
def aKK:=mk al_ func141 BQ (S ab (S (B (S ab (C cr (S ab (C cr bL))))) cr)) azM
def ama:=mk aKK func64 Nl (S ab (K [(6,.own 6)] [(6,Fl)] (X [(0,mK),(6,.own 6),(14,eR),(15,ai),(16,ai)] [(6,Fl)] (S ab (S eO (J [(0,mK),(6,.own 6),(14,eR),(15,ai),(16,ai)] [(6,Fl)] (B (S ab (S aB (S ab (K [(0,mK),(6,.own 6),(10,bD 10),(11,ai),(14,eR),(15,ai),(16,ai)] [(6,Fl),(10,akF)] (S ab (B (S ab (C cr aB)))) (S bL (X [(0,mK),(6,.own 6),(10,bD 10),(11,ai),(14,eR),(15,ai),(16,ai),(58,eR),(59,ai),(60,ai)] [(6,Fl),(10,akF)] bt))))))) ab)))) cr)) az6
def amb:cL:=⟨⟨[(0,.val gr),(1,.val bU)],[]⟩,⟨[(0,.own 30)],[(30,.bl bU)]⟩,[none],2,zi⟩
theorem aKL:cW Tryz.prog dT 136 amb:=ew ama [] trivial func136 CR agK
def amc:=mk ama func142 EO bW aAc
def XY(f:Nat):cL:=⟨⟨[(0,.val rb),(1,.own 200001),(2,.val HG),(3,.val bU),(4,.hk 100002)],[(100002,.mp bU bU),(200001,.bl bU)]⟩,⟨[(0,.val hI)],[(100002,.mp bU bU),(200001,.bl bU)]⟩,[none],5,xU f⟩
theorem amd:∀f,cW Tryz.prog dT 143 (XY f)
 |0=>S9 func143 aAm
 |f+1=>ew amc [(143,.eu (XY f))] ⟨amd f,trivial⟩ func143 (K [] Xz (X akY Xz (S ab (S eO (J akY Xz (B (S ab (S aB (S ab (S ab (C bW ab)))))) ab)))) cr) (aAl f)
def aKM:=nE amc ln [(136,.eu amb),(143,.eu (XY 201))] ⟨aKL,amd 201,trivial⟩ func66 Np (S ab (S ab (K [(6,ai)] [] (X ak' [(50140,b2)] (S ab (S eO (J ak' [(50140,b2)] wH ab)))) cr))) aAo
def aKN:=mk aKM func139 BY u4 aAp
def aKO:=mk aKN func249 U4 bW azK
def ame:=nE aKO ln [(136,.eu al')] ⟨aKJ,trivial⟩ func185 Nx (S ab (S ab (S bL (S ab (K [(8,.own 8)] [(8,b2)] (X ak8 [(8,b2),(50260,b2)] (S ab (S eO (J ak8 [(8,b2),(50260,b2)] ya ab)))) cr))))) aAL
def aKP:cL:=nl (W.gO 1 W.VQ)
theorem aKQ:cW Tryz.prog dT 103 aKP:=ew ame [] trivial func103 u4 W.aBA
def aKR:=mk ame func138 zo (K [(4,ai)] [] (X [(0,mK),(4,ai),(7,eR),(8,ai),(9,ai)] [] (S ab (S eO (J [(0,mK),(4,ai),(7,eR),(8,ai),(9,ai)] [] wH ab)))) cr) az8
def aKS:=mk aKR func300 U5 bW azL
def aKT:=mk aKS func250 Ng (K [(1,eR),(2,bD 2)] [(2,Cv)] (X [(1,eR),(2,bD 2),(7,eR),(8,ai),(9,ai)] [(2,Cv)] cT) cr) azN
def amf:=mk aKT func186 Ny (S ab XA) aAN
def aKU:cL:=nl (W.gO 0 W.VR)
theorem aKV:cW Tryz.prog dT 104 aKU:=ew amf [(173,.eu alN)] ⟨alO,trivial⟩ func104 (S ab (K [(0,bD 100000),(5,.own 50100)] [(50100,b2),(100000,Jx)] (X [(0,bD 100000),(5,.own 50100),(12,ai),(13,ai)] [(50100,b2),(100000,Jx)] bt) bW)) W.aBB
def XZ:=mk amf func136 Nc CR azG
def Pn(f:Nat):cL:=⟨⟨[(0,.val rb),(1,.val gr),(2,.val bU),(3,.il),(1000000,.aR gr)],[]⟩,⟨[(0,.val hI),(1000000,.aR gr)],[]⟩,[none],4,uP f⟩
theorem X0:∀f,cW Tryz.prog dT 140 (Pn f)
 |0=>S9 func140 aAz
 |f+1=>ew XZ [(140,.eu (Pn f))] ⟨X0 f,trivial⟩ func140 (S ab (S ab (S bL (J [(0,mK),(1,eR),(2,ai),(3,.il),(9,ai),(1000000,.aR gr)] [] (X akX [] (S ab (S eO (J akX [] (B (S ab (S aB bL))) ab)))) cr)))) (aAy f)
def amg:cL:=⟨⟨[(0,.val rb),(1,.il),(1000000,.aR gr)],[]⟩,⟨[(1000000,.aR gr)],[]⟩,[],2,(Ml (uP 10))⟩
theorem aKW:cW Tryz.prog dT 137 amg:=ew (S:=(Ml (uP 10))) XZ [(140,.eu (Pn 10))] ⟨X0 10,trivial⟩ func137 ab (λx=>wK _)
def Po:De:=⟨rb,gr,BZ,Nr⟩
theorem aKX:G5 Tryz.prog 137 Po:=abG (c:=amg) aKW ln (ic:=Po) (λx l ab=>(x,l,(l,ab,[],false),())) rfl (by decide) (by simp[Po])
 (λx l ab i=>by
  by_cases aV:i=0
  ·subst aV;exact .inr (.inl ⟨by decide,rfl⟩)
  ·by_cases E:i=1
   ·subst E;exact .inr (.inr (.inl ⟨rfl,rfl⟩))
   ·by_cases L:i=ca
    ·subst L;exact .inr (.inr (.inr ⟨rfl,rfl⟩))
    ·refine .inl ?_;exact (if_neg aV).trans ((if_neg E).trans (if_neg L)))
 rfl (λbk=>⟨_,_,_,_,rfl⟩) (λx l aj=>by
  obtain⟨s,ay,ae⟩:=aj;subst ay;have h:=aAA s ae l;refine⟨h.1,λbk gN et gf n fH=>?_⟩;have e:aL.aR bk.1.1 gr bk.1.2.1 bk.1.2.2.1 bk.1.2.2.2=.aR et gr gf n false:=fH;injection e with aB bt cT bW ek
  exact bW.symm.trans ((h.2 bk gN).2.2 ek))
def aKY:=nE XZ ln [(137,.cE Po)] ⟨aKX,trivial⟩ func62 Vu (S ab (S ab (S (S ab (B (cq [(1,bD 1),(3,bD 3)] [(1,.cells rb [mK]),(3,.cells gr [eR])] [(1,bD 100001),(3,bD 100003),(15,eR)] [(100001,.cells rb [mK]),(100003,.cells gr [eR])] [] [(100001,.cells rb [mK]),(100003,.cells gr [eR])] ab (B aB)))) cr))) aAG
def aKZ:=mk aKY func110 Vw (S ab lZ) aAH
def X1:=mk aKZ func50 Nu bW aAI
def aK0:cL:=nl (W.gO 0 W.VS)
theorem aK1:cW Tryz.prog dT 105 aK0:=ew X1 [] trivial func105 u4 W.aBC
def amh:cL:=⟨⟨[(0,.val rb),(1,.il),(1000000,.aR gr)],[]⟩,⟨[(1000000,.aR gr)],[]⟩,[],2,(Mm (uP 10))⟩
theorem aK2:cW Tryz.prog dT 63 amh:=ew (S:=(Mm (uP 10))) X1 [(140,.eu (Pn 10))] ⟨X0 10,trivial⟩ func63 ab (λx=>wK _)
def Pp:De:=⟨rb,gr,BZ,Vq⟩
theorem aK3:G5 Tryz.prog 63 Pp:=abG (c:=amh) aK2 ln (ic:=Pp) (λx l ab=>(x,l,(l,ab,[],false),())) rfl (by decide) (by simp[Pp])
 (λx l ab i=>by
  by_cases aV:i=0
  ·subst aV;exact .inr (.inl ⟨by decide,rfl⟩)
  ·by_cases E:i=1
   ·subst E;exact .inr (.inr (.inl ⟨rfl,rfl⟩))
   ·by_cases L:i=ca
    ·subst L;exact .inr (.inr (.inr ⟨rfl,rfl⟩))
    ·refine .inl ?_;exact (if_neg aV).trans ((if_neg E).trans (if_neg L)))
 rfl (λbk=>⟨_,_,_,_,rfl⟩) (λx l aj=>by
  obtain⟨s,ay,ae⟩:=aj;subst ay;have h:=aAB s ae l;refine⟨h.1,λbk gN et gf n fH=>?_⟩;have e:aL.aR bk.1.1 gr bk.1.2.1 bk.1.2.2.1 bk.1.2.2.2=.aR et gr gf n false:=fH;injection e with aB bt cT bW ek
  exact bW.symm.trans ((h.2 bk gN).2.2 ek))
def aK4:=mk X1 func65 Vk (K [] [] (X [(0,mK),(9,sw),(10,ai),(11,ai)] [] (S ab (S eO (J [(0,mK),(9,sw),(10,ai),(11,ai)] [] (B (S ab (K [(0,mK),(7,u2),(9,sw),(10,ai),(11,ai)] [] (X [(0,mK),(6,bD 6),(7,u2),(9,sw),(10,ai),(11,ai),(20,ai),(21,ai)] [(6,aHa)] bt) bL))) ab)))) cr) aAe
def X2:=nE aK4 ln [(63,.cE Pp)] ⟨aK3,trivial⟩ func26 Nw (S ab (S ab (S bL (S ab (S (S ab (B (cq [(4,bD 4),(6,bD 6)] [(4,.cells rb [mK]),(6,.cells bU [ai])] [(4,bD 100004),(6,bD 100006),(21,eR)] [(100004,.cells rb [mK]),(100006,.cells bU [ai])] [] [(100004,.cells rb [mK]),(100006,.cells bU [ai])] ab (B (S ab (S aB (S ab aB))))))) (S bL cr)))))) aAJ
def aK5:cL:=nl (W.gO 0 W.VT)
theorem aK6:cW Tryz.prog dT 106 aK5:=ew X2 [] trivial func106 u4 W.aBD
theorem aK7:∀ k∈[87,88,89,90,91,92,93,94,95,96,97,98,99,100,101,102,103,104,105,106],cW Tryz.prog dT k {XT with sh:=W.IQ k}:=IW.mem (l:=[87,88,89,90,91,92,93,94,95,96,97,98,99,100,101,102,103,104,105,106]) ⟨aJv,aJx,aJz,aJ1,aJ5,aJ9,aKd,aKi,aKl,aKq,aKu,aKw,aKy,aKA,aKC,aKF,aKQ,aKV,aK1,aK6,trivial⟩
def ami:cL:=⟨⟨[(0,bD 100000),(1,.val SW),(2,.val kI)],[(100000,.gx s7)]⟩,⟨[(0,.val kI)],[(100000,.gx s7)]⟩,[none],3,W.NX⟩
theorem aK8:cW Tryz.prog dT 45 ami:=ew X2 [(999999,.KR XT W.IQ [87,88,89,90,91,92,93,94,95,96,97,98,99,100,101,102,103,104,105,106])] ⟨aK7,trivial⟩ func45 (S ab (S ab (S ab (S pc (K [(0,bD 100000),(8,bD 8),(11,.own 48)] [(8,akK),(48,b2),(100000,Jx)] (X [(0,bD 100000),(8,bD 8),(11,.own 48),(50,j0),(51,ai),(52,ai)] [(8,akK),(48,b2),(100000,Jx)] (S ab (S eO (S (B (S ab (S ab (S bL ab)))) ab)))) cr))))) W.aBV
def qs:=nE X2 ln [(43,.eu alT),(45,.eu ami)] ⟨aJu,aK8,trivial⟩ func13 W.xY (S ab (S pc (S bL (K [(4,.own 4),(5,bD 5),(8,bD 50230)] alc (X [(4,.own 4),(5,bD 5),(8,bD 50230),(9,aG_),(25,j0),(26,ai),(27,ai)] alc bt) cr)))) W.aB2
def vJ:=mk qs func14 Jt (S ab lZ) aG4
def aK9:=mk vJ func49 W.E1 alk W.aB_
def aK_:=mk aK9 func47 W.N4 (S ab (S bL (J JB JD (X [(2,bD 2),(3,bD 3),(5,ai)] JD ek) (J JB JD (X [(2,bD 2),(3,bD 3),(6,ai)] JD ek) (J [] [] (X Xv JD ek) cr))))) W.aB'
def aK':=mk aK_ func48 W.N5 (S ab (S bL (J JB Cx (X [(2,bD 2),(3,bD 3),(5,ai)] Cx ek) (J JB Cx (X [(2,bD 2),(3,bD 3),(6,ai)] Cx ek) (J [] [] (X Xv Cx (S aB (J Xv Cx (B (S ab (S bL (X [(2,bD 2),(3,bD 3),(7,ai),(8,Xq),(9,Xq),(10,ai)] Cx ek)))) ab))) cr))))) W.aCa
def HO:=mk aK' func16 W.IU (S ab (S ab (S bL (J [(5,bD 5),(6,bD 6)] JE (X [(5,bD 5),(6,bD 6),(7,ai)] JE Cy) (J [(5,bD 5),(6,bD 6)] JE (X [(5,bD 5),(6,bD 6),(10,ai)] JE Cy) (J [] [] (X [(5,bD 5),(6,bD 6),(13,ai)] JE ek) cr)))))) W.aCb
theorem amz:hD Tryz.prog 3 (.au zU (.au mr Pt)) hI (λx=>Xa Jd.sh W.IV.sh W.uS.sh Jo.sh x4.sh Jp.sh E7.sh W.xY.sh Jt.sh Cm.sh W.IU.sh x):=L9 HO ln (sp:=[]) trivial func3 (ann:=(S ab (S bL (S ab (S bL (S ab (S bL u4))))))) (λx=>wK _) (by kernel_rfl) λx=>by kernel_rfl
end
end Go.Fer.Sk
namespace Go.Fer.Sk
open Go Go.Proofs
theorem amw{H:Type}{enc:TypeId×Value->H}{a:Assume}{C:Checked}{os:Os}{f:FuncId}{fn:Func}{s:ChangeSpec}{conds:List PathCond}{apart tJ handsOn again:Bool}{X:World->Array Value->Prop}
  (yI:∀ (w w':World) (args:Array Value),w.heap=w'.heap->X w args->X w' args)
  (own:ownKnob C.prog.godebug=none) (started:os.Started) (aLa:C.prog.inits.idxOf? f=none) (hi:C.prog.funcs[f]?=some fn)
  (witness:∃ (w:World) (tape:Tape) (i:Input),w.os=os/\(w.forCall tape i).Shaped C.prog/\i.vars=[]/\Input.okWide C.prog (w.forCall tape i) .any w.heap.size f i/\
   ((s.pre enc C.prog fn conds apart (w.forCall tape i).memory i.args/\X (w.forCall tape i).memory i.args)/\sizedMet enc C.prog fn (OpenSpec.ofChange s) apart (w.forCall tape i).memory i.args)/\a.holds C.prog (lone (Frame.enter C.prog f i.args .normal) [] (w.forCall tape i)))
  (aLb:∀ (W:World) (base:Nat) (args:Array Value) (bB gs:List (DataW H)) (before:List MemPlace),(∀ (j:Nat) t v,fn.params[j]?=some t->args[j]?=some v->Value.okWide C.prog W .any base t v)->
   DataW.Whole enc C.prog fn.params.toList s.vars apart W args.toList bB gs before->
   W.ShapedOpen C.prog->X W args->
   Calls C.prog f args W λe sX=>∃ v,e=.returned v/\s.post enc C.prog fn apart tJ handsOn again W args v sX) :
  ReturnsInHanded a C os f .any (λw args=>(s.pre enc C.prog fn conds apart w args/\X w args)/\sizedMet enc C.prog fn (OpenSpec.ofChange s) apart w args) (s.post enc C.prog fn apart tJ handsOn again):=by
 refine returnsInHanded_of_calls own started aLa witness ?_;intro w tape i _ jg _ b5 hq aPy;obtain⟨_,_,_,aLc,aLd,_,_,_,_,Bk⟩:=b5;have e:aLc=fn:=aQb (aLd.symm.trans hi);subst e;obtain⟨⟨⟨bB,gs,before,hw,hc⟩,ao⟩,bA⟩:=hq;have Dm:=DataW.Whole.of_heap (w':=w.forCall tape i) (by rfl) hw;refine (aLb (w.forCall tape i) w.heap.size i.args bB gs before Bk Dm jg (yI (w.forCall tape i).memory (w.forCall tape i) i.args rfl ao)).mono λe sX ⟨v,he,aj⟩=>?_;subst he;exact ChangeSpec.post_blind aj
theorem Ps{P:Program}{w:World}:∀ {l:List (String×DataW Unit)} {bu:List MemPlace},DataW.LaidVars P w l bu->∀ n d,(n,d)∈l->∃ g t cs cZ p,P.globalNamed n=some g/\(P.globals[g]?).map (·.type)=some t/\w.var? P n=some cs/\DataW.trod (λ_=>()) P w 0 (λ_=>true) false cZ t cs.toList=some (d,p)
 | [],_,_,_,_,hm=>by cases hm
 | (kf,Ad)::r,bu,h,n,d,hm=>by
  obtain⟨g,t,cs,cZ,p,q,E,L,ak,aZ,bP,_⟩:=h;rcases List.mem_cons.1 hm with e | e
  ·cases e;exact⟨g,t,cs,cZ,p,E,L,ak,aZ⟩
  ·exact Ps bP n d e
theorem amv{P:Program}{w:World}{n:String}{g:Nat}{t:TypeId}{d:DataW Unit}{cZ:Nat}{cs:Array Value}{p:List MemPlace}(aD:P.globalNamed n=some g)(ae:w.var? P n=some cs)(hu:∃ ms,P.underlying t=some (.interface ms))
  (h:DataW.trod (λ_=>()) P w 0 (λ_=>true) false cZ t cs.toList=some (d,p)):∃ v,w.cell? ⟨g,0,none⟩=some v/\(v=.nilIface\/∃ nU oF,v=.iface nU oF):=by
 obtain⟨ms,hu⟩:=hu;have hc:w.cell? ⟨g,0,none⟩=cs[0]?:=by
  unfold World.var? at ae;rw[aD]at ae;simp only[Option.bind_some]at ae;cases ar:w.heap[g]? with
  | none=>rw[ar]at ae;cases ae
  | some o=>
   rw[ar]at ae;cases o with
   | cells a T vQ=>cases ae;simp[World.cell?,ar]
   | _=>cases ae
 have aG:cs[0]?=cs.toList[0]?:=by simp
 rw[hc,aG];generalize cs.toList=l at h;cases cZ with
 | zero=>simp[DataW.trod]at h
 | succ cZ=>
  match l with
  | []=>simp[DataW.trod,hu]at h
  | [.nilIface]=>exact⟨_,rfl,.inl rfl⟩
  | [.iface u v]=>exact⟨_,rfl,.inr ⟨u,v,rfl⟩⟩
  | _::_::_=>simp[DataW.trod,hu]at h
  | [x]=>cases x<;>first | exact⟨_,rfl,.inl rfl⟩ | exact⟨_,rfl,.inr ⟨_,_,rfl⟩⟩ | (simp[DataW.trod,hu]at h;done)
theorem aLe:((List.range 8).all λb=>(((begin Tryz.prog (λ_ _=>0) default).world.heap[b]?).bind Obj.row?).isSome)=true:=by kernel_rfl
theorem amB{W : World}(h : W.ShapedOpen Tryz.prog)(E : ∃ v, W.cell? ⟨1, 0, none⟩ = some v /\ (v = .nilIface \/ ∃ nU oF, v = .iface nU oF))(L : ∃ v, W.cell? ⟨2, 0, none⟩ = some v /\ (v = .nilIface \/ ∃ nU oF, v = .iface nU oF))(aG : Lib.TabIs Tryz.prog W "internal/strconv.uint64pow10" .u64 Lib.pow10Tab) : pd Tryz.prog (s5 W) W := λb U => by
 have kP:b<8:=aPB U (aP6 (by kernel_rfl));refine⟨?_,?_⟩
 ·have D:=List.all_eq_true.1 aLe b (List.mem_range.2 kP);obtain⟨⟨zero,t⟩,bA⟩:=Option.isSome_iff_exists.1 D;obtain⟨cs,df,_⟩:=h.1 b zero t U bA;exact (Array.getElem?_eq_some_iff.1 df).1
 ·match b,U,kP with
  | 0,U,_=>exact cell_of_shapedOpen_int (t:=3) (zero:=#[.int .i64 0]) h U (by kernel_rfl) rfl (by kernel_rfl) (by kernel_rfl) Tryz.underlying3
  | 1,_,_=>exact E
  | 2,_,_=>exact L
  | 3,_,_=>trivial
  | 4,_,_=>trivial
  | 5,_,_=>
   show ∀ i,W.cell? ⟨5,i,none⟩=if i<20 then some (.int .u64 (10 ^ i)) else none
   unfold Lib.TabIs World.var? at aG;rw[show Tryz.prog.globalNamed "internal/strconv.uint64pow10" = some 5 by kernel_rfl]at aG;change (match W.heap[5]? with | some (.cells cs _ _)=>some cs | _=>none)=_ at aG;intro i;cases ar:W.heap[5]? with
   | none=>rw[ar]at aG;cases aG
   | some o=>
    rw[ar]at aG;cases o with
    | cells cs T vQ=>
     simp only[amk]at aG;simp only[World.cell?,ar,aG];simp only[Option.isSome_none,aml,aPA,aQr,aQW,Lib.pow10Tab];split
     ·rename_i OX;rw[List.getElem?_range OX];simp
     ·rename_i OX;rw[List.getElem?_eq_none (by simp;omega)];rfl
    | _=>cases aG
  | 6,_,_=>trivial
  | 7,_,_=>trivial
end Go.Fer.Sk
