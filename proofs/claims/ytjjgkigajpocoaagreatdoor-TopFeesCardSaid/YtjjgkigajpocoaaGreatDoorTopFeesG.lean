/- Part 7 of the proof of TopFees: shallow programs of Go functions, and what they compute. No condition. -/
import Derived.Test.YtjjgkigajpocoaaGreatDoorTopFeesF
import Derived.Shelf.SlGeneric
import Derived.Shelf.Spec.SlicesGrow
import Derived.Shelf.Strings.OnBuilder
import Derived.Shelf.LaysM
import Derived.Shelf.Strconv.Itoa3
import Derived.Shelf.LaysC
import Derived.Shelf.Strconv.AtoiAll
import Derived.Shelf.Strings.Split
import Derived.Shelf.Strings.Cut
import Derived.Shelf.Strings.Repeat
import Derived.Shelf.Slices.In.SortNone
import Derived.Test.YtjjgkigajpocoaaGreatDoorProg
import Derived.WalkKit
import Derived.WalkSpells
import Derived.Handy
import Derived.Shelf.Sort.AssemblyIn
import Derived.Sort.EveryDepth
import Derived.Shelf.Strings.BuilderK
import Derived.Lib.OthersKept
import Derived.Laws.RangeAny
import Derived.Shelf.Strings.Builder1
noncomputable section
set_option linter.unusedVariables false
set_option linter.unusedSimpArgs false
namespace Go.Fer.W
open H (hk)
theorem ah6:∀ (s:bc) (n k:Nat),n<10 ^ k->k+s.length<=18->0<=iq s n->Go.Lib.parseUint10 n s=.ok (iq s n).toNat
 | [],n,k,_,_,_=>by rfl
 | c::s,n,k,E,M,al=>by
  unfold iq at al ⊢;split at al
  ·omega
  ·rename_i hc;rw[if_neg hc];simp  at hc;have Mi:48<=c.toNat/\c.toNat<=57:=by omega
   have aj:(10) ^ (k+1)<=10 ^ 18:=aRE (by decide) (by grind);have e:10*n+(c.toNat - 48)=((n*10+(c.toNat - 48):Nat):Int):=by omega
   rw[e]at al ⊢;unfold Go.Lib.parseUint10;rw[if_pos Mi,if_neg (by omega),if_neg (by omega)];exact ah6 s _ (k+1) (by omega) (by grind) al
variable {s:bc}
theorem Wm(h:0<=gm s):Go.Lib.atoiAll s=.ok (gm s):=by
 unfold gm at h ⊢;split at h
 ·omega
 ·rename_i U;simp  at U;cases s with
  | nil=>grind
  | cons c r=>
   have ak:=ah6 (c::r) 0 0 (by decide) (by omega) h;have ai:=VU (c::r) 0 0 (by decide) (by decide);have hx:(10) ^ (0+(c::r).length)<=10 ^ 6:=by
    have:=aRE (n:=10) (by decide) (show 0+(c::r).length<=6 by omega);grind
   grind [iq,Go.Lib.atoiAll,Go.Lib.parseMag]
theorem aCs(h:0<=gm s):wF s=gm s:=by
 grind [wF,Wm]
abbrev Je:aQ:=⟨.str,.aw (.int .i64) .bool,λx=>x.length<=10000,uE⟩
abbrev Oj:aQ:=⟨.aw .str .str,wD,λx=>x.1.length<=10000/\x.2=[32],λx=>dt x.1⟩
abbrev aCt:aa:=.ae (.aw bK (.aw .bool .eY))
def Ol:List (bc×Int×Bool)->Nat->List (bc×EO)
 | [],_=>[]
 | p::l,i=>(p.1,p.2.1,p.2.2,some (87+i))::Ol l (i+1)
def zM:List (bc×EO):=Ol nZ 0
abbrev Om:aQ:=⟨.dc,.map .str aCt,λ_=>True,λ_=>zM⟩
theorem aCu(x):a_ (ayL x) (Om.sh x):=bu λ_=>congrArg mpure (show _=zM by rfl)
theorem ah7(w:bc):∀ (l:List (bc×Int×Bool)) (i:Nat),((Ol l i).find? λp=>decide (w=p.1)).map (λx=>x.2)=(rN w l i).map λr=>(r.1,r.2.1,some (87+r.2.2))
 | [],_=>rfl
 | p::l,i=>by
  unfold Ol rN;by_cases h:w=p.1
  ·grind
  ·simp[h,ah7 w l (i+1)]
theorem ah8{w:bc}:∀ {l:List (bc×Int×Bool)} {i:Nat} {r:Int×Bool×Nat},rN w l i=some r->i<=r.2.2/\r.2.2<i+l.length/\l[r.2.2 - i]?=some (w,r.1,r.2.1)
 | [],_,_,h=>by simp[rN]at h
 | p::l,i,r,h=>by
  unfold rN at h;split at h
  ·grind
  ·have:=ah8 h;grind
def On(j:Nat):Nat:=(nZ.getD j ([],0,false)).2.1.toNat
def Jf(k:Nat):z1'×bD×Unit->L (bc×bD×Unit):=gO (On (k - 87)) (Fc (k - 87))
def Oo(x:List (bc×EO)×bc×bD×Unit):L (bc×bD×Unit):=eF (x.1=zM/\x.2.1.length<=10000/\eQ x.2.2.1) ((pb x.2.2.1 x.2.1).1,(pb x.2.2.1 x.2.1).2,())
variable {l:List bc}
theorem aCv(h:l.all (λw=>decide (0<=gm w))=true):l.map wF=l.map gm:=aQz λw hw=>aCs (by grind)
theorem ah9{rho:Type}(r:rho)(fin:z1'->rho):∀ (l:List bc) (b:z1'),fa (λw b=>if (!decide (0<=gm w))=true then .aX r else .az (b++[wF w])) fin l b=if l.all (λw=>decide (0<=gm w))=true then fin (b++l.map wF) else r
 | [],b=>by simp[fa]
 | w::l,b=>by
  unfold fa;rw[aRd];cases h:decide (0<=gm w) with
  | true=>
   simp only[aRc,amW,aQv];rw[ah9 r fin l,aQ1];rfl
  | false=>rfl
theorem aCw(x):a_ (agd Oj.sh Je.sh Jf x) (Oo x):=bu λh=>by
 obtain⟨aCx,s,d,⟨⟩⟩:=x;obtain⟨ag,ax,ay⟩:aCx=zM/\s.length<=10000/\eQ d:=h;subst ag;unfold agd cu dr ho bF cy gG bJ bl bh aY di b4 bg ed bY gF cF;rw[show Oj.sh (s,[32])=mpure (dt s) from bO ⟨ax,rfl⟩ _,aP];have ai:=Cn s;rw[bd ⟨by decide,by grind⟩];have aC:((zM.find? λp=>decide ((dt s).getD (Int.toNat 0) []=p.1)).map λx=>x.2)=(rN ((dt s).getD 0 []) nZ 0).map λr=>(r.1,r.2.1,some (87+r.2.2)):=ah7 _ _ _;have hw:=bA (n:=((dt s).length) - 1);simp only[aC,cD,hw];unfold pb wH;cases LK:rN ((dt s).getD 0 []) nZ 0 with
 | none=>simp
 | some r=>
  obtain⟨k,m,j⟩:=r;obtain⟨_,aM,aj⟩:=ah8 LK;simp only[aR2,aQG,aQs,aRc,aRj];by_cases U:(decide (((dt s).length) - 1<k)||decide (((dt s).length) - 1 > k)&&!m)=true
  ·grind
  ·rw[if_neg U,if_neg U];rw[bd ⟨by decide,by omega,aQB _⟩];simp only[aQI,aQ4];have hy:((dt s).drop 1).length=(dt s).length - 1:=by simp
   rw[eW ((dt s).drop 1) (λi o=>((dt s).drop 1,(((dt s).drop 1).length:Int),(i:Int),(k,m,some (87+j)),o,d,())) (λw o=>if (!decide (0<=gm w))=true then .aX (.aX ([63],d,())) else .az (o++[wF w])) (λo=>.az ((k,m,some (87+j)),o,d,())) (λi o=>o.length=i) [] ?_ rfl ?_ ?_]
   ·rw[ah9,aP];unfold I';by_cases aZ:((dt s).drop 1).all (λw=>decide (0<=gm w))=true
    ·rw[if_pos aZ,db,aCv aZ];rw[bd]
     ·have dx:On j=k.toNat:=by
       grind [On]
      have b8:jc (On j) (((dt s).drop 1).map gm):=by
       refine⟨by grind,by grind,λn aA=>?_⟩;obtain⟨w,hw,rfl⟩:=List.mem_map.1 aA;simp_all[aBQ]
      have aP0:Jf (87+j) (((dt s).drop 1).map gm,d,())=mpure ((Fc j d (((dt s).drop 1).map gm)).1,(Fc j d (((dt s).drop 1).map gm)).2,()):=by
       unfold Jf;rw[show 87+j - 87=j by omega];exact bO ⟨ay,b8⟩ _
      simp_all
     ·have:j<20:=by simp_all[nZ]
      exact⟨87+j,by
       have e:∀ j:Fin 20,(87+j.val)∈[87,88,89,90,91,92,93,94,95,96,97,98,99,100,101,102,103,104,105,106]:=by decide
       exact e ⟨j,this⟩,rfl⟩
    simp_all[if_neg]
   ·rfl
   ·intro i G o au;have hw:=bA (n:=i+1);refine⟨?_,λbk dZ=>?_⟩
    ·simp only[dQ G,d' G,dH G,ck,dn,hw];rw[show Je.sh ((dt s).drop 1)[i]=mpure (uE ((dt s).drop 1)[i]) from bO (am5 (ahY s (List.mem_of_mem_drop (amV G))) ax) _,aP];unfold uE;by_cases aA:0<=gm ((dt s).drop 1)[i]
     ·simp only[aA,aQv];rw[bd (hk (by grind))];rfl
     simp_all
    grind
   simp
variable {d:bD}
theorem Wn(ay:eQ d)(ax:s.length<=10000):eQ (pb d s).2:=by
 grind [pb,aCr,wH,I',Cn]
abbrev vc:aQ:=⟨yb,.int .i64,λd=>h0 d.1/\H.nC d.2,pc⟩
theorem aCy(x):a_ (agb sw.sh H.iU.sh x) (vc.sh x):=bu λh=>by
 obtain⟨E,M⟩:=h;unfold agb jq cj;rw[show sw.sh x.1=mpure (l3 x.1) from bO E _,aP,show H.iU.sh x.2=mpure (H.c_ x.2) from bO M _,ov,aP];grind [pc]
theorem aCz{l:List H.bt}{k:Int}(aj:0<=k/\k<=99):(H.eg l).find? (λs=>s.1 == k)=l.find? λs=>s.1 == k:=by
 have hm:∀ s,l.find? (λs=>s.1 == k)=some s->s∈H.eg l:=λs ax=>List.mem_filterMap.2 ⟨k,rD.2 aj,ax⟩;cases h:l.find? (λs=>s.1 == k) with
 | none=>
  grind [H.zc]
 | some s=>
  cases M:(H.eg l).find? (λs=>s.1 == k) with
  | none=>
   grind
  | some t=>
   grind [H.eg]
theorem ah_{af bet:Type}{f g:af->Option bet}:∀ (l:List af),(∀ a∈l,f a=g a)->l.filterMap f=l.filterMap g
 | [],_=>rfl
 | a::l,h=>by
  rw[aRX,aRX,h a (by simp),ah_ l λb U=>h b (by grind)]
theorem Wo(l:List H.bt):(H.eg l).length<=l.length:=by
 have uz:(H.eg l).map (·.1) ⊆ l.map (·.1):=by
  intro x an;obtain⟨s,ax,rfl⟩:=List.mem_map.1 an;grind [H.zc]
 have:=(H.UG l).length_le_of_subset uz;grind
theorem aCA(l:z1'):(H.h' l []).length<=l.length:=by
 have aA:((fy 0 99).filter λid=>l.contains id||List.contains [] id).Nodup:=((H.VT 0 99).imp λh=>by omega).filter _;refine aA.length_le_of_subset λx an=>?_;grind
theorem ah'{c:H.bb}(h:H.c_ c=0):H.nu c [] []=(H.fJ c (H.eg c.2.1) (H.h' c.2.2.1 []),0):=by
 have G:=H.Cm h;have g:H.kR c=true:=by grind [H.c_]
 have M:H.c_ (H.fJ c [] [])=0:=by
  have:H.kR (H.fJ c [] [])=true:=by
   grind [H.kR,H.u0,H.fJ]
  unfold H.c_;rw[if_pos this];rfl
 have fC:=Wo c.2.1;have fR:=aCA c.2.2.1;have ej:=G.ej;have jJ:=G.jJ;unfold H.nu;rw[if_neg (by omega),if_neg (by omega),aQD,if_neg (by rw[G.cl];decide)];grind
structure aia(d:bD):Prop where
 aib:H.eg d.2.2.1=d.2.2.1
 aic:H.h' d.2.2.2.1 []=d.2.2.2.1
theorem aid(h:eQ d):lF d=(d.1,H.fJ d.2 (H.eg d.2.2.1) (H.h' d.2.2.2.1 [])):=by
 unfold lF;rw[ah' h.rO]
theorem aie(h:eQ d):eQ (lF d):=by
 have:=ah5       (by rw[ah' h.rO]);exact⟨h.iR,h.yc,this.2.1,by rw[aid h];exact h.Cs⟩
theorem aCB(h:eQ d)(aA:aia d):lF d=d:=by
 rw[aid h,aA.aib,aA.aic];rfl
theorem aif{p:bD->Prop}{q:bc->Prop}(ak:∀ d s,p d->q s->p (pb d s).2):∀ (l:List bc) (d:bD),p d->(∀ s∈l,q s)->p (mw d l).2
 | [],d,h,_=>h
 | s::l,d,h,bC=>aif ak l _ (ak d s h (bC s (by simp))) λt aH=>bC t (by grind)
theorem aCC(h:eQ d)(ai:∀ s∈l,s.length<=10000):eQ (mw d l).2:=aif (p:=eQ) (λd s h ax=>Wn h ax) l d h ai
def xY(x:bD×Unit):L (bD×Unit):=eF (eQ x.1) (lF x.1,())
theorem UA(x):a_ (agc H.Fb.sh Og.sh x) (xY x):=bu λh=>by
 obtain⟨d,⟨⟩⟩:=x;unfold agc dy;rw[show H.Fb.sh (d.2,[],[])=mpure (H.nu d.2 [] []) from bO ⟨h.nC,by simp,by simp⟩ _];rw[show Og.sh d.1=mpure d.1 from bO h.copy _];simp;rfl
abbrev Wp(x:bD×List bc):Prop:=h0 x.1.1/\H.iN x.1.2/\x.2.length<2 ^ 63/\∀ s∈x.2,s.length<=10000
theorem aih(E:h0 d.1)(M:H.iN d.2)(h:pc d=0):eQ d:=by
 unfold pc at h;split at h
 ·omega
 ·rename_i U;simp  at U;exact⟨E,U.1,U.2,M.2 U.2⟩
abbrev Cy:aQ:=⟨.aw yb wD,.aw wD (.aw yb (.int .i64)),Wp,λx=>Cr x.1 x.2⟩
theorem aii:∀ (l:List bc) (o:List bc) (d:bD),l.foldl (λ(p:List bc×bD) s=>(p.1++[(pb p.2 s).1],(pb p.2 s).2)) (o,d)=(o++(mw d l).1,(mw d l).2)
 | [],o,d=>by simp[mw]
 | s::l,o,d=>by
  rw[aQQ,aii l];simp[mw]
theorem aCD(x):a_ (aga vc.sh xY Om.sh Oo x) (Cy.sh x):=bu λh=>by
 obtain⟨d,l⟩:=x;obtain⟨E,M,al,a7⟩:=h;unfold aga bF bl bh aY bS b4 bg ed bY;show _=mpure (Cr d l);unfold Cr;rw[show vc.sh d=mpure (pc d) from bO ⟨E,M.iR⟩ _,aP];by_cases e:pc d=0
 ·have ay:=aih E M e;by_cases bB:l.length > 40
  ·grind
  ·rw[if_neg (show ¬decide (Int.ofNat l.length > 40)=true by grind),if_neg bB];rw[show xY (d,())=mpure (lF d,()) from bO ay _,aP,show Om.sh ()=mpure zM from rfl,aP];rw[eW l (λi p=>(zM,l,(l.length:Int),(i:Int),p.1,0,0,0,0,0,0,0,0,0,p.2,())) (λs p=>.az (p.1++[(pb p.2 s).1],(pb p.2 s).2)) (λp=>.az (p.1,0,0,0,0,0,0,0,0,0,p.2,())) (λi p=>eQ p.2/\p.1.length=i) ([],lF d) ?_ ⟨aie ay,rfl⟩ ?_ ?_]
   ·simp_all[ew,aii]
   ·rfl
   ·rintro i G ⟨o,Av⟩ ⟨Kl,au⟩;have hw:=bA (n:=i+1);have ax:=a7 _ (amV G);refine⟨?_,λbk dZ=>?_⟩
    ·simp only[cD,dQ G,d' G,dH G,ck,dn,hw];rw[show Oo (zM,l[i],Av,())=mpure _ from bO ⟨rfl,ax,Kl⟩ _,aP,bd (hk (by grind))];rfl
    grind [Wn]
   simp
 grind
end Go.Fer.W
namespace Go.Fer.W
def Fg:bD:=(Fa,[(0,0)],[],[],[],10,30,100,500,1000,2000,300)
def aij(agP:Unit->L bN)(x:Unit):L bD:=ar (agP ()) λy=>mpure (y,[(0,0)],[],[],[],10,30,100,500,1000,2000,300)
abbrev Oq:aQ:=⟨.dc,yb,λ_=>True,λ_=>Fg⟩
theorem aCE(x):a_ (aij N5.sh x) (Oq.sh x):=bu λ_=>by
 unfold aij;rw[show N5.sh ()=mpure Fa from rfl,aP];rfl
end Go.Fer.W
namespace Go.Fer.W
open H (hk)
theorem aCF(x):a_ (af' H.iU.sh sw.sh x) (vc.sh x):=bu λh=>by
 obtain⟨E,M⟩:=h;unfold af' jq cj;rw[show sw.sh x.1=mpure (l3 x.1) from bO E _,aP,show H.iU.sh x.2=mpure (H.c_ x.2) from bO M _,ov,aP];grind [pc]
theorem aik(c:UInt8):c.1.1.1=c.toNat:=rfl
theorem Cz{n:Int}(h:0<=n)(M:n<=255):IntKind.wrap .u8 n=n:=by
 show (if (false&&decide (n % 2 ^ 8>=(2 ^ (8 - 1))))=true then n % 2 ^ 8 - 2 ^ 8 else n % 2 ^ 8)=n;grind
theorem Wq{af bet rho:Type}{p:af->Bool}{r:rho}{g:af->bet->bet}{fin:bet->rho}:∀ (l:List af) (b:bet),fa (λx b=>if p x=true then .aX r else .az (g x b)) fin l b=if l.any p=true then r else fin (l.foldl (λb x=>g x b) b)
 | [],b=>rfl
 | x::l,b=>by
  unfold fa;rw[aRr];cases h:p x with
  | true=>rfl
  | false=>
   exact Wq l (g x b)
def CA(c:UInt8):Bool:=decide ((c.toNat:Int)<48)||decide ((c.toNat:Int) > 57)
theorem aCG(c:UInt8)(s:bc)(n:Int):iq (c::s) n=if CA c=true then -1 else iq s (10*n+((c.toNat:Int) - 48)):=rfl
theorem ail{rho:Type}{r:rho}{fin:Int->rho}:∀ (s:bc) (n:Int),0<=n->fa (λc n=>if CA c=true then .aX r else .az (10*n+((c.toNat:Int) - 48))) fin s n=if iq s n=-1 then r else fin (iq s n)
 | [],n,h=>by
  show fin n=if n=-1 then r else fin n
  grind
 | c::s,n,h=>by
  rw[aCG];unfold fa;by_cases hc:CA c=true
  ·grind
  ·have td:=hc;unfold CA at td;simp  at td;simp  [hc];exact ail s _ (by omega)
abbrev Ot:aQ:=⟨.str,.int .i64,λ_=>True,gm⟩
theorem aCH(x):a_ (agI x) (Ot.sh x):=bu λ_=>by
 unfold agI e1 cu dr fZ gx bF gG bJ aY bS di b4 bg bY;show _=mpure (gm x);unfold gm;simp only[cD,aik,show Int.toNat 0=0 from rfl];rw[bd (λU=>⟨⟨U,trivial⟩,⟨aQB _,by grind⟩,trivial⟩)];have e:(decide ((x.length:Int)=0)||decide ((x.length:Int) > 6)||decide ((x.length:Int) > 1)&&decide (((x.getD 0 0).toNat:Int)=48))=(decide (x.length=0)||decide (x.length > 6)||decide (x.length > 1)&&decide ((x.getD 0 0).toNat=48)):=by
  grind
 rw[e];by_cases U:(decide (x.length=0)||decide (x.length > 6)||decide (x.length > 1)&&decide ((x.getD 0 0).toNat=48))=true
 ·grind
 ·rw[if_neg U,if_neg U];have er:x.length<=6:=by
   grind
  rw[eW x (λi n=>(x,n,(i:Int),())) (λc n=>if CA c=true then .aX (.aX (-1)) else .az (10*n+((c.toNat:Int) - 48))) (λn=>.az (n,())) (λi n=>0<=n/\n<10 ^ i) 0 ?_ ⟨aQB _,by decide⟩ ?_ ?_]
  ·rw[ail _ _ (aQB _)];by_cases ay:iq x 0=-1<;>simp_all
  ·rfl
  ·rintro i G n ⟨aV,E⟩;have hw:=bA (n:=i+1);have ak:(10:Int) ^ i<=10 ^ 5:=by
    have:=aRE (n:=10) (by decide) (show i<=5 by omega);grind
   refine⟨?_,λbk dZ=>?_⟩
   ·simp only[dQ G,d' G,dH G,ck,dn,hw];rw[bd (λh=>⟨⟨h,h⟩,trivial,trivial⟩)];by_cases hc:CA x[i]=true
    ·have td:(decide ((x[i].toNat:Int)<48)||decide ((x[i].toNat:Int) > 57))=true:=hc;simp_all
    ·rw[if_neg hc];have td:¬(decide ((x[i].toNat:Int)<48)||decide ((x[i].toNat:Int) > 57))=true:=hc;rw[if_neg td];simp  at td;rw[Cz (by omega) (by omega),bA (n:=(x[i].toNat) - 48),bA (n:=10*n),bA   (by omega) (by omega)];rfl
   ·grind [CA]
  simp
def Fh(o:List bc)(c:UInt8):List bc:=if c=32 then o++[[]] else o.set (o.length - 1) (o.getD (o.length - 1) []++[c])
theorem Wr:∀ (s:bc) (o:List bc) (w:bc),s.foldl Fh (o++[w])=o++(match dt s with | []=>[w] | v::l=>(w++v)::l)
 | [],o,w=>by simp[dt]
 | c::s,o,w=>by
  rw[aQQ];unfold dt;have ai:=Cn s;by_cases hc:c=32
  ·rw[show Fh (o++[w]) c=o++[w]++[[]] from if_pos hc,Wr s (o++[w]) [],if_pos hc];cases ax:dt s with
   | nil=>simp[ax]at ai
   | cons=>simp
  ·rw[show Fh (o++[w]) c=_ from if_neg hc];have e:(o++[w]).set ((o++[w]).length - 1) ((o++[w]).getD ((o++[w]).length - 1) []++[c])=o++[w++[c]]:=by
    simp
   rw[e,Wr s o (w++[c]),if_neg hc];cases ax:dt s with
   | nil=>simp
   | cons=>simp
abbrev Ou:aQ:=⟨.str,wD,λx=>x.length<=10000,dt⟩
theorem aCI(x):a_ (agH x) (Ou.sh x):=bu λh=>by
 unfold agH hy bF cy bl bh aY bS b4 bg ed bY cF;rw[eW x (λi o=>(x,(i:Int),o,())) (λc o=>.az (Fh o c)) (λo=>.az (o,())) (λi o=>1<=o.length/\o.length<=i+1/\∀ w∈o,w.length<=i) [[]] ?_ ⟨by decide,by decide,by simp⟩ ?_ ?_]
 ·rw[ew,aP,db];have:=Wr x [] [];grind [Cn]
 ·rfl
 ·rintro i G o ⟨E,M,al⟩;have hw:=bA (n:=i+1);have gJ:=bA (n:=o.length - 1);have aF:((o.length:Int) - 1).toNat=o.length - 1:=by omega
  have bB:((i:Int)+1).toNat=i+1:=by omega
  have aB:o.getD (o.length - 1) []=o[o.length - 1]:=by grind
  have ay:(x.take (i+1)).drop i=[x[i]]:=by grind [List.drop_eq_getElem_cons]
  refine⟨?_,λbk dZ=>?_⟩
  ·simp only[cD,d' G,dH G,ck,dn,hw,aik];unfold Fh;by_cases hc:x[i]=32
   ·rw[bd (hk (by grind))];simp_all
   ·have td:¬decide ((x[i].toNat:Int)=32)=true:=by
     intro h;apply hc;simp  at h;exact UInt8.toNat_inj.1 (show x[i].toNat=32 by omega)
    rw[if_neg td];rw[bd (by omega),bd (by omega),bB,aQI,bd (hk (by grind)),bd (by omega)];simp_all
  ·grind [Fh]
 simp
def sB:List bc×z1'×z1':=(nZ.map (·.1),nZ.map (·.2.1),nZ.map λp=>if p.2.2=true then -1 else p.2.1)
abbrev Ov:aQ:=⟨.dc,.aw wD (.aw hG hG),λ_=>True,λ_=>sB⟩
theorem aCJ(x):a_ (ayM x) (Ov.sh x):=bu λ_=>congrArg mpure (show _=sB by rfl)
def Ow(k:Int)(m:Bool)(n:Nat):Bool:=decide ((n:Int)>=k)&&(decide ((if m=true then -1 else k)<(0:Int))||decide ((n:Int)<=if m=true then -1 else k))
def yd(s:bc):bc×z1'×Bool:=
 if ((dt s).drop 1).any (λw=>decide (gm w<0))=true then ([],[],false) else
 match rN ((dt s).getD 0 []) nZ 0 with
 | none=>([],[],false)
 | some (k,m,_)=>((dt s).getD 0 [],((dt s).drop 1).map gm,Ow k m ((dt s).drop 1).length)
theorem Jg{rho:Type}{w:bc}{g:Int->Bool->rho}{r:rho}:∀ (l:List (bc×Int×Bool)) (i:Nat),fa (λp (_:Unit)=>if decide (p.1=w)=true then .aX (g p.2.1 p.2.2) else .az ()) (λ_=>r) l ()=match rN w l i with | none=>r | some q=>g q.1 q.2.1
 | [],_=>rfl
 | p::l,i=>by
  unfold fa rN;by_cases h:p.1=w
  ·grind
  ·have M:¬w=p.1:=λe=>h e.symm;simp only[h,M];exact Jg l (i+1)
abbrev Ox:aQ:=⟨.str,.aw .str (.aw hG .bool),λx=>x.length<=10000,yd⟩
theorem aCK(x):a_ (agG Ou.sh Ot.sh Ov.sh x) (Ox.sh x):=bu λh=>by
 unfold agG gx bF gG bl bh aY bS di b4 bg ed bY gF;show _=mpure (yd x);unfold yd;rw[show Ou.sh x=mpure (dt x) from bO h _,aP];have ai:=Cn x;have hy:((dt x).drop 1).length=(dt x).length - 1:=by simp
 rw[eW ((dt x).drop 1) (λi o=>(dt x,((1+i:Nat):Int),o,())) (λw o=>if decide (gm w<0)=true then .aX (.aX ([],[],false)) else .az (o++[gm w])) (λo=>.az (dt x,o,())) (λi o=>o.length=i) [] ?_ rfl ?_ ?_]
 ·rw[Wq,aP];by_cases aZ:((dt x).drop 1).any (λw=>decide (gm w<0))=true
  ·simp_all
  ·rw[if_neg aZ,if_neg aZ,db,pN];rw[show Ov.sh ()=mpure sB from rfl,aP];generalize pK:((dt x).drop 1).map gm=n0;have aA:n0.length=((dt x).drop 1).length:=by grind
   rw[<-aA];rw[eW nZ (λi (_)=>(dt x,sB.1,sB.2.1,sB.2.2,(i:Int),n0,())) (λp (_)=>if decide (p.1=(dt x).getD 0 [])=true then .aX (.aX ((dt x).getD 0 [],n0,Ow p.2.1 p.2.2 n0.length)) else .az ()) (λ_=>.az ()) (λ_ _=>True) () ?_ trivial ?_ ?_]
   ·rw[Jg (g:=λk m=>aL.aX ((dt x).getD 0 [],n0,Ow k m n0.length)) nZ 0,aP];cases rN ((dt x).getD 0 []) nZ 0<;>rfl
   ·rfl
   ·intro i G _ _;have aP1:i<20:=G;have hw:=bA (n:=i+1);have fC:i<sB.1.length:=G;have fR:i<sB.2.1.length:=G;have FX:i<sB.2.2.length:=G;have dT:sB.1[i]'fC=(nZ[i]'G).1:=aRf ..;have eo:sB.2.1[i]'fR=(nZ[i]'G).2.1:=aRf ..;have ko:sB.2.2[i]'FX=if (nZ[i]'G).2.2=true then -1 else (nZ[i]'G).2.1:=aRf ..
    have ak:((0)<=0/\(0)<((dt x).length))=True:=eq_true ⟨by decide,by omega⟩;by_cases hc:decide ((nZ[i]'G).1=(dt x).getD 0 [])=true
    ·simp_all[Ow]
    simp_all
   simp_all[sB]
 ·rfl
 ·intro i G o au;have dM:1+i<(dt x).length:=by omega
  have hw:=bA (n:=((1+i:Nat))+1);have aB:(dt x)[1+i]=((dt x).drop 1)[i]:=by grind
  refine⟨?_,λbk dZ=>?_⟩
  ·simp only[cD,dQ dM,d' dM,dH dM,ck,dn,hw,aB];rw[show Ot.sh ((dt x).drop 1)[i]=mpure (gm ((dt x).drop 1)[i]) from rfl,aP];by_cases aA:decide (gm ((dt x).drop 1)[i]<0)=true
   ·simp_all
   ·rw[if_neg aA,if_neg aA,bd (hk (by grind))];rfl
  grind
 simp_all
theorem aCL{s:bc}(h:s.length<=10000):Ox.sh s=mpure (yd s):=bO h _
abbrev Jh:aQ:=⟨.aw hG hG,.bool,λx=>x.1=x.2/\x.1.length<2 ^ 63,λ_=>true⟩
theorem aCM(x):a_ (agE x) (Jh.sh x):=bu λh=>by
 obtain⟨a,b⟩:=x;obtain⟨rfl,h⟩:a=b/\a.length<2 ^ 63:=h;unfold agE gx bF bl bh aY bS di b4 bg jL ku bY;rw[e2 a (λi (_)=>(a,a,(i:Int),())) (λ_ b=>.az b) (λ_=>.az ()) () ?_ ?_ ?_]
 ·simp_all[ew]
 ·rfl
 ·intro i G _;have hw:=bA (n:=i+1);simp_all
 simp
theorem aCN{a:z1'}(h:a.length<2 ^ 63):Jh.sh (a,a)=mpure true:=bO ⟨rfl,h⟩ _
abbrev Oy:Type:=z28'
def Ws(s:bc)(c:Oy):Oy:=
 if (!(yd s).2.2)=true then c else if decide ((yd s).1=[119,105,115,104])=true then (IntKind.wrap .i64 (c.1+1),c.2)
 else if decide ((yd s).1=[112,105,101,99,101])=true then (c.1,IntKind.wrap .i64 (c.2.1+1),c.2.2.1,IntKind.wrap .i64 (c.2.2.2+IntKind.wrap .i64 (((yd s).2.1.length:Int) - 4)))
 else if decide ((yd s).1=[99,111,109,101,115])=true then (c.1,c.2.1,IntKind.wrap .i64 (c.2.2.1+1),c.2.2.2) else c
def aim(d:bD):Oy:=((d.1.2.2.2.1.length:Int),(d.1.2.2.1.length:Int),(d.1.2.2.2.2.1.length:Int),d.1.2.2.1.foldl (λn p=>IntKind.wrap .i64 (n+(p.2.2.2.2.length:Int))) 0)
def aCO(c:Oy):Bool:=decide (c.1 > 3)||decide (c.2.1 > 4)||decide (c.2.2.1 > 3)||decide (c.2.2.2 > 4)
def ye(d:bD)(l:List bc):Bool:=
 if (u' d.1||H.nm d.2||decide ((l.length:Int) > 60))=true then true else if (l.any λs=>decide ((s.length:Int) > 80))=true then true
 else decide (pc d=0)&&aCO (l.foldl (λc s=>Ws s c) (aim d))
abbrev aCP(x:bD×List bc):Prop:=h0 x.1.1/\H.nC x.1.2/\x.2.length<2 ^ 63
abbrev Ji:aQ:=⟨.aw yb wD,.bool,aCP,λx=>ye x.1 x.2⟩
theorem aCQ(x):a_ (agF vc.sh N4.sh H.zk.sh Ox.sh x) (Ji.sh x):=bu λh=>by
 obtain⟨d,l⟩:=x;obtain⟨E,M,al⟩:=h;have ld:d.1.2.2.1.length<2 ^ 63:=E.2.2.1;change l.length<2 ^ 63 at al;unfold agF e1 cu dr hy cj bF cy bJ bl bh aY bS di j0 b4 bg ku bY cF;show _=mpure (ye d l);unfold ye;rw[show N4.sh d.1=mpure (u' d.1) from bO E _,aP,show H.zk.sh d.2=mpure (H.nm d.2) from bO M _,ov,aP];have e:(u' d.1||(if (!u' d.1)=true then H.nm d.2 else false)||decide (Int.ofNat l.length > 60))=(u' d.1||H.nm d.2||decide ((l.length:Int) > 60)):=by grind
 rw[e];by_cases aC:(u' d.1||H.nm d.2||decide ((l.length:Int) > 60))=true
 ·grind
 ·rw[if_neg aC,if_neg aC];rw[e2 d.1.2.2.1 (λi n=>(l,(d.1.2.2.2.1.length:Int),(d.1.2.2.1.length:Int),(d.1.2.2.2.2.1.length:Int),n,(i:Int),d,())) (λp n=>.az (IntKind.wrap .i64 (n+(p.2.2.2.2.length)))) (λn=>.az (l,(d.1.2.2.2.1.length),(d.1.2.2.1.length),(d.1.2.2.2.2.1.length),n,d,())) 0 ?_ ?_ ?_]
  ·rw[ew,aP,db];rw[e2 l (λi c=>(l,c.1,c.2.1,c.2.2.1,c.2.2.2,(i:Int),d,())) (λs c=>if decide ((s.length:Int) > 80)=true then .aX (.aX true) else .az (Ws s c)) (λc=>.az (c.1,c.2.1,c.2.2.1,c.2.2.2,d,())) (aim d) ?_ ?_ ?_]
   ·rw[Wq,aP];by_cases aZ:(l.any λs=>decide ((s.length:Int) > 80))=true
    ·simp_all
    ·rw[if_neg aZ,if_neg aZ,db];rw[show vc.sh d=mpure (pc d) from bO ⟨E,M⟩ _,aP];rfl
   ·rfl
   ·intro i G c;have hw:=bA (n:=i+1);simp only[cD,dQ G,if_true,d' G];by_cases hc:decide ((l[i].length:Int) > 80)=true
    ·simp_all
    ·rw[if_neg hc];rw[aCL (by grind),aP];unfold Ws;split
     ·simp_all
     ·split
      ·simp_all
      ·split
       ·simp_all
       ·split<;>simp_all
   simp
  ·rfl
  ·intro i G n;have hw:=bA (n:=i+1);simp_all
  simp
theorem aCR{d:bD}{l:List bc}{n:Int}(E:h0 d.1)(M:H.nC d.2)(h:(!ye d l&&decide (pc d=0)&&decide ((l.length:Int)<=n))=true):eQ d/\(l.length:Int)<=n/\∀ s∈l,s.length<=80:=by
 grind [ye,aih,H.ayr]
theorem aCS:h0 Fg.1/\H.nC Fg.2:=⟨aBs,by decide,by decide,by decide,by decide⟩
theorem aCT{d:bD}(ay:eQ d){l:List bc}(qU:l.length<=40)(ai:∀ s∈l,s.length<=10000):Cy.sh (d,l)=mpure ((mw (lF d) l).1,(mw (lF d) l).2,0):=by
 have e:Cy.sh (d,l)=mpure (Cr d l):=bO ⟨ay.iR,ay.iN,by show l.length<2 ^ 63;omega,ai⟩ _;rw[e];unfold Cr;rw[if_neg (by rw[ay.aBU];decide),if_neg (by omega)]
end Go.Fer.W
namespace Go.Proofs
open Go.Shelf
theorem ain{P:Program}{k:Nat}{f g:Func}(h:P.funcs[k]?=some f)(e:f=g:=by kernel_rfl):P.funcs[k]?=some g:=h.trans (congrArg some e)
theorem lr{p:Prop}(h:p:=by repeat' first | kernel_rfl | (intro;kernel_rfl) | decide | constructor):p:=h
open Tryz
def Tryz.aio:Go.Shelf.Ren:=⟨fun | 156=>247 | 165=>222 | 166=>79 | 169=>82 | 240=>155 | 241=>272 | 276=>220 | 277=>319 | n=>n,fun | 31=>41 | 9=>9 | 3=>3 | 4=>4 | 0=>0 | 20=>20 | 72=>155 | 76=>161 | 70=>153 | 37=>95 | 75=>160 | 127=>252 | 164=>310 | 5=>5 | 80=>164 | n=>n,fun | n=>n⟩
theorem Tryz.aip:Go.Proofs.Lays.n156 Tryz.prog Tryz.aio:=lr
theorem Tryz.aiq:Builder.Extra Tryz.prog Tryz.aio:=lr
def Tryz.aCU:Go.Shelf.Ren:=⟨fun | 171=>189 | 243=>256 | 246=>309 | 283=>337 | 284=>338 | 285=>339 | 286=>340 | 129=>299 | 317=>351 | 318=>352 | 319=>353 | 320=>354 | 337=>363 | 338=>364 | n=>n,fun | 3=>3 | 9=>9 | 2=>2 | 4=>4 | 171=>397 | 0=>0 | 53=>349 | 37=>95 | 5=>5 | 173=>399 | 212=>419 | 51=>346 | 20=>20 | 213=>420 | 46=>300 | 232=>428 | 233=>429 | n=>n,fun | 17=>5 | 18=>6 | 19=>7 | n=>n⟩
theorem Tryz.air:Go.Proofs.LaysM.n171 Tryz.prog Tryz.aCU:=lr
def Tryz.aCV:Go.Shelf.Ren:=⟨fun | 172=>188 | 244=>254 | 245=>255 | 247=>304 | 279=>305 | 280=>306 | 281=>307 | 282=>308 | 287=>334 | 316=>335 | 171=>189 | 205=>336 | 321=>349 | 322=>350 | 243=>256 | 246=>309 | 283=>337 | 284=>338 | 285=>339 | 286=>340 | 129=>299 | 317=>351 | 318=>352 | 319=>353 | 320=>354 | 337=>363 | 338=>364 | n=>n,fun | 9=>9 | 3=>3 | 75=>160 | 76=>161 | 4=>4 | 5=>5 | 167=>375 | 37=>95 | 0=>0 | 85=>376 | 2=>2 | 168=>378 | 53=>349 | 175=>391 | 46=>300 | 210=>395 | 127=>252 | 145=>417 | 143=>415 | 21=>21 | 171=>397 | 173=>399 | 212=>419 | 51=>346 | 20=>20 | 213=>420 | 232=>428 | 233=>429 | 80=>164 | n=>n,fun | 15=>1 | 16=>2 | 17=>5 | 18=>6 | 19=>7 | n=>n⟩
theorem Tryz.Wt:Go.Proofs.LaysC.n172 Tryz.prog Tryz.aCV:=lr
open Go.RowKit in
theorem Tryz.strconv_Atoi_ok(s:ByteArray)(AO:s.size<=9223372036854775806)(v:Int)(h:Lib.atoiAll s.data.toList=.ok v)(w:World) :
  Calls Tryz.prog 188 #[.string s] w λe w'=>e=.returned (.tuple #[.int .i64 v,.nilIface])/\(w'=w\/∃ t,w'=Lib.bytesWorld w 5 t):=Any.strconv_Atoi_ok Tryz.Wt s AO v h w
open Go.RowKit in
theorem Tryz.strconv_Atoi_syntax(s:ByteArray)(vA:s.size<=281474976710656)(h:Lib.atoiAll s.data.toList=Lib.atoiAll [])(jx:Value)(w:World)(ag:w.cell? ⟨1,0,none⟩=some jx)(so:jx=.nilIface\/∃ n7 oL,jx=.iface n7 oL) :
  Calls Tryz.prog 188 #[.string s] w λe w'=>∃ N,e=.returned (.tuple #[.int .i64 (0),.iface 378 (.pointer (some ⟨N,0,none⟩))])/\w.heap.size<=N/\w'.heap[N]?=some (.cells #[.string ⟨#[65,116,111,105]⟩,.string s,jx] 395 (0,0))/\Below w.heap.size w w':=Any.strconv_Atoi_syntax Tryz.Wt s vA h jx w ag so
open Go.RowKit in
theorem Tryz.strconv_Atoi_range(s:ByteArray)(vA:s.size<=281474976710656)(h:Lib.atoiAll s.data.toList=.range)(jx:Value)(w:World)(ag:w.cell? ⟨2,0,none⟩=some jx)(so:jx=.nilIface\/∃ n7 oL,jx=.iface n7 oL) :
  Calls Tryz.prog 188 #[.string s] w λe w'=>∃ N,e=.returned (.tuple #[.int .i64 (Lib.atoiSat s.data.toList),.iface 378 (.pointer (some ⟨N,0,none⟩))])/\w.heap.size<=N/\w'.heap[N]?=some (.cells #[.string ⟨#[65,116,111,105]⟩,.string s,jx] 395 (0,0))/\Below w.heap.size w w':=Any.strconv_Atoi_range Tryz.Wt s vA h jx w ag so
def Tryz.aCW:Go.Shelf.Ren:=⟨fun | 145=>146 | 220=>215 | 219=>270 | 217=>315 | 225=>316 | 224=>317 | 267=>318 | 266=>343 | 314=>344 | n=>n,fun | 9=>9 | 4=>4 | 59=>239 | 3=>3 | 5=>5 | 46=>300 | 146=>347 | 51=>346 | n=>n,fun | 1=>0 | n=>n⟩
theorem Tryz.aCX:Go.Proofs.Lays.n145 Tryz.prog Tryz.aCW:=lr
open Go.RowKit Go.Lib in
theorem Tryz.strings_Cut(s sep:ByteArray)(m:Int)(w:World)(ax:s.size<4294967281)(hm:w.cell? ⟨0,0,none⟩=some (.int .i64 m)) :
  Calls Tryz.prog 146 #[.string s,.string sep] w λe w'=>e=.returned (.tuple #[.string ⟨(Lib.cut s.data.toList sep.data.toList).1.toArray⟩,.string ⟨(Lib.cut s.data.toList sep.data.toList).2.1.toArray⟩,.bool (Lib.cut s.data.toList sep.data.toList).2.2])/\∃ n,w'=w.drewN n:=Any.strings_Cut Tryz.aCX s sep m w ax hm
def Tryz.aCY:Go.Shelf.Ren:=⟨fun | 189=>166 | 125=>245 | 257=>244 | 128=>298 | 129=>299 | 294=>289 | 295=>290 | 296=>291 | 297=>292 | 298=>293 | 299=>294 | 216=>295 | 300=>296 | 301=>297 | 328=>327 | 329=>328 | 330=>329 | 331=>330 | 332=>331 | 215=>332 | 343=>348 | n=>n,fun | 28=>27 | 3=>3 | 46=>300 | 0=>0 | 51=>346 | 53=>349 | 4=>4 | 183=>364 | 182=>363 | 131=>91 | 5=>5 | 9=>9 | 218=>385 | 222=>389 | 228=>407 | 229=>408 | n=>n,fun | n=>n⟩
theorem Tryz.ais:Go.Proofs.Lays.n189 Tryz.prog Tryz.aCY:=lr
def Tryz.aCZ:Go.Shelf.Ren:=⟨fun | 146=>107 | 221=>187 | 268=>251 | 138=>252 | 143=>253 | 195=>301 | 197=>302 | 218=>303 | 219=>270 | 260=>333 | 217=>315 | 225=>316 | 224=>317 | 267=>318 | 266=>343 | 314=>344 | n=>n,fun | 9=>9 | 31=>41 | 3=>3 | 4=>4 | 0=>0 | 105=>372 | 21=>21 | 5=>5 | 46=>300 | 119=>410 | 139=>413 | 138=>412 | 146=>347 | 51=>346 | n=>n,fun | 1=>0 | 3=>3 | 4=>4 | n=>n⟩
theorem Tryz.ait:Go.Proofs.Lays.n146 Tryz.prog Tryz.aCZ:=lr
def Tryz.Wu:Go.Shelf.Ren:=⟨fun | 105=>157 | 212=>209 | 99=>221 | 165=>222 | 166=>79 | 170=>223 | 169=>82 | 263=>266 | 264=>267 | 206=>271 | 240=>155 | 241=>272 | 276=>220 | 277=>319 | n=>n,fun | 9=>9 | 3=>3 | 4=>4 | 20=>20 | 0=>0 | 46=>300 | 109=>301 | 5=>5 | 72=>155 | 76=>161 | 51=>346 | 146=>347 | 53=>349 | 148=>350 | 70=>153 | 37=>95 | 75=>160 | 127=>252 | 164=>310 | 80=>164 | n=>n,fun | n=>n⟩
theorem Tryz.aiu:Go.Proofs.Lays.n105 Tryz.prog Tryz.Wu:=lr
theorem Tryz.aiv:Builder.Extra Tryz.prog Tryz.Wu:=lr
open Go.RowKit Go.Lib in
theorem Tryz.strings_Repeat(s:ByteArray)(c:Nat)(w:World)(hc:c<=9223372036854775807)(hlen:s.size*c<=140737488355328) :
  Calls Tryz.prog 157 #[.string s,.int .i64 c] w λe w'=>e=.returned (.string ⟨(Lib.repeatL s.data.toList c).toArray⟩)/\Below w.heap.size w w':=Any.strings_Repeat Tryz.aiu Tryz.aiv s c w hc hlen
def Tryz.aC0:Go.Shelf.Ren:=⟨fun | 4=>243 | n=>n,fun | 22=>27 | 25=>3 | 3=>3 | 4=>4 | 9=>9 | 20=>20 | 0=>0 | n=>n,fun | n=>n⟩
theorem Tryz.aiw:Go.Proofs.Lays8.n4 Tryz.prog Tryz.aC0:=by constructor<;>first | exact⟨Tryz.f243.name,by decide,ain func243⟩ | exact lr
def Tryz.aC1:Go.Shelf.Ren:=⟨fun | 4=>242 | n=>n,fun | 22=>34 | 25=>116 | 3=>3 | 4=>4 | 9=>9 | 20=>20 | 0=>0 | n=>n,fun | n=>n⟩
theorem Tryz.aix:Go.Proofs.Lays8.n4 Tryz.prog Tryz.aC1:=by constructor<;>first | exact⟨Tryz.f242.name,by decide,ain func242⟩ | exact lr
end Go.Proofs
namespace Go.Fer.W
theorem aiy:∀ s:bc,(Go.Lib.index s [32]=-1/\dt s=[s])\/∃ t r,s=t++32::r/\Go.Lib.index s [32]=(t.length:Int)/\dt s=t::dt r
 | []=>.inl ⟨rfl,rfl⟩
 | b::l=>by
  unfold Go.Lib.index;by_cases U:b=32
  ·subst U;exact .inr ⟨[],l,rfl,by rfl,by rfl⟩
  ·rcases aiy l with⟨E,M⟩ | ⟨t,r,E,M,al⟩
   ·grind [dt]
   ·grind [dt]
theorem aC2:∀ (n:Nat) (s:bc),s.length<=n->Go.Lib.splitK [32] 0 (Go.Lib.count s [32]) s=dt s:=by
 intro n;induction n with
 | zero=>
  intro s h;have:s=[]:=aQS (by omega);subst this;rfl
 | succ n aR=>
  intro s h;rcases aiy s with⟨E,M⟩ | ⟨t,r,E,M,al⟩
  ·rw[Go.Lib.count_miss E,M];rfl
  ·rw[Go.Lib.count_hit (by simp) M,Nat.add_comm,Go.Lib.splitK];have e:((t.length:Int)).toNat=t.length:=rfl;have Oz:s.drop (t.length+1)=r:=by simp_all
   grind
end Go.Fer.W
namespace Go.Fer.Sk
open Go Go.Proofs Go.RowKit
section
variable {P:Program} {F:Nat->Prop} {w:World}
theorem aiz(x:List UInt8):(ByteArray.mk x.toArray).data.toList=x:=by simp
theorem tO(x:List UInt8):(ByteArray.mk x.toArray).size=x.length:=by rfl
variable {x:List UInt8}
theorem OA{args:List Value}(h:gB P .str F w args x):args=[.string ⟨x.toArray⟩]/\x.length<2 ^ 63:=by
 obtain⟨v,rfl,ag⟩:=(pk rfl).1 h;grind [lf]
theorem Wv{args:List Value}{y:List UInt8}(h:gB P (.aw .str .str) F w args (x,y)):args=[.string ⟨x.toArray⟩,.string ⟨y.toArray⟩]/\x.length<2 ^ 63/\y.length<2 ^ 63:=by
 grind [F3,lf,OA]
theorem aC3(w:World)(k:Nat)(os:Array Obj):Below w.heap.size w (Go.Sort.grow (w.drewN k) os):=by
 refine⟨rfl,rfl,rfl,?_,λj aM=>?_⟩
 ·simp
 ·show (w.heap++os)[j]?=_;grind
theorem Fi(h:pj Tryz.prog F w){b:Nat}(U:b<6):F b/\Yy b λi=>w.cell? ⟨b,i,none⟩:=h b (aQt U (aQR (by rfl)))
end
theorem Ww(sep:ByteArray):∀ (k:Nat) (s:ByteArray),∀ x∈Lib.splitB sep 0 k s,x.size<=s.size
 | 0,s,x,an=>by
  grind [Lib.splitB]
 | k+1,s,x,an=>by
  unfold Lib.splitB at an;split at an
  ·grind
  ·simp  at an;rcases an with rfl | an
   ·grind [ByteArray.size_extract]
   ·have:=Ww sep k _ x an;grind [ByteArray.size_extract]
def nN(s sep:List UInt8):z2':=(Lib.splitB ⟨sep.toArray⟩ 0 (Lib.countB ⟨s.toArray⟩ ⟨sep.toArray⟩) ⟨s.toArray⟩).map (·.data.toList)
theorem aC4(s:List UInt8):nN s [32]=W.dt s:=by
 unfold nN;rw[Lib.splitB_data];exact W.aC2 s.length s (amY _)
abbrev aiA:Code:=Tryz.f107.body.getD .skip
theorem aC5:hI Tryz.prog 107 (.aw .str .str) (.slice .str) W.Oj.sh where
 enter:=rv Tryz.func107 (show Tryz.f107.body=some aiA by rfl) (by rfl)
 iv:=λF w args x bq fm aZ ax=>by
  obtain⟨s,sep⟩:=x;obtain⟨ax,E⟩:s.length<=10000/\sep=[32]:=ax;subst E;obtain⟨rfl,ai,hx⟩:=Wv aZ;obtain⟨_,m,hm⟩:=Fi fm (b:=0) (by decide);have cQ:1<=(ByteArray.mk [32].toArray).size:=by decide
  refine (Any.strings_Split Tryz.ait (by kernel_rfl) ⟨s.toArray⟩ ⟨[32].toArray⟩ m w (by grind [tO]) hm cQ).mono ?_;rintro e w' ⟨rfl,rfl⟩;have hlen:=Lib.splitB_all ⟨[32].toArray⟩ cQ 0 _ ⟨s.toArray⟩ rfl;have tf:=Lib.countB_le ⟨[32].toArray⟩ cQ _ ⟨s.toArray⟩ (amY _);rw[tO]at tf;have mG:=Ww ⟨[32].toArray⟩ (Lib.countB ⟨s.toArray⟩ ⟨[32].toArray⟩) ⟨s.toArray⟩;rw[tO]at mG;have AI:(nN s [32]).length=Lib.countB ⟨s.toArray⟩ ⟨[32].toArray⟩+1:=by grind [nN]
  refine⟨_,nN s [32],rfl,aC4 s,⟨[_],rfl,(pk rfl).2 ⟨_,rfl,(eh rfl).2 ⟨rfl,some ⟨w.heap.size,0,none⟩,Lib.countB ⟨s.toArray⟩ ⟨[32].toArray⟩+1,by grind,by omega,by omega,nofun,λp ak hc=>?_⟩⟩⟩,?_⟩
  ·cases ak;refine⟨.inr ⟨amY _,by simp⟩,rfl,λi G=>?_⟩;have dM:i<(Lib.splitB ⟨[32].toArray⟩ 0 (Lib.countB ⟨s.toArray⟩ ⟨[32].toArray⟩) ⟨s.toArray⟩).length:=by omega
   generalize a6:Lib.splitB ⟨[32].toArray⟩ 0 (Lib.countB ⟨s.toArray⟩ ⟨[32].toArray⟩) ⟨s.toArray⟩=B at dM mG hlen;have ka:(nN s [32])[i]=B[i].data.toList:=by
    grind [nN]
   refine⟨[.string B[i]],⟨.inr ⟨amY _,by simp⟩,rfl,λj aM=>?_⟩,?_,?_⟩
   ·have aM:j=0:=by grind
    simp_all[aa.size]
   ·simp_all
   ·have e:(B[i]).data.toList.length=(B[i]).size:=aQK;grind
  ·exact (Below.refl _ _).alloc (amY _) _
theorem aiB{F : Nat -> Prop}{w : World}(h : pj Tryz.prog F w) : Lib.TabIs Tryz.prog w "internal/strconv.uint64pow10" .u64 Lib.pow10Tab := by
 have bR:=(Fi h (b:=5) (by decide)).2;show (match w.heap[5]? with | some (.cells cs _ _)=>some cs | _=>none)=_;have aV:=bR 0;cases au:w.heap[5]? with
 | none=>grind [World.cell?]
 | some o=>
  cases o with
  | cells cs T wj=>
   simp;apply Array.ext_getElem?;intro i;have G:=bR i;grind [World.cell?,Lib.pow10Tab]
  | _=>simp[World.cell?,au]at aV
abbrev aC6:Code:=Tryz.f189.body.getD .skip
theorem aC7{P:Program}{F:Nat->Prop}{w:World}{args:List Value}{x:Int}(h:gB P (.int .i64) F w args x):args=[.int .i64 x]/\gQ .i64 x:=by
 obtain⟨v,rfl,ag⟩:=(pk rfl).1 h;grind [hR]
theorem aC8{n:Int}(h:gQ .i64 n):-9223372036854775808<=n/\n<=9223372036854775807:=h
theorem aC9:hI Tryz.prog 189 (.int .i64) .str W.Ob.sh where
 enter:=rv Tryz.func189 (show Tryz.f189.body=some aC6 by rfl) (by rfl)
 iv:=λF w args x bq fm aZ ax=>by
  obtain⟨rfl,D⟩:=aC7 aZ;obtain⟨aV,E⟩:=aC8 D;refine (Any.strconv_Itoa Tryz.air x aV E w (aiB fm)).mono ?_;rintro e w' ⟨rfl,k,os,rfl⟩;have an:W.va x=Lib.itoa x:=by grind [W.va,bA]
  refine⟨_,W.va x,rfl,rfl,⟨[_],rfl,(pk rfl).2 ⟨_,rfl,lf.2 ⟨by grind,Nat.lt_of_le_of_lt (W.VV x) (by decide)⟩⟩⟩,aC3 w k os⟩
abbrev aC_:Code:=Tryz.f247.body.getD .skip
theorem aC':hI Tryz.prog 247 (.aw (.slice .str) .str) .str W.Jc.sh where
 enter:=rv Tryz.func247 (show Tryz.f247.body=some aC_ by rfl) (by rfl)
 iv:=λF w args x bq fm aZ ax=>by
  obtain⟨l,sep⟩:=x;obtain⟨aA,hw,E⟩:l.length<=60000/\(∀ w∈l,w.length<=21)/\sep.length=1:=ax;have HE:=W.ah0 l sep 21 hw;rw[E]at HE;have aM:(Lib.join l sep).length<2 ^ 63:=by omega
  obtain⟨v,us,rfl,ag,hu⟩:=F3 aZ;obtain⟨rfl,_⟩:=OA hu;obtain⟨_,p,cap,jU,c2,c3,c4,c5⟩:=(eh rfl).1 ag;obtain rfl:v=.slice p l.length cap:=by grind
  change l.length<=cap at c2;have fin:∀ w',Below w.heap.size w w'->∃ v y,Ending.returned (.string ⟨(Lib.join l sep).toArray⟩)=.returned v/\(W.Jc.sh (l,sep)).a8 y/\tW Tryz.prog .str (w2 F w w') w' v y/\Below w.heap.size w w':=λw' U=>
   ⟨_,Lib.join l sep,rfl,rfl,⟨[_],rfl,(pk rfl).2 ⟨_,rfl,lf.2 ⟨rfl,aM⟩⟩⟩,U⟩
  by_cases ai:l=[]
  ·subst ai;refine (Any.strings_Join_none Tryz.aip Tryz.aiq p cap ⟨sep.toArray⟩ w).mono ?_;simp_all[Below.refl]
  ·have km:=List.length_pos_iff.2 ai;obtain⟨q,rfl⟩:∃ q,p=some q:=by
    cases p<;>grind
   obtain⟨d1,d2,d3⟩:=c5 q rfl (by omega);obtain⟨aDa,o,sp⟩:=q;obtain rfl:=d2;have hlen:(l.map λx:List UInt8=>ByteArray.mk x.toArray).length=l.length:=aQJ ..;have sU:(l.map λx=>ByteArray.mk x.toArray).map (·.data.toList)=l:=by simp_all[aQz]
   have:=Any.strings_Join Tryz.aip Tryz.aiq aDa o cap (l.map λx:List UInt8=>ByteArray.mk x.toArray) ⟨sep.toArray⟩ w (λj x an=>by
    rw[aRI]at an;obtain⟨y,bf,rfl⟩:=Option.map_eq_some_iff.1 an;obtain⟨HE,rfl⟩:=List.getElem?_eq_some_iff.1 bf;obtain⟨bE,⟨_,_,c7⟩,bW⟩:=d3 j HE;obtain⟨rfl,_⟩:=bW;simp_all[aa.size]) (bq _ d1) (by omega) (by omega) (by grind)
   rw[hlen,aiz]at this;refine this.mono ?_;simp_all
end Go.Fer.Sk
namespace Go.Proofs
open Go.RowKit
theorem Tryz.aDb{P:Program}{w w':World}{n:String}{k:IntKind}{zs:z1'}(h:Lib.TabIs P w n k zs)(U:Below w.heap.size w w'):Lib.TabIs P w' n k zs:=by
 unfold Lib.TabIs World.var? at *
 cases aB:P.globalNamed n with
 | none=>rw[aB]at h;cases h
 | some g=>
  rw[aB]at h;simp only[Option.bind_some]at h ⊢;by_cases dx:g<w.heap.size
  ·rw[U.block g dx];exact h
  ·rw[Array.getElem?_eq_none (by omega)]at h;cases h
set_option maxHeartbeats 4000000 in
set_option maxRecDepth 1000000 in
theorem Tryz.aDc(s:ByteArray)(w:World)(v:Int)(AO:s.size<=9223372036854775806)(h:Lib.atoiAll s.data.toList=.ok v)(aV:-9223372036854775808<=v)(E:v<=9223372036854775807)
  (aDd : Lib.TabIs Tryz.prog w "internal/strconv.uint64pow10" .u64 Lib.pow10Tab) :
  Calls Tryz.prog 108 #[.string s] w λe w'=>e=.returned (.tuple #[.int .i64 v,.bool (decide (s.size<=6)&&decide (0<=v)&&decide (Lib.itoa v=s.data.toList))])/\Below w.heap.size w w':=by
 go_enter Tryz.func108,Tryz.ntmps108;go_wp2_with fail;refine (Tryz.strconv_Atoi_ok s AO v h w).mono ?_;rintro e ch ⟨rfl,pz⟩;have oo:Below w.heap.size w ch:=by
  rcases pz with rfl | ⟨t,rfl⟩
  ·exact Below.refl _ _
  ·exact Lib.bytesWorld_below w 5 t
 have aDe:=Tryz.aDb aDd oo;clear pz;by_cases aO:(s.size:Int)<=6
 ·by_cases aT:v>=0
  ·go_wp2_with fail;refine (Any.strconv_Itoa Tryz.air v aV E ch aDe).mono ?_;rintro e dP ⟨rfl,k,os,rfl⟩;have xe:Below w.heap.size w (Go.Sort.grow (ch.drewN k) os):=oo.trans ⟨rfl,rfl,rfl,by show _<=(ch.heap++os).size;simp,λj aM=>by
    have:=oo.size;show (ch.heap++os)[j]?=_;rw[Array.getElem?_append_left (by omega)]⟩
   generalize Go.Sort.grow (ch.drewN k) os=dP at xe;go_wp2;go_returns;refine⟨congrArg Ending.returned (congrArg Value.tuple ?_),xe⟩;show #[Value.int IntKind.i64 v,Value.bool (Lib.itoa v == s.toList)]=_;rw[Go.ByteArray.toList_eq,show decide (s.size<=6)=true from aQN (by omega),show decide (0<=v)=true from aQN aT,aRL,aRL,show (Lib.itoa v == s.data.toList)=decide (Lib.itoa v=s.data.toList) by rw[Bool.eq_iff_iff];simp]
  ·go_wp2;go_returns;refine⟨congrArg Ending.returned (congrArg Value.tuple ?_),oo⟩;show #[Value.int IntKind.i64 v,Value.bool false]=_;rw[show decide (0<=v)=false from aQ2 (by omega),Bool.and_false,aR']
 ·go_wp2;go_returns;refine⟨congrArg Ending.returned (congrArg Value.tuple ?_),oo⟩;show #[Value.int IntKind.i64 v,Value.bool false]=_;rw[show decide (s.size<=6)=false from aQ2 (by omega),aR',aR']
set_option maxHeartbeats 4000000 in
set_option maxRecDepth 1000000 in
theorem Tryz.aDf(s:ByteArray)(w:World)(vA:s.size<=281474976710656)(h:Lib.atoiAll s.data.toList=Lib.atoiAll [])(jx:Value)(ag:w.cell? ⟨1,0,none⟩=some jx)(so:jx=.nilIface\/∃ n7 oL,jx=.iface n7 oL) :
  Calls Tryz.prog 108 #[.string s] w λe w'=>e=.returned (.tuple #[.int .i64 0,.bool false])/\Below w.heap.size w w':=by
 go_enter Tryz.func108,Tryz.ntmps108;go_wp2_with fail;refine (Tryz.strconv_Atoi_syntax s vA h jx w ag so).mono ?_;rintro e ch ⟨N,rfl,_,_,oo⟩;go_wp2;go_returns;exact⟨rfl,oo⟩
set_option maxHeartbeats 4000000 in
set_option maxRecDepth 1000000 in
theorem Tryz.aDg(s:ByteArray)(w:World)(vA:s.size<=281474976710656)(h:Lib.atoiAll s.data.toList=.range)(jx:Value)(ag:w.cell? ⟨2,0,none⟩=some jx)(so:jx=.nilIface\/∃ n7 oL,jx=.iface n7 oL) :
  Calls Tryz.prog 108 #[.string s] w λe w'=>e=.returned (.tuple #[.int .i64 (Lib.atoiSat s.data.toList),.bool false])/\Below w.heap.size w w':=by
 go_enter Tryz.func108,Tryz.ntmps108;go_wp2_with fail;refine (Tryz.strconv_Atoi_range s vA h jx w ag so).mono ?_;rintro e ch ⟨N,rfl,_,_,oo⟩;go_wp2;go_returns;exact⟨rfl,oo⟩
end Go.Proofs
namespace Go.Fer.W
theorem aiC:∀ (s:bc) (n:Int),0<=n->iq s n≠-1->n<=iq s n
 | [],n,_,_=>aQB _
 | c::s,n,h,E=>by
  unfold iq at E ⊢;split at E
  ·omega
  ·rename_i hc;rw[if_neg hc];simp  at hc;have:=aiC s _ (by omega) E;omega
theorem Wx(d:UInt8):∀ (s:bc) (n:Int),0<=n->iq (s++[d]) n=if iq s n=-1 then -1 else if (decide ((d.toNat:Int)<48)||decide ((d.toNat:Int) > 57))=true then -1 else 10*iq s n+((d.toNat:Int) - 48)
 | [],n,h=>by
  grind [iq]
 | c::s,n,h=>by
  rw[List.cons_append];conv=>lhs;unfold iq
  by_cases hc:(decide ((c.toNat:Int)<48)||decide ((c.toNat:Int) > 57))=true
  ·grind [iq]
  ·rw[if_neg hc,show iq (c::s) n=iq s (10*n+(c.toNat - 48)) from (if_neg hc)];simp  at hc;exact Wx d s _ (by omega)
theorem Wy(k:Nat)(h:k<10):((UInt8.ofNat (48+k)).toNat:Int)=48+k:=by
 grind [UInt8.toNat_ofNat']
theorem aiD(u:Nat):iq (Go.Lib.decDigits u) 0=u:=by
 induction u using Nat.strongRecOn with
 | _ u aR=>
  unfold Go.Lib.decDigits;grind [Wy,iq,Wx]
theorem aiE(u:Nat):Go.Lib.decDigits u≠[]/\(1<(Go.Lib.decDigits u).length->((Go.Lib.decDigits u).getD 0 0).toNat≠48):=by
 induction u using Nat.strongRecOn with
 | _ u aR=>
  grind [Go.Lib.decDigits,Wy]
theorem aDh:∀ (n:Nat) (s:bc),s.length=n->s≠[]->(1<s.length->(s.getD 0 0).toNat≠48)->iq s 0≠-1->Go.Lib.decDigits (iq s 0).toNat=s:=by
 intro n;induction n with
 | zero=>simp
 | succ n aR=>
  intro s E M al a7;obtain⟨a,d,rfl⟩:∃ a d,s=a++[d]:=⟨s.dropLast,s.getLast M,(List.dropLast_concat_getLast M).symm⟩
  rw[Wx _ _ _ (aQB _)]at a7 ⊢;split at a7
  ·omega
  ·rename_i aZ;split at a7
   ·omega
   ·rename_i ay;simp  at ay;have aP2:UInt8.ofNat (48+(d.toNat - 48))=d:=by
     grind [UInt8.toNat_inj,UInt8.toNat_ofNat']
    by_cases aA:a=[]
    ·grind [iq,Go.Lib.decDigits_one]
    ·have dj:(a.getD 0 0).toNat≠48:=by
      grind
     have ak:1<=iq a 0:=by
      cases a with
      | nil=>grind
      | cons c r=>
       unfold iq at aZ ⊢;split at aZ
       ·omega
       ·rename_i hc;rw[if_neg hc];simp  at hc;have aP3:c.toNat≠48:=dj;have:=aiC r _ (by omega) aZ;omega
     have aF:(10*iq a 0+(d.toNat - 48)).toNat / 10=(iq a 0).toNat:=by omega
     grind [Go.Lib.decDigits]
theorem aDi{s:bc}{v:Int}(h:Go.Lib.atoiAll s=.ok v):(decide (s.length<=6)&&decide (0<=v)&&decide (Go.Lib.itoa v=s))=decide (0<=gm s):=by
 rw[Bool.eq_iff_iff];simp;constructor
 ·grind [Go.Lib.itoa,aiE,gm,aiD]
 ·intro aA;have e:=Wm aA;obtain rfl:v=gm s:=by grind
  refine⟨⟨?_,aA⟩,?_⟩
  ·grind [gm]
  ·have e:Go.Lib.itoa (gm s)=Go.Lib.decDigits (gm s).toNat:=by grind [Go.Lib.itoa]
   rw[e];unfold gm at aA ⊢;split at aA
   ·omega
   ·rename_i U;rw[if_neg U];simp  at U;exact aDh _ s rfl (λe=>U.1.1 (by grind)) U.2 (by omega)
theorem aiF{s:bc}(h:∀ v,Go.Lib.atoiAll s≠.ok v):decide (0<=gm s)=false:=aQ2 λaA=>h _ (Wm aA)
end Go.Fer.W
namespace Go.Fer.Sk
open Go Go.Proofs Go.RowKit
abbrev aDj:Code:=Tryz.f108.body.getD .skip
theorem aDk:hI Tryz.prog 108 .str (.aw (.int .i64) .bool) W.Je.sh where
 enter:=rv Tryz.func108 (show Tryz.f108.body=some aDj by kernel_rfl) (by kernel_rfl)
 iv:=λF w args x bq fm aZ ax=>by
  change List UInt8 at x;have ax:x.length<=10000:=ax;obtain⟨rfl,ai⟩:=OA aZ;have U:=aiz x;have bz:=tO x;have fin:∀ (n:Int) (b:Bool) (w':World),gQ .i64 n->W.uE x=(n,b)->Below w.heap.size w w'->∃ v y,Ending.returned (.tuple #[.int .i64 n,.bool b])=.returned v/\(W.Je.sh x).a8 y/\tW Tryz.prog (.aw (.int .i64) .bool) (w2 F w w') w' v y/\Below w.heap.size w w':=λn b w' D he wL=>
   ⟨_,(n,b),rfl,he.symm,⟨[.int .i64 n,.bool b],rfl,Al.2 ⟨hR.2 ⟨rfl,D⟩,(pk rfl).2 ⟨_,rfl,h2.2 rfl⟩⟩⟩,wL⟩
  cases he:Lib.atoiAll x with
  | ok v=>
   have ag:=Lib.atoiAll_bounds he;refine (Tryz.aDc ⟨x.toArray⟩ w v (by rw[bz];omega) (by rw[U];exact he) ag.1 ag.2 (aiB fm)).mono ?_;rintro e w' ⟨rfl,wL⟩;refine fin v _ w' ag ?_ wL;rw[U,bz,W.aDi he];unfold W.uE W.wF;rw[he]
  | range=>
   obtain⟨_,jx,ag,so⟩:=Fi fm (b:=2) (by decide);refine (Tryz.aDg ⟨x.toArray⟩ w (by rw[bz];omega) (by rw[U];exact he) jx ag so).mono ?_;rintro e w' ⟨rfl,wL⟩;rw[U]at *
   refine fin _ _ w' (Lib.atoiSat_bounds x) ?_ wL;unfold W.uE W.wF;rw[he,W.aiF λv h=>by rw[he]at h;cases h]
  | _=>
   obtain⟨_,jx,ag,so⟩:=Fi fm (b:=1) (by decide);refine (Tryz.aDf ⟨x.toArray⟩ w (by rw[bz];omega) (by rw[U];exact he) jx ag so).mono ?_;rintro e w' ⟨rfl,wL⟩;refine fin 0 _ w' (by decide) ?_ wL;unfold W.uE W.wF;rw[he,W.aiF λv h=>by rw[he]at h;cases h]
end Go.Fer.Sk
namespace Go.Fer
open Go.RowKit
abbrev oG:aa:=.int .i64
def Wz(x:z14'):L (z14'):=eF (x.1.length<4611686018427387904) (x.1.mergeSort (λa b=>decide (a<=b)),())
def sC:cO:=⟨⟨[(0,.own 200001)],[(200001,.bo oG)]⟩,⟨[],[(200001,.bo oG)]⟩,[],1,Wz⟩
section
variable {P:Program} {F:Nat->Prop} {w:World}
variable {cs:Array Value}{off:Nat}{xs:z1'}
theorem aiG(h:nD P oG F w cs off xs){i:Nat}(G:i<xs.length):cs[off+i]?=some (.int .i64 xs[i])/\gQ .i64 xs[i]:=by
 obtain⟨bE,E,M,al⟩:=h i G;subst M;have:=E 0 (by simp);refine⟨?_,al⟩;have e:off+i*aa.size oG+0=off+i:=by show off+i*1+0=off+i;omega
 rw[e]at this;exact this
theorem aDl(h:∀ i (h:i<xs.length),cs[off+i]?=some (.int .i64 xs[i])/\gQ .i64 xs[i]):nD P oG F w cs off xs:=λi G=>by
 obtain⟨E,M⟩:=h i G;refine⟨[.int .i64 xs[i]],λj aM=>?_,rfl,M⟩;have aM:j=0:=by simpa using aM
 subst aM;have e:off+i*aa.size oG+0=off+i:=by show off+i*1+0=off+i;omega
 rw[e];exact E
theorem aDm{T:TypeId}{b:Nat}(U:w.heap[b]?=some (.cells cs T (0,0)))(h:nD P oG F w cs off xs):Go.Sort.Holds (Value.int .i64) w b off xs.toArray:=λj aM=>by
 have gV:j<xs.length:=by simpa using aM
 obtain⟨E,_⟩:=aiG h gV;refine⟨?_,by simp[World.frozen?,U]⟩;simp only[World.cell?,U];simp only[Option.isSome_none,amW,aQv];rw[E];simp[gV]
theorem aDn{br:z1'}(ai:br.length=xs.length)(bh:∀ y∈br,gQ .i64 y)(cQ:off+xs.length<=cs.size):nD P oG F w (Go.Sort.putCells (Value.int .i64) off br.toArray cs) off br:=by
 refine aDl λi G=>⟨?_,bh _ (amV G)⟩
 have E:off+i<cs.size:=by omega
 simp[Go.Sort.putCells,E,G]
end
section
variable {P:Program} {aJ:dX}
theorem aDo{k:FuncId}(he:∀ args w,(callFunc k args).run P w=.ok (.enter k args) w)
    (E:∀ (ab off cap:Nat) (zs:z1') (w:World),Go.Sort.Holds (Value.int .i64) w ab off zs.toArray->ab<w.heap.size->zs.length<4611686018427387904->Calls P k #[.slice (some ⟨ab,off,none⟩) zs.length cap] w λe w'=>
      e=.returned (.tuple #[])/\∃ n os,w'=Go.Sort.grow (Go.Sort.putRow (Value.int .i64) (Go.Sort.ahead w n) ab off (zs.mergeSort λx y=>decide (x<=y)).toArray) os)
    (aV:∀ (p:Option Addr) (cap:Nat) (w:World),Calls P k #[.slice p 0 cap] w λe w'=>e=.returned (.tuple #[])/\w'=w):cW P aJ k sC where
  enter:=he
  iv C a w kap F A jX xE D ay r9 vx h ax:=by
    obtain⟨xs,u⟩:=A;have hlen:xs.length<4611686018427387904:=ax;have cQ:a.tmps.size=1:=h.dY.trans r9;have rn:=h.b5 0;have U:=h.bH 200001;change mA C.P _ kap F w (kap 200001) (.bo oG xs) at U;have ag:a.tmps.getD 0 undef=(kap 200001).slice xs.length:=rn.2 rfl rfl;have aZ:a.tmps=#[(kap 200001).slice xs.length]:=by
      apply Array.ext (by simp[cQ]);intro i G ea;have:i=0:=by omega
      subst this;rw[<-ag];simp[Array.getD,cQ]
    have qz:∀ bn,bn=((xs.mergeSort (λx y=>decide (x<=y)),()):z14')->(sC.sh (xs,u)).a8 bn:=λbn e=>e;have qt:∀ {w':World} {F':Nat->Prop} {br:z1'},bx C (aE.mk (sC.cC.ae (xs,u)).aD λi=>if i=200001 then ⟨0,.bo oG br⟩ else (sC.cC.ae (xs,u)).ab i) a w' kap F'->bx { C with b3:=0 } (sC.a8.ae (br,())) { tmps:=#[],defers:=[] } w' kap F':=λ{w' F' br} fp=>by
      have e:(sC.a8.ae (br,())).ab=λi=>if i=200001 then (⟨0,.bo oG br⟩:b_) else (sC.cC.ae (xs,u)).ab i:=by
        funext i;show eP [(200001,ca.bo oG br)] i=if i=200001 then _ else eP [(200001,ca.bo oG xs)] i
        simp only[eP];by_cases G:i=200001
        · rw[if_pos G,if_pos G]
        · rw[if_neg G,if_neg G,if_neg G]
      refine { dY := rfl, dm := ay.symm, b5 := λi => trivial, bH := λb => ?_, own := λb => ?_, inj := λb bk => ?_, du := fp.du, hT := fp.hT, iy := fp.iy, iz := fp.iz, e6 := fp.e6, size := fp.size, eN := fp.eN, hJ := aQF _, ll := fp.ll, iY := λb r => ?_, ln := fp.ln, jF := λb k => ?_, e8 := λl aK ad n ae e => (by cases e), bU := λa1 m hm => (by
        have hm:(eP [(200001,ca.bo oG br)] 140000).body=.bU a1 m:=hm;simp[eP]at hm),j7:=fp.j7,h4:=fp.h4 }
      · rw[e];exact fp.bH b
      · rw[e];exact fp.own b
      · rw[e];exact fp.inj b bk
      · rw[e];exact fp.iY b r
      · rw[e];exact fp.jF b k
    subst jX;rw[aZ];by_cases aA:(kap 200001).fT=true
    · have an:xs=[]:=U.1 aA
      subst an
      have jU:(kap 200001).slice 0=.slice none 0 0:=by simp[bL.slice,aA]
      rw[show ([]:z1').length=0 from rfl,jU]
      refine (aV none 0 w).mono ?_
      rintro e w' ⟨rfl,rfl⟩
      refine⟨_,([],()),[],kap,F,rfl,qz _ (congrArg (λl=>(l,())) List.mergeSort_nil.symm),⟨[],rfl,rfl,rfl⟩,qt ?_⟩
      have e:(λi=>if i=200001 then (⟨0,.bo oG []⟩:b_) else (sC.cC.ae ([],u)).ab i)=(sC.cC.ae ([],u)).ab:=by
        funext i;by_cases G:i=200001
        · subst G;rfl
        · rw[if_neg G]
      rw[e]
      exact h
    · have aA:(kap 200001).fT=false:=by simpa using aA
      obtain⟨cs,T,dv,fc,ji,vn,J_⟩:=U.2 aA
      have eJ:((sC.cC.ae (xs,u)).ab 200001).body.cg (kap 200001)=true:=by show (!(kap 200001).fT)=true;rw[aA];rfl
      have au:=h.own 200001 eJ
      have jU:(kap 200001).slice xs.length=.slice (some ⟨(kap 200001).ab,(kap 200001).off,none⟩) xs.length (kap 200001).cap:=by simp[bL.slice,aA]
      rw[jU]
      refine (E (kap 200001).ab (kap 200001).off (kap 200001).cap xs w (aDm dv J_) au.1 hlen).mono ?_
      rintro e w' ⟨rfl,n,os,rfl⟩
      have ak:(xs.mergeSort λx y=>decide (x<=y)).Perm xs:=List.mergeSort_perm _ _
      generalize mc:(xs.mergeSort λx y=>decide (x<=y))=br at ak qz
      have Qz:br.length=xs.length:=ak.length_eq
      have P':(kap 200001).off+xs.length<=cs.size:=by
        have:(kap 200001).cap*aa.size oG=(kap 200001).cap:=Nat.mul_one _;omega
      have bh:∀ y∈br,gQ .i64 y:=λy bf=>by
        have:=ak.mem_iff.1 bf;obtain⟨i,G,rfl⟩:=List.getElem_of_mem this;exact (aiG J_ G).2
      have aDp:(Go.Sort.putRow (Value.int .i64) (Go.Sort.ahead w n) (kap 200001).ab (kap 200001).off br.toArray).heap[(kap 200001).ab]?=some (.cells (Go.Sort.putCells (Value.int .i64) (kap 200001).off br.toArray cs) T (0,0)):=by
        simp[Go.Sort.putRow,Go.Sort.mapBlock,Go.Sort.ahead,Array.getElem?_modify,dv,Go.Sort.onCells]
      have wZ:bx C ((sC.cC.ae (xs,u)).cq 200001 ⟨0,.bo oG br⟩) a (Go.Sort.putRow (Value.int .i64) (Go.Sort.ahead w n) (kap 200001).ab (kap 200001).off br.toArray) kap F:=by
        refine h.q5 (b:=200001) (x:=⟨0,.bo oG br⟩) eJ ?_ ?_ nofun nofun (λr D=>?_) (by simp[Go.Sort.putRow,Go.Sort.mapBlock,Go.Sort.ahead]) ⟨rfl,rfl,rfl⟩ (λH pw iJ nJ=>⟨λhc=>absurd (aA.symm.trans hc) nofun,λ_=>?_⟩)
        · show (!(kap 200001).fT)=true;rw[aA];rfl
        · intro b
          by_cases U:b=200001
          · subst U
            exact⟨amY _,λ_=>⟨nofun,λ_=>⟨rfl,rfl,Qz,rfl⟩,nofun,nofun⟩⟩
          · show t' _ (if b=200001 then _ else _) _ _
            rw[if_neg U]
            exact t'.refl _ _
        · simp[Go.Sort.putRow,Go.Sort.mapBlock,Go.Sort.ahead,Array.getElem?_modify,Ne.symm D]
        · refine⟨_,T,aDp,?_,?_,vn,aDn Qz bh P'⟩
          · simpa [Go.Sort.putCells]using fc
          · show br.length<=_
            omega
      refine⟨_,(br,()),[],kap,_,rfl,qz _ rfl,⟨[],rfl,rfl,rfl⟩,qt (wZ.grow ?_)⟩
      refine⟨rfl,rfl,rfl,by simp[Go.Sort.grow],λk aj=>?_⟩
      simp only[Go.Sort.grow]
      rw[Array.getElem?_append_left aj]
end
end Go.Fer
namespace Go.Fer
open Go.RowKit
def aDq(e:aa)(x:z25'):L (List e.aq×Unit):=eF (0<=x.1/\x.1<60000) ([],())
def yf(e:aa):cO:=⟨⟨[(0,.dd),(1,.val (.int .i64))],[]⟩,⟨[(0,.own 50000)],[(50000,.bo e)]⟩,[none],2,aDq e⟩
section
variable {P:Program} {aJ:dX} {e:aa}
theorem aiH{C:cJ}{a:Act}{w w':World}{kap:Nat->bL}{F:Nat->Prop}{A:(yf e).cC.aq}(h:bx C ((yf e).cC.ae A) a w kap F)(ay:C.dm=[]){kb:bL}{v:Value}
  (ag:v=kb.slice 0) (cQ:w.heap.size<=w'.heap.size) (hw:∀ r,r<w.heap.size->w'.heap[r]?=w.heap[r]?) (hc:dN w w') (mf:kb.fT=false->kb.ab=w.heap.size/\w.heap.size<w'.heap.size)
  (a6:kb.fT=false->∃ cs T,w'.heap[kb.ab]?=some (.cells cs T (0,0))/\kb.off+kb.cap*e.size<=cs.size/\kb.cap<2 ^ 63/\w4 C.P e T) :
  bx { C with b3:=1 } ((yf e).a8.ae ([],())) { tmps:=#[v],defers:=[] } w' (λi=>if i=50000 then kb else kap i) F:=by
 have U:∀ b,((yf e).a8.ae ([],())).ab b=if b=50000 then ⟨0,.bo e []⟩ else ⟨0,.ez⟩:=λb=>rfl
 have aZ:∀ b,b≠50000->((yf e).a8.ae ([],())).ab b=⟨0,.ez⟩:=λb aA=>by rw[U,if_neg aA]
 have bR:((yf e).a8.ae ([],())).ab 50000=⟨0,.bo e []⟩:=rfl;have eJ:∀ b,(((yf e).a8.ae ([],())).ab b).body.cg (if b=50000 then kb else kap b)=true->b=50000/\kb.fT=false:=λb au=>by
  by_cases e:b=50000
  ·subst e;rw[bR,if_pos rfl]at au;exact⟨rfl,by simpa [ca.cg]using au⟩
  ·rw[aZ b e]at au;cases au
 refine { dY:=rfl,dm:=ay.symm,b5:=λi=>?_,bH:=λb=>?_,own:=λb au=>?_,inj:=λb bk E M _=>?_,du:=λr D=>aQt (h.du r D) cQ,hT:=h.hT,iy:=h.iy,iz:=h.iz,e6:=λr D=>?_,size:=am5 h.size cQ,eN:=h.eN.trans hc,hJ:=(by unfold fD;exact (by decide:1<=100000)),ll:=h.ll,iY:=λb r D kE=>?_,ln:=h.ln,jF:=λb k aj _ G=>?_,e8:=λl aK ad n ae e=>(by cases e),bU:=λa1 m hm=>(by rw[aZ cG (by decide)]at hm;cases hm),j7:=h.j7,h4:=h.h4.mono (λ_ h=>h) ⟨cQ,λr D=>hw r (h.du r D)⟩ }
 ·by_cases G:i=0
  ·subst G;refine⟨⟨amY _,?_⟩,λ_ _=>?_⟩
   ·show v.oneCell'=true;rw[ag];unfold bL.slice;split<;>rfl
   ·show v=_;rw[ag];show kb.slice 0=(if (50000:Nat)=50000 then kb else kap 50000).slice 0;rw[if_pos rfl]
  ·have:((yf e).a8.ae ([],())).aD i=.undef:=by
    show fw [(0,aN.own 50000 0)] i=.undef;simp[fw,G]
   rw[this];trivial
 ·unfold c1;by_cases aF:b=50000
  ·subst aF;rw[bR];show mA _ _ _ _ _ (if (50000:Nat)=50000 then kb else kap 50000) (.bo e []);rw[if_pos rfl];refine⟨λ_=>rfl,λaA=>?_⟩;obtain⟨cs,T,E,M,al,a7⟩:=a6 aA;exact⟨cs,T,E,M,aQF _,⟨al,a7⟩,λi G=>absurd G (Nat.not_lt_zero _)⟩
  ·rw[aZ b aF];trivial
 ·obtain⟨rfl,aA⟩:=eJ b au;obtain⟨E,M⟩:=mf aA;rw[if_pos rfl,E];refine⟨M,λaC=>?_,λaj=>?_⟩
  ·have:=h.du _ aC;omega
  ·have:=h.iz _ aj;have:=h.size;omega
 ·rw[(eJ b E).1,(eJ bk M).1]
 ·have E:=h.iz r D;rw[hw r (aQt E h.size)];exact h.e6 r D
 ·by_cases aF:b=50000
  ·subst aF;rw[bR]at kE;rcases kE with h | h<;>cases h
  ·rw[aZ b aF]at kE;rcases kE with h | h<;>cases h
 ·by_cases aF:b=50000
  ·subst aF;have:=h.ln _ _ aj;unfold Ar at this;omega
  ·rw[aZ b aF]at G;cases G
theorem aiI{k:FuncId}(he:∀ args w,(callFunc k args).run P w=.ok (.enter k args) w)
  (aV:∀ w:World,Calls P k #[.slice none 0 0,.int .i64 0] w λe w'=>e=.returned (.slice none 0 0)/\w'=w)
  (E:∀ (n:Nat) (w:World),0<n->n<60000->Calls P k #[.slice none 0 0,.int .i64 (n:Int)] w λy w'=>∃ (cr:Nat) (T:TypeId) (cs:Array Value),y=.returned (.slice (some ⟨w.heap.size,0,none⟩) 0 cr)/\
   w'=w.drew.alloc (.cells cs T)/\cr<2 ^ 63/\cr*e.size<=cs.size/\w4 P e T):cW P aJ k (yf e) where
 enter:=he
 iv C a w kap F A jX xE D ay r9 vx h ax:=by
  obtain⟨n,u⟩:=A;change Int at n;obtain⟨yH,xd⟩:0<=n/\n<60000:=ax;have cQ:a.tmps.size=2:=h.dY.trans r9;have aDr:a.tmps.getD 0 undef=.slice none 0 0:=h.b5 0;have rU:a.tmps.getD 1 undef=.int .i64 n:=(hR.1 (h.b5 1)).1;have aZ:a.tmps=#[.slice none 0 0,.int .i64 n]:=by
   apply Array.ext (by simp[cQ]);intro i G ea;have:i=0\/i=1:=by omega
   rcases this with rfl | rfl
   ·rw[<-aDr];simp[Array.getD,cQ]
   ·rw[<-rU];simp[Array.getD,cQ]
  subst jX;rw[aZ];by_cases bz:n=0
  ·subst bz;refine (aV w).mono ?_;rintro y w' ⟨rfl,rfl⟩;refine⟨_,([],()),[.slice none 0 0],_,F,rfl,rfl,⟨[.slice none 0 0],rfl,rfl,[],rfl,rfl⟩,aiH h ay (kb:=⟨0,0,0,true⟩) rfl (amY _) (λ_ _=>rfl) (dN.refl _) nofun nofun⟩
  ·obtain⟨m,rfl⟩:∃ m:Nat,n=m:=⟨n.toNat,by omega⟩
   refine (E m w (by omega) (by omega)).mono ?_;rintro y w' ⟨cr,T,cs,rfl,rfl,fm,q8,aU⟩;refine⟨_,([],()),[.slice (some ⟨w.heap.size,0,none⟩) 0 cr],_,F,rfl,rfl,⟨[_],rfl,rfl,[],rfl,rfl⟩,aiH h ay (kb:=⟨w.heap.size,0,cr,false⟩) rfl (by simp) (λr D=>?_) ⟨rfl,rfl,rfl⟩ (λ_=>⟨rfl,by simp⟩) (λ_=>⟨cs,T,?_,by simpa using q8,fm,aU⟩)⟩
   ·exact rT w.drew _ D
   ·show (w.drew.heap.push _)[w.heap.size]?=_;exact Array.getElem?_push_size
theorem aiJ{rho:Go.Shelf.Ren}(ad:Go.Proofs.Lays8.n4 P rho)(w:World):Calls P (rho.f 4) #[.slice none 0 0,.int .i64 0] w λe w'=>e=.returned (.slice none 0 0)/\w'=w:=
 Go.Proofs.Any8.slices_Grow_room ad none 0 0 0 w (amY _) (by decide) (by decide) (amY _)
theorem aiK{rho:Go.Shelf.Ren}(ad:Go.Proofs.Lays8.n4 P rho)(aH:cx P e (rho.t 25))(ax:e.size≠0)(n:Nat)(w:World)(aV:0<n)(E:n<60000) :
  Calls P (rho.f 4) #[.slice none 0 0,.int .i64 (n:Int)] w λy w'=>∃ (cr:Nat) (T:TypeId) (cs:Array Value),y=.returned (.slice (some ⟨w.heap.size,0,none⟩) 0 cr)/\w'=w.drew.alloc (.cells cs T)/\cr<2 ^ 63/\cr*e.size<=cs.size/\w4 P e T:=by
 obtain⟨i0,z,sY,cQ,U,ahC,aDs,_⟩:=nF aH.nE;have qy:0<i0.size:=by omega
 have yG:=(Gr (P:=P) e aDs).2;refine (Go.Proofs.Any8.slices_Grow_grow ad i0 z sY ahC qy none 0 0 n [] w (amY _) (by omega) ?_ (by omega) (by simp) (λ_=>rfl) nofun).mono ?_
 ·have:(0+n)*i0.bytes<=(0+n)*1024:=Nat.mul_le_mul_left _ U;omega
 ·rintro y w' ⟨rfl,rfl⟩;refine⟨_,_,_,rfl,rfl,?_,?_,aH.KD⟩
  ·have:=grownCap_le_maxLen w (0+n) 0 (rho.t 25) (by unfold maxLen;omega);unfold maxLen at this;omega
  ·have:=grownCap_ge w (0+n) 0 (rho.t 25);generalize grownCap w (0+n) 0 (rho.t 25)=cr at this;simp only[Array.size_append,size_zeroCells,yG];have aF:(0+n - 0)*e.size+(cr - (0+n))*e.size=cr*e.size:=by rw[<-aQ8];congr 1;omega
   have bB:(#[]:Array Value).size=0:=rfl;omega
end
end Go.Fer
namespace Go.Fer.Sk
open Go.Proofs
def Jj(aJ:dX)(c:cO)(sh:Nat->c.cC.aq->L c.a8.aq):List Nat->Prop
 | []=>True
 | k::l=>cW Tryz.prog aJ k { c with sh:=sh k }/\Jj aJ c sh l
theorem Jj.mem{aJ:dX}{c:cO}{sh:Nat->c.cC.aq->L c.a8.aq}:∀ {l:List Nat},Jj aJ c sh l->∀ k∈l,cW Tryz.prog aJ k { c with sh:=sh k }
 | [],_,k,h=>by cases h
 | j::l,h,k,aj=>by
  rcases List.mem_cons.1 aj with rfl | aj
  ·exact h.1
  ·exact Jj.mem h.2 k aj
theorem CB{k:Nat}{e:aa}{f:List e.aq×Unit->L (List e.aq×Unit)}{sh:(aa.slice e).aq->L (aa.slice e).aq}(h:cW Tryz.prog dV k ⟨⟨[(0,.val (.slice e))],[]⟩,⟨[(0,.own 60)],[(60,.bo e)]⟩,[none],1,f⟩)
  (ak:∀ x:List e.aq,(sh x).fr->(f (x,())).fr/\∀ bn,(f (x,())).a8 bn->bn.1=(sh x).val (aa.slice e).dW):qf (jN.mI ⟨.slice e,.slice e,sh,true⟩).aS=true/\GC Tryz.prog k (jN.mI ⟨.slice e,.slice e,sh,true⟩):=
 auf (by simp) h lz (b0:=60) (λx=>(x,())) (λx=>rfl) rfl (by show 1<=fD;decide) rfl (λbn=>bn.1) (λbn=>⟨rfl,rfl⟩) ak
abbrev aDt:Code:=Tryz.f166.body.getD .skip
theorem aDu(aJ:dX):cW Tryz.prog aJ 166 sC:=
 aDo (rv Tryz.func166 (show Tryz.f166.body=some aDt by kernel_rfl) (by kernel_rfl)) (λab off cap zs w E M al=>calls_of_every_depth λct=>AnyS.slices_Sort_int_in Tryz.ais ct ab off cap zs w E M al)
  λp cap w=>Any.slices_Sort_int_none Tryz.ais p cap w
theorem aDv:Wz=H.Eo:=by
 funext x;unfold Wz H.Eo;rw[show x.1.mergeSort (λa b=>decide (a<=b))=H.hl H.jw x.1 from (H.En ((List.pairwise_mergeSort (le:=λa b:Int=>decide (a<=b)) (λa b c E M=>by simp at E M ⊢;omega) (λa b=>by simp;omega) x.1).imp λh=>by simpa using h) (List.mergeSort_perm _ _).symm).symm]
def WA:cO:=⟨⟨[(0,.own 200001)],[(200001,.bo cU)]⟩,⟨[],[(200001,.bo cU)]⟩,[],1,H.Eo⟩
theorem aiL:cW Tryz.prog dV 166 WA:=by
 have:=aDu dV;unfold sC at this;rw[aDv]at this;exact this
abbrev aDw:Code:=Tryz.f243.body.getD .skip
abbrev aDx:Code:=Tryz.f242.body.getD .skip
def aiM:cO:=⟨⟨[(0,.dd),(1,.val cU)],[]⟩,⟨[(0,.own 50000)],[(50000,.bo cU)]⟩,[none],2,H.N6⟩
def aiN:cO:=⟨⟨[(0,.dd),(1,.val cU)],[]⟩,⟨[(0,.own 50000)],[(50000,.bo H.i')]⟩,[none],2,H.N7⟩
theorem aDy:cW Tryz.prog dV 243 aiM:=
 aiI (e:=cU) (rv Tryz.func243 (show Tryz.f243.body=some aDw by kernel_rfl) (by kernel_rfl)) (aiJ Tryz.aiw) (aiK Tryz.aiw (qE.cb (id:=3) rfl (by decide)) (by decide))
theorem aDz:cW Tryz.prog dV 242 aiN:=
 aiI (e:=H.i') (rv Tryz.func242 (show Tryz.f242.body=some aDx by kernel_rfl) (by kernel_rfl)) (aiJ Tryz.aix) (aiK Tryz.aix (qE.cb (id:=116) rfl (by decide)) (by decide))
def dT:=aud.cons (n:=107) (c:=W.Oj.dL) ⟨aC5,λ_ _=>sc⟩
def eo:=dT.cons (n:=189) (c:=W.Ob.dL) ⟨aC9,λ_ _=>sc⟩
def ko:=eo.cons (n:=247) (c:=W.Jc.dL) ⟨aC',λ_ _=>sc⟩
def aDA:=ko.cons (n:=108) (c:=W.Je.dL) ⟨aDk,λ_ _=>sc⟩
end Go.Fer.Sk
namespace Go.Proofs
open Go.RowKit
def Tryz.CC(b:UInt8):Bool:=decide (32<=b.toNat)&&decide (b.toNat<=126)
def Tryz.vd(s:ByteArray)(pos:Nat):Prop:=∀ i,(h:i<s.size)->pos<=i->Tryz.CC (s[i]'h)=true
theorem Tryz.aDB(s:ByteArray)(pos:Nat)(h:pos<s.size):Tryz.vd s pos<->Tryz.CC (s[pos]'h)=true/\Tryz.vd s (pos+1):=by
 constructor
 ·intro k;exact⟨k pos h (amY _),λi G ak=>k i G (by omega)⟩
 ·rintro⟨aO,aT⟩ i G ak;by_cases e:i=pos
  ·subst e;exact aO
  ·exact aT i G (by omega)
theorem Tryz.aiO{w:World}{k:Nat}{s:ByteArray}{p:Nat}(h:w.heap[k]?=some (.stringIter s p)):w.iterPos k=p:=by simp[World.iterPos,h]
open Classical in
set_option maxHeartbeats 4000000 in
set_option maxRecDepth 1000000 in
theorem Tryz.aDC(s:ByteArray)(w:World) :
  Calls Tryz.prog 39 #[.string s] w λe w'=>e=.returned (.bool (decide (Tryz.vd s 0)))/\Below w.heap.size w w':=by
 go_enter Tryz.func39,Tryz.ntmps39;go_wp2;go_loopw [] (λwr=>∃ (pos:Nat),wr.heap[w.heap.size]?=some (.stringIter s pos)/\Below w.heap.size w wr/\(Tryz.vd s pos<->Tryz.vd s 0)) (λwr=>s.size - wr.iterPos w.heap.size);case atStart=>exact⟨0,World.iter_heap w s 0,(Below.refl _ _).alloc (amY _) _,Iff.rfl⟩
 case round=>
  obtain⟨pos,hit,wL,b8⟩:=hrel;have aDD:=Tryz.aiO hit;by_cases ak:pos<s.size
  ·have bg:∀ ty,(Instr.next (.pointer (some ⟨w.heap.size,0,none⟩)) true ty).run Tryz.prog wr=_:=λty=>Lib.run_next_any_at wr w.heap.size s pos ty hit ak;have OB:=Lib.iterAt_heap wr w.heap.size s pos (pos+(Utf8.decode s pos).2) hit;have Fj:=Lib.below_iterAt wL (k:=w.heap.size) (amY _) s (pos+(Utf8.decode s pos).2);have hA:=Tryz.aDB s pos ak;by_cases aZ:(s[pos]'ak).toNat<128
   ·rw[decode_ascii s pos ak aZ]at bg OB Fj;simp only at bg OB Fj;obtain⟨n,aA⟩:∃ n,n=(s[pos]'ak).toNat:=⟨_,rfl⟩
    have U:Tryz.CC (s[pos]'ak)=(decide (32<=n)&&decide (n<=126)):=by rw[aA];rfl
    rw[<-aA]at bg aZ;by_cases E:(n:Int)<32
    ·have ij:decide (Tryz.vd s 0)=false:=by
      rw[aQE,<-b8,hA,U];simp;omega
     go_wp2;go_ret;exact⟨rfl,Fj⟩
    ·by_cases M:(n:Int) > 126
     ·have ij:decide (Tryz.vd s 0)=false:=by
       rw[aQE,<-b8,hA,U];simp;omega
      go_wp2;go_ret;exact⟨rfl,Fj⟩
     ·go_wp2;go_roundw;case rel=>
       refine⟨pos+1,OB,Fj,?_⟩;rw[<-b8,hA,U];have:(decide (32<=n)&&decide (n<=126))=true:=by simp;omega
       simp[this]
      case measure=>rw[Tryz.aiO OB,aDD];omega
   ·obtain⟨d1,d2⟩:=decode_high s pos ak (by omega);obtain⟨n,aA⟩:∃ n,n=(Utf8.decode s pos).1:=⟨_,rfl⟩
    rw[<-aA]at bg d1;have E:¬(n:Int)<32:=by omega
    have M:(n:Int) > 126:=by omega
    have ij:decide (Tryz.vd s 0)=false:=by
     rw[aQE,<-b8,hA];unfold Tryz.CC;simp;omega
    go_wp2;go_ret;exact⟨rfl,Fj⟩
  ·have bg:∀ ty,(Instr.next (.pointer (some ⟨w.heap.size,0,none⟩)) true ty).run Tryz.prog wr=_:=λty=>Lib.run_next_end_at wr w.heap.size s pos ty hit ak;have aDE:decide (Tryz.vd s 0)=true:=by
    rw[aQ6,<-b8];intro i G He;omega
   go_wp2;go_ret;exact⟨by rw[aDE];rfl,wL⟩
end Go.Proofs
namespace Go.Fer
open Go.RowKit Go.Proofs Go.Shelf
abbrev Jk(n:Nat):aa:=.ae (.aw (.bP (.array n .dc)) (.slice (.int .u8)))
def aiP(n:Nat):List (Nat×cc):=[(100001,.cells (Jk n) [.hS 100001,.own 100002]),(100002,.bo (.int .u8))]
def OC(n:Nat):cO:=⟨⟨[(0,.eZ 100001 0)],aiP n⟩,⟨[],aiP n⟩,[],1,λA=>mpure A⟩
theorem aDF{P:Program}{rho:Ren}(ad:Lays.n240 P rho)(X:Builder.X72 P rho){aJ:dX}{n:Nat}(aA:P.underlying n=some (.pointer (rho.t 72)))(he:∀ args w,(callFunc (rho.f 240) args).run P w=.ok (.enter (rho.f 240) args) w):cW P aJ (rho.f 240) (OC n) where
  enter:=he
  iv C a w kap F A jX xE D ay r9 vx h ax:=by
    obtain⟨xs,u⟩:=A;have cQ:a.tmps.size=1:=h.dY.trans r9;have rn:=h.b5 0;have U:=h.bH 100001;let ae:=(OC n).cC.ae (xs,u);change mA C.P ae.ab kap F w (kap 100001) (.cells (Jk n) (h5 [.hS 100001 0,.own 100002 0])) at U;have ag:a.tmps.getD 0 undef=.pointer (some ⟨(kap 100001).ab,0,none⟩):=rn.2 rfl rfl;have aZ:a.tmps=#[.pointer (some ⟨(kap 100001).ab,0,none⟩)]:=by
      apply Array.ext (by omega);simp_all
    have qt:∀ {w':World},bx C ae a w' kap F->bx { C with b3:=0 } ((OC n).a8.ae (xs,u)) { tmps:=#[],defers:=[] } w' kap F:=λ{w'} fp=>by
      refine { dY := rfl, dm := ay.symm, b5 := λi => trivial, bH := λb => fp.bH b, own := λb => fp.own b, inj := λb bk => fp.inj b bk, du := fp.du, hT := fp.hT, iy := fp.iy, iz := fp.iz, e6 := fp.e6, size := fp.size, eN := fp.eN, hJ := aQF _, ll := fp.ll, iY := λb r => fp.iY b r, ln := fp.ln, jF := λb k => fp.jF b k, e8 := λl aK ad n ae e => (by cases e), bU := λa1 m hm => (by
        have hm:(eP [(100001,ca.cells (Jk n) (h5 [.hS 100001 0,.own 100002 0])),(100002,ca.bo (.int .u8) xs)] 140000).body=.bU a1 m:=hm;simp[eP]at hm),j7:=fp.j7,h4:=fp.h4 }
    obtain⟨cs,T,bI,⟨c2,c3⟩,c4⟩:=U;have aU:T=rho.t 72:=by
      have E:=c3 n _ rfl;grind
    have c2:cs.size=2:=c2;have oS:w.cell? ⟨(kap 100001).ab,0,none⟩=some (cs.getD 0 undef):=by
      simp[World.cell?,bI,c2]
    have iG:=(c4 0 (by omega)).1;have iG:=iG.2 rfl rfl;rw[aZ];rcases iG with iG | iG
    · refine (Any.Builder_copyCheck_fresh ad X _ w (oS.trans (congrArg some iG)) (by grind [World.shape?]) (by grind [World.frozen?])).mono ?_
      rintro e w' ⟨rfl,rfl⟩
      refine⟨_,(xs,u),[],kap,F,rfl,rfl,⟨[],rfl,rfl,rfl⟩,qt ?_⟩
      have hw:=h.q5 (b:=100001) (x:=⟨0,.cells (Jk n) (h5 [.hS 100001 0,.own 100002 0])⟩) (w':=w.setCell ⟨(kap 100001).ab,0,none⟩ (.pointer (some ⟨(kap 100001).ab,0,none⟩))) rfl rfl
        (po rfl (λ_=>rfl) (λh=>by cases h) (λh=>by cases h) (λh=>by cases h)) (λ_=>rfl) (λh=>by cases h)
        (λr D=>by grind [World.setCell]) (by simp) ⟨rfl,rfl,rfl⟩ (λH pw dx he=>?_)
      · have e:(aE.cq ((OC n).cC.ae (xs,u)) 100001 ⟨0,.cells (Jk n) (h5 [.hS 100001 0,.own 100002 0])⟩)=ae:=by
          show aE.mk _ _=aE.mk _ _;congr 1;funext i;by_cases G:i=100001
          · subst G;rfl
          · rw[if_neg G];rfl
        grind
      · refine⟨cs.setIfInBounds 0 (.pointer (some ⟨(kap 100001).ab,0,none⟩)),T,?_,⟨by grind,c3⟩,λi G=>?_⟩
        · grind [World.setCell]
        · rcases aRs i 1 with aV | aV
          · obtain rfl:i=0:=by omega
            have bQ:(cs.setIfInBounds 0 (.pointer (some ⟨(kap 100001).ab,0,none⟩))).getD 0 undef=.pointer (some ⟨(kap 100001).ab,0,none⟩):=by simp_all
            rw[bQ]
            exact⟨⟨⟨aQF _,rfl⟩,λ_ _=>.inr rfl⟩,rfl⟩
          · have bQ:(cs.setIfInBounds 0 (.pointer (some ⟨(kap 100001).ab,0,none⟩))).getD 1 undef=cs.getD 1 undef:=by simp
            grind [bM.later]
    · refine (Any.Builder_copyCheck_used ad X _ w (oS.trans (congrArg some iG))).mono ?_
      rintro e w' ⟨rfl,rfl⟩
      exact⟨_,(xs,u),[],kap,F,rfl,rfl,⟨[],rfl,rfl,rfl⟩,qt h⟩
end Go.Fer
namespace Go.Fer
open Go.RowKit
theorem aDG{P:Program}{aJ:dX}{k:FuncId}{ts e:aa}(uM:ts≠.dc)(he:e.pure=true){c:cO}(h:cW P aJ k c)(iI:q2 P aJ){sh:ts.aq->L (List e.aq)}{b0:Nat}(mk:ts.aq->c.cC.aq)
    (Tr:∀ x,c.cC.ae (mk x)=⟨fw ((List.range (jV ts)).map λi=>(i,kh ts x i)),λ_=>⟨0,.ez⟩⟩) (aA:c.k1=jV ts) (jo:c.k1<=fD) (Ts:c.lu=[none]) (val:c.a8.aq->List e.aq) (qz:∀ bn,(c.a8.ae bn).aD 0=.own b0 0/\(c.a8.ae bn).ab b0=⟨0,.bo e (val bn)⟩)
    (mY:∀ x,(sh x).fr->(c.sh (mk x)).fr/\∀ bn,(c.sh (mk x)).a8 bn->(sh x).a8 (val bn)):hI P k ts (.slice e) sh/\F4 P k ts (.slice e) sh:=by
  have key:∀ (F:Nat->Prop) (w:World) (args:List Value) (x:ts.aq),(∀ r,F r->r<w.heap.size)->pj P F w->gB P ts F w args x->(sh x).fr->
      Calls P k args.toArray w λa1 w'=>∃ (v:Value) (y:(aa.slice e).aq),a1=.returned v/\(sh x).a8 y/\tW P (.slice e) (λr=>w.heap.size<=r/\r<w'.heap.size) w' v y/\Below w.heap.size w w':=by
    intro F w args x bq fm fv ax;obtain⟨kg,DU⟩:=vD (H:=λ_=>⟨0,.ez⟩) (kap:=λ_=>⟨0,0,0,false⟩) ts fv uM;let C:cJ:={ P:=P,et:=w,jE:=F,K0:=λr=>r<w.heap.size,b3:=c.k1,r:=none,dm:=[],kf:=λ_=>none,cK:=⟨0,.dc,λ_=>False,λ_ _ _ _ _=>False⟩,aW:=aJ }
    have vT:∀ i,fw ((List.range (jV ts)).map λi=>(i,kh ts x i)) i=.undef\/(i<jV ts/\fw ((List.range (jV ts)).map λi=>(i,kh ts x i)) i=kh ts x i):=λi=>by
      rcases S2 (l:=(List.range (jV ts)).map λi=>(i,kh ts x i)) (i:=i) with e | e
      · exact .inl e
      · refine .inr ?_
        generalize bz:fw ((List.range (jV ts)).map λi=>(i,kh ts x i)) i=z at e
        simp only[aRY,aR9,aQx]at e
        obtain⟨j,aM,rfl,rfl⟩:=e
        exact⟨aM,rfl⟩
    have D:bx C (c.cC.ae (mk x)) { tmps:=args.toArray,defers:=[] } w (λ_=>⟨0,0,0,false⟩) F:=by
      rw[Tr];refine { dY := ?_, dm := rfl, b5 := λi => ?_, bH := λb => trivial, own := λb U => (by cases U), inj := λb bk U _ _ => (by cases U), du := bq, hT := λr D => .inl D, iy := λr D => D, iz := λr D => D, e6 := λr _ => rfl, size := amY _, eN := dN.refl w,hJ:=jo,ll:=λb r h=>(by grind),iY:=λb r h=>(by grind),ln:=λb k h=>(by grind),jF:=λb k h=>(by grind),e8:=λl aK ad n ae e=>?_,bU:=λe m hm=>(by grind),j7:=iI,h4:=fm }
      · grind
      · rcases vT i with e | ⟨G,e⟩
        · grind [bM]
        · show bM _ _ _ _ _ (fw _ i) _
          rw[e]
          have:=DU i G
          simpa  using this
      grind [cd,fD]
    obtain⟨Hm,pA⟩:=mY x ax;refine (h.iv C _ w _ F (mk x) rfl rfl rfl rfl rfl rfl D Hm).mono λa1 w' ⟨v,bn,aI,bV,F',Ak,gN,uL,bm⟩=>?_;obtain⟨Tt,xI⟩:=qz bn;rw[Ts]at uL;obtain⟨us,nK,Hg,Bn⟩:=uL;obtain⟨u,rfl⟩:∃ u,us=[u]:=by
      cases us<;>grind
    obtain⟨tX,MD,aP4⟩:=Bn;have ag:v=u:=by grind
    have fH:=bm.b5 0;rw[Tt]at fH;have Ee:u=(bV b0).slice ((c.a8.ae bn).ab b0).body.len:=by
      have:=fH.2 (by grind) (by rw[xI];rfl);simp_all
    rw[xI]at Ee;have a6:=bm.bH b0;unfold c1 at a6;rw[xI]at a6;have eJ:(bV b0).fT=false->w.heap.size<=(bV b0).ab/\(bV b0).ab<w'.heap.size:=λaA=>by
      have:=bm.own b0 (by grind [ca.cg]);omega
    refine⟨v,val bn,Ak,pA bn gN,⟨[v],rfl,(pk rfl).2 ⟨v,rfl,(eh rfl).2 ⟨?_,?_⟩⟩⟩,bm.eN.os,bm.eN.tape,bm.eN.output,bm.size,bm.e6⟩
    · rw[ag,Ee];unfold bL.slice;split<;>rfl
    · rw[ag,Ee]
      simp  [ca.len]
      obtain⟨E,M⟩:=a6
      simp  [bL.slice]
      cases aA:(bV b0).fT with
      | true=>rw[E aA];exact⟨none,0,rfl,amY _,by decide,λ_=>rfl,λp ak=>by omega⟩
      | false=>
        obtain⟨cs,T,bI,c2,c3,c4,c5⟩:=M aA;refine⟨some ⟨(bV b0).ab,(bV b0).off,none⟩,(bV b0).cap,by simp,c3,c4.1,(by simp),λp ak _=>?_⟩;cases ak;refine⟨eJ aA,rfl,λi G=>?_⟩;obtain⟨bE,d1,d2⟩:=c5 i G;refine⟨bE,⟨eJ aA,rfl,λj aM=>?_⟩,P1 e he d2⟩;grind [World.cell?]
  exact⟨⟨h.enter,λF w args x bq fm aZ ax=>(key F w args x bq fm aZ ax).mono λa1 w' ⟨v,y,E,M,⟨aI,al,a7,bR⟩,er⟩=>⟨v,y,E,M,⟨aI,al,a7,fM _ (λr D=>.inr D) (dk.refl _ _) bR⟩,er⟩⟩,⟨key⟩⟩
end Go.Fer
namespace Go.Fer
set_option maxRecDepth 100000
abbrev eO:Type:=List UInt8
def aiQ(aDH:List eO×(List UInt8->L Bool)->L Bool)(aDI:List eO->L eO)(aDJ:List UInt8->L Bool)(x:List eO):L (z32'):=
 bJ (dr (Int.ofNat (List.length x)) 40) (mpure ([],2)) (ar (aDH (x,aDJ)) (λy=>bJ y (mpure ([],1)) (ar (aDI x) (λy=>mpure (y,0)))))
def aiR(WB:List UInt8->L (List eO×z1'×Int))(x:List UInt8):L (List eO×z1'×Int):=
 ar (WB x) λy=>bS (λ(A:List eO×Int×z1'×Int×Int×z1'×Unit)=>letI b:=A.2.2;letI a:=b.2.2.1;bJ (fZ a b.2.1) (cy (ah (0<=a/\a<Int.ofNat (List.length b.1)) (bJ (decide (List.getD b.1 (Int.toNat a) (0:Int)≠-1)) (ah (b2 (Add.add (List.length A.cv) (Add.add 0 1))) (mpure (aL.az (A.1,A.2.1,b.1,b.2.1,a,A.cv++[a],())))) (mpure (aL.az (A.1,A.2.1,b.1,b.2.1,a,A.cv,()))))) (λ(A:List eO×Int×z1'×Int×Int×z1'×Unit)=>mpure (aL.az (A.1,A.2.1,A.2.2.1,A.2.2.2.1,bh A.2.2.2.2.1,A.cv,())))) (ar (mpure (aL.az (A.1,A.2.1,A.cv,()))) (λr=>mpure (aL.aX r)))) (y.1,y.2.2,y.2.1,Int.ofNat (List.length y.2.1),0,[],()) λ(A:List eO×Int×z1'×Unit)=>mpure (A.1,A.2.2.1,A.2.1)
def aDK(aDL:List eO×(List UInt8->L Bool)->L Int)(x:List eO×(List UInt8->L Bool)):L Bool:=
 ar (aDL x) λy=>mpure (decide (y>=0))
def aiS(WC:List UInt8->L Bool)(x:List UInt8):L Bool:=
 letI a:=dr (Int.ofNat (List.length x)) 60;cj (!a) (WC x) false λy=>mpure (a||!y)
def aiT(WD:List (z1')->L eO)(aDM:List eO×Int->L (List (List eO)->Prop))(WE:List UInt8×z14'->L (z20'))(aDN:List eO->L (List (z1')))(Fk:z14'->L (List UInt8×Unit))(x:List eO):L eO:=
 cy (mpure (aL.az (x,[],()))) λ(A:List eO×z1'×Unit)=>ar (aDM (A.1,8)) λy=>ar (mS y) λad=>ar (kr (λ(A:z14') (y:List eO)=>ar (ar (aDN y) (λy=>ar (WD y) λy=>ar (WE (y,A.1,())) λy=>mpure (dU.normal,y.2.1,()))) λp=>mpure (p.1,p.2.1,())) ad (A.2.1,())) λp=>yQ (ar (Fk (p.2.1,())) (λy=>mpure y.1)) (λid=>if id=0 then ar (Fk (p.2.1,())) λy=>mpure y.1 else eb) eb p.1
def aiU(aDO:List UInt8×z13'->L (Bool×z31'))(aDP:z6'×z13'->L (Int×(z11')×z13'))(aDQ:List (z1')->Prop)(aDR:List (z1')->List UInt8)(aDS:List (List (z1'))->Prop)(aiV:List (List (z1'))->List eO×Bool)(x:List UInt8):L (List eO×z1'×Int):=
 ar (aDO (x,[],())) λy=>bJ (!y.1) (mpure ([],[],140)) (bS (λ(A:Int×Int×Int×z1'×z31')=>letI b:=A.2.2;letI c:=b.2.2.1;letI a:=List.getD c (Int.toNat b.1) [];bJ (fZ b.1 A.2.1) (ah (0<=b.1/\b.1<Int.ofNat (List.length c)) (cy (ar (aDP (a,A.cv,())) (λy=>bJ (cu y.1 2) (ar (ar (ar (mpure ([],[],141)) (λr=>mpure (aL.aX r))) (λr=>mpure (aL.aX r))) (λr=>mpure (aL.aX r))) (bJ (cu y.1 1) (ah ((0:Int)<=0/\0<Int.ofNat (List.length a)) (mpure (aL.az (A.1,a,e1 (e1 A.1 (IntKind.wrap .i64 (y.2.1.1*bh (Int.ofNat (List.getD a (Int.toNat 0) (0,0,0)).2.2)))) y.2.1.2,A.2.1,b.1,b.2.1,c,y.2.2.1,())))) (mpure (aL.az (A.1,a,-1,A.2.1,b.1,b.2.1,c,y.2.2.1,())))))) (λ(A:Int×z6'×Int×Int×Int×z1'×z31')=>ah (b2 (Add.add (List.length A.cv) (Add.add 0 1))) (ah (og (aa.int .u8) A.h8 (aa.slice (aa.cP (aa.int .u8))) A.2.1/\aDQ (gD (aa.int .u8) A.h8 (aa.slice (aa.cP (aa.int .u8))) A.2.1)) (mpure (aL.az (e1 A.1 (Int.ofNat (List.length (aDR (gD (aa.int .u8) A.h8 (aa.slice (aa.cP (aa.int .u8))) A.2.1)))),A.2.2.2.1,bh A.2.2.2.2.1,A.cv++[A.2.2.1],A.fI,A.h8,()))))))) (ar (mpure (aL.az (b.2.1,c,A.cv,()))) (λr=>mpure (aL.aX r)))) (0,Int.ofNat (List.length y.2.1),0,[],y.2.1,y.2.2.1,()) (λ(A:z1'×z31')=>letI d:=A.2.2.1;ah (og (aa.int .u8) d (aa.slice (aa.slice (aa.cP (aa.int .u8)))) A.2.1/\aDS (gD (aa.int .u8) d (aa.slice (aa.slice (aa.cP (aa.int .u8)))) A.2.1)) (bJ (!(aiV (gD (aa.int .u8) d (aa.slice (aa.slice (aa.cP (aa.int .u8)))) A.2.1)).2) (mpure ([],[],142)) (mpure ((aiV (gD (aa.int .u8) d (aa.slice (aa.slice (aa.cP (aa.int .u8)))) A.2.1)).1,A.1,0)))))
def aiW(Fk:z14'->L (List UInt8×Unit))(aDT:z1'×z14'->L (z20'))(aiX:z20'->L (z14'))(x:List (z1')):L eO:=
 cy (mpure (aL.az (x,[],()))) λ(A:List (z1')×z14')=>bS (λ(A:List (z1')×z33')=>letI a:=A.2.2.1;bJ (fZ a A.2.1) (ah (0<=a/\a<Int.ofNat (List.length A.1)) (ar (aDT (List.getD A.1 (Int.toNat a) [],A.2.2.2.1,())) (λy=>ar (aiX (10,y.2.1,())) λy=>mpure (aL.az (A.1,A.2.1,bh a,y.1,()))))) (ar (mpure (aL.az (A.2.2.2.1,()))) (λr=>mpure (aL.aX r)))) (A.1,Int.ofNat (List.length A.1),0,A.2.1,()) λ(A:z14')=>ar (aiX (10,A.1,())) λy=>ar (Fk (y.1,())) λy=>mpure y.1
def aiY(WG:List eO->L (z32'))(WD:List (z1')->L eO)(WE:List UInt8×z14'->L (z20'))(Fk:z14'->L (List UInt8×Unit))(aDU:List (z1')->L (List eO))(x:List (List (z1'))):L (List eO×Bool):=
 cy (mpure (aL.az (x,[],[],()))) λ(A:List (List (z1'))×List eO×z1'×Unit)=>bS (λ(A:List (List (z1'))×Int×Int×List eO×z1'×Unit)=>letI b:=A.2.2;letI c:=List.getD A.1 (Int.toNat b.1) [];bJ (fZ b.1 A.2.1) (ah (0<=b.1/\b.1<Int.ofNat (List.length A.1)) (ar (aDU c) (λy=>ah (b2 (Add.add (List.length b.2.1) (List.length y))) (ar (WD c) (λcp=>ar (WE (cp,b.2.2.1,())) λef=>mpure (aL.az (A.1,A.2.1,bh b.1,b.2.1++y,ef.2.1,()))))))) (ar (mpure (aL.az (b.2.1,b.2.2.1,()))) (λr=>mpure (aL.aX r)))) (A.1,Int.ofNat (List.length A.1),0,A.2.1,A.2.2.1,()) λ(A:List eO×z1'×Unit)=>ar (WG A.1) λy=>letI a:=cu y.2 0;letI d:=a=true;bJ a (ah True (ar (Fk (A.2.1,())) (λcp=>ah (d->(d/\True)/\True/\True) (mpure (A.1,a&&cu y.1 cp.1))))) (ah (d->(d/\false=true)/\True/\True) (mpure (A.1,a&&cu y.1 [])))
def aDV(x:List eO×(List UInt8->L Bool)):L Int:=
 bS (λ(A:List eO×(List UInt8->L Bool)×Int×Int×Unit)=>letI a:=A.2.2.2.1;bJ (fZ a A.2.2.1) (ah (0<=a/\a<Int.ofNat (List.length A.1)) (ar (A.2.1 (List.getD A.1 (Int.toNat a) [])) (λy=>bJ y (ar (ar (mpure a) (λr=>mpure (aL.aX r))) (λr=>mpure (aL.aX r))) (mpure (aL.az (A.1,A.2.1,A.2.2.1,bh a,())))))) (ar (mpure (aL.az ())) (λr=>mpure (aL.aX r)))) (x.1,x.2,Int.ofNat (List.length x.1),0,()) λ(A:Unit)=>mpure (-1)
def aiZ(aDW:Option (List eO)×Option Int->List (List eO)->Prop)(x:List eO×Int):L (List (List eO)->Prop):=
 cy (bJ (fZ x.2 1) (ah False (ah False (mpure (aL.az (x.1,x.2,()))))) (mpure (aL.az (x.1,x.2,())))) λ(A:List eO×Int×Unit)=>mpure (aDW (some A.1,some A.2.1))
def ai0(ai1:z1'->L Int)(aDX:Int×Int×z26'->L (z1'×z26'))(WH:Int->L Int)(aDY:z32'->L eO)(x:List eO):L (List (z1')):=
 bS (λ(A:List eO×Int×List eO×Int×Int×List (z1')×Unit)=>letI e:=A.2.2;letI c:=e.2.2.1;bJ (fZ c e.2.1) (ah (0<=c/\c<Int.ofNat (List.length e.1)) (mpure (aL.az (A.1,vH (Int.ofNat (List.length (List.getD e.1 (Int.toNat c) []))) A.2.1,e.1,e.2.1,bh c,A.cv,())))) (ar (mpure (aL.az (A.1,A.2.1,A.cv,()))) (λr=>mpure (aL.aX r)))) (x,0,x,Int.ofNat (List.length x),0,[],()) λ(A:List eO×Int×List (z1')×Unit)=>bS (λ(A:Int×List eO×Int×Int×List (z1')×Unit)=>letI b:=A.2.2.2;letI a:=List.getD A.2.1 (Int.toNat b.1) [];letI d:=List.length a;bJ (fZ b.1 A.2.2.1) (ah (0<=b.1/\b.1<Int.ofNat (List.length A.2.1)) (ar (WH (Int.ofNat d)) (λy=>ar (aDY ([32],cF A.1 (Int.ofNat d))) λcp=>letI f:=a++cp;ah (b2 (Add.add d (List.length cp))) (ah (b2 (Add.add (Add.add 0 1) (List.length (df f)))) (ar (ai1 ([y]++df f)) (λef=>ah (b2 (Add.add (Add.add (List.length (df f)) 1) (Add.add 0 1))) (ah (b2 (Add.add (List.length b.2.1) (Add.add 0 1))) (mpure (aL.az (A.1,A.2.1,A.2.2.1,bh b.1,b.2.1++[[y]++df f++[ef]],())))))))))) (ar (mpure (aL.az (A.1,b.2.1,()))) (λr=>mpure (aL.aX r)))) (A.2.1,A.1,Int.ofNat (List.length A.1),0,A.2.2.1,()) λ(A:Int×z26')=>bS (λ(A:Int×Int×List (z1')×z14')=>bJ (fZ A.2.1 A.1) (ar (aDX (A.2.1,0,A.2.2.1,())) (λy=>ar (ai1 y.1) λcp=>ah (b2 (Add.add (List.length A.2.2.2.1) (Add.add 0 1))) (mpure (aL.az (A.1,bh A.2.1,y.2.1,A.2.2.2.1++[cp],()))))) (ar (mpure (aL.az (A.2.2.1,A.2.2.2.1,()))) (λr=>mpure (aL.aX r)))) (e1 A.1 2,0,A.2.1,[],()) λ(A:List (z1')×z14')=>ah (b2 (Add.add (List.length A.1) (Add.add 0 1))) (mpure (A.1++[A.2.1]))
def ai2(WC:List UInt8->L Bool)(x:z1'×Option Int):L Bool:=
 letI a:=decide (Int.ofNat (List.length x.1)≠Option.getD x.2 0);cj (!a) (WC (ff x.1)) false λy=>mpure (a||!y)
def aDZ(aD0:List (z1')×(z1'->L Bool)->L Int)(x:List (z1')×(z1'->L Bool)):L Bool:=
 ar (aD0 x) λy=>mpure (decide (y>=0))
def ai3(aD1:Int×z25'->L (z25'))(aD2:Int->L Int)(x:z1'):L Int:=
 bS (λ(A:z1'×Int×Int×z25')=>letI a:=A.2.2.1;bJ (fZ a A.2.1) (ah (0<=a/\a<Int.ofNat (List.length A.1)) (ar (aD1 (List.getD A.1 (Int.toNat a) 0,A.2.2.2.1,())) (λy=>mpure (aL.az (A.1,A.2.1,bh a,y.1,()))))) (ar (mpure (aL.az (A.2.2.2.1,()))) (λr=>mpure (aL.aX r)))) (x,Int.ofNat (List.length x),0,0,()) λ(A:z25')=>ar (aD2 A.1) λy=>mpure y
def ai4(x:List (z1')×z11'):L (z1'):=
 letI d:=Int.ofNat (List.length x.1);letI a:=cF d x.2.2;letI e:=List.take (Int.toNat a) x.1;cy (ah ((0:Int)<=0/\0<=a/\a<=d) (dI (λ(A:Int×List (z1')×z33')=>letI b:=A.2.2.2;letI c:=List.getD A.2.1 (Int.toNat b.1) [];bJ (fZ b.1 A.2.2.1) (ah (0<=b.1/\b.1<Int.ofNat (List.length A.2.1)) (ah (0<=A.1/\A.1<Int.ofNat (List.length c)) (ah (b2 (Add.add (List.length b.2.1) (Add.add 0 1))) (mpure (aL.az (A.1,A.2.1,A.2.2.1,bh b.1,b.2.1++[List.getD c (Int.toNat A.1) 0],())))))) (ar (mpure (aL.az (b.2.1,()))) (λr=>mpure (aL.aX r)))) (x.2.1,e,Int.ofNat (List.length e),0,[],()))) λ(A:z14')=>mpure A.1
def ai5(x:Unit):L (z1'):=
 bS (λ(A:z20')=>bJ (hY A.1 126) (ah (b2 (Add.add (List.length A.2.1) (Add.add 0 1))) (mpure (aL.az (IntKind.wrap .u8 (Add.add A.1 1),A.2.1++[A.1],())))) (ar (mpure (aL.az (A.2.1,()))) (λr=>mpure (aL.aX r)))) (32,[],()) λ(A:z14')=>mpure A.1
def ai6(x:List (z1')):L (List eO):=
 letI c:=Int.ofNat (List.length x);letI f:=List.take (Int.toNat (cF c 1)) x;cy (ah ((0:Int)<=0/\0<=cF c 1/\cF c 1<=c) (dI (λ(A:List (z1')×Int×Int×List eO×Unit)=>letI g:=A.2.2;letI d:=List.getD A.1 (Int.toNat g.1) [];letI b:=Int.ofNat (List.length d);letI e:=cF b 2;letI a:=IntKind.wrap .i64 (IntKind.wrap .u8 (List.getD d (Int.toNat 0) 0-32));bJ (fZ g.1 A.2.1) (ah (0<=g.1/\g.1<Int.ofNat (List.length A.1)) (ah ((0:Int)<=0/\0<b) (ah ((0:Int)<=1/\1<=e1 1 (if e<a then e else a)/\e1 1 (if e<a then e else a)<=b) (ah (b2 (Add.add (List.length g.2.1) (Add.add 0 1))) (mpure (aL.az (A.1,A.2.1,e1 g.1 1,g.2.1++[ff (List.drop (Int.toNat 1) (List.take (Int.toNat (e1 1 (if e<a then e else a))) d))],()))))))) (ar (mpure (aL.az (g.2.1,()))) (λr=>mpure (aL.aX r)))) (f,Int.ofNat (List.length f),0,[],()))) λ(A:List eO×Unit)=>mpure A.1
def ai7(x:Int):L Int:=
 mpure (IntKind.wrap .u8 (e1 x 32))
def aD3(x:List (z1')×(z1'->L Bool)):L Int:=
 bS (λ(A:List (z1')×(z1'->L Bool)×Int×Int×Unit)=>letI a:=A.2.2.2.1;bJ (fZ a A.2.2.1) (ah (0<=a/\a<Int.ofNat (List.length A.1)) (ar (A.2.1 (List.getD A.1 (Int.toNat a) [])) (λy=>bJ y (ar (ar (mpure a) (λr=>mpure (aL.aX r))) (λr=>mpure (aL.aX r))) (mpure (aL.az (A.1,A.2.1,A.2.2.1,bh a,())))))) (ar (mpure (aL.az ())) (λr=>mpure (aL.aX r)))) (x.1,x.2,Int.ofNat (List.length x.1),0,()) λ(A:Unit)=>mpure (-1)
def ai8(WH:Int->L Int)(x:Int):L Int:=
 ar (WH x) λy=>mpure y
def ai9(x:Int×z25'):L (z25'):=
 ah True (ah ((95:Int)≠0) (ah True (mpure (Int.tmod (cF (e1 x.2.1 (IntKind.wrap .i64 x.1)) 32) 95,()))))
def ai_(x:z14'):L (List UInt8×Unit):=
 letI a:=Int.ofNat (List.length x.1);ah True (ah True (ah True (ah (a=a) (mpure (ff x.1,())))))
def ai'(aD4:z1'×z16'->L (Int×z16'))(x:z1'×z16'):L (Bool×z16'):=
 ar (aD4 (x.1,x.2.1,x.2.2.1,x.2.2.2.1,())) λy=>mpure (decide (y.1>=0),y.2.1,y.2.2.1,y.2.2.2.1,())
def OD(x:Nat×List eO×Int×(Nat×(List (List eO)->Prop)×List (List eO)×Bool)×Unit):L ((Nat×(List (List eO)->Prop)×List (List eO)×Bool)×Unit):=
 dI (λ(A:Nat×List eO×Int×Int×(Nat×(List (List eO)->Prop)×List (List eO)×Bool)×Unit)=>letI h:=A.2.2.1;letI c:=A.2.2.2;letI g:=c.2.1;letI b:=Int.ofNat (List.length A.2.1);letI e:=Int.ofNat (List.length (List.drop (Int.toNat c.1) (List.take (Int.toNat b) A.2.1)));letI a:=e1 c.1 (if e<h then e else h);letI d:=List.drop (Int.toNat c.1) (List.take (Int.toNat a) A.2.1);bJ (fZ c.1 b) (ah (0<=c.1/\c.1<=b/\b<=b) (ah (0<=c.1/\c.1<=a/\a=a/\a<=b) (ar (ah (A.1=g.1/\g.2.2.2=false/\(∃ (T:List (List eO)),g.2.1 (g.2.2.1++d::T))) (mS (λx=>True))) (λy=>letI f:=(g.1,g.2.1,g.2.2.1++[d],!y);bJ (!y) (ar (mpure (f,())) (λr=>mpure (aL.aX r))) (mpure (aL.az (A.1,A.2.1,h,e1 c.1 h,f,()))))))) (ar (mpure (g,())) (λr=>mpure (aL.aX r)))) (x.1,x.2.1,x.2.2.1,0,x.2.2.2.1,())
def aja(x:Int×Int×z26'):L (z1'×z26'):=
 letI d:=Int.ofNat (List.length x.2.2.1);letI a:=cF d x.2.1;cy (ah ((0:Int)<=0/\0<=a/\a<=d) (dI (λ(A:Int×(z21')×Int×Int×z1'×z26')=>letI c:=A.2.2.2;letI b:=List.getD A.cv (Add.add A.2.1.1 (Int.toNat c.1)) [];bJ (fZ c.1 A.2.2.1) (ah (0<=c.1/\c.1<Int.ofNat (A.2.1.2-A.2.1.1)) (ah (0<=A.1/\A.1<Int.ofNat (List.length b)) (ah (b2 (Add.add (List.length c.2.1) (Add.add 0 1))) (mpure (aL.az (A.1,A.2.1,A.2.2.1,bh c.1,c.2.1++[List.getD b (Int.toNat A.1) 0],A.cv,())))))) (ar (mpure (aL.az (c.2.1,A.cv,()))) (λr=>mpure (aL.aX r)))) (x.1,(Int.toNat 0,Int.toNat a),Int.ofNat (Int.toNat a-Int.toNat 0),0,[],x.2.2.1,()))) λ(A:z1'×z26')=>mpure (A.1,A.2.1,())
def ajb(aD5:List UInt8×List UInt8->L (List UInt8×List UInt8×Bool))(aD6:List UInt8×List UInt8->L (List eO))(aD7:List (z1')×(z1'->L Bool)->Prop)(aD8:List (z1')×(z1'->L Bool)->Bool)(WI:z1'×Option Int->L Bool)(x:List UInt8×z13'):L (Bool×z31'):=
 ar (dI (λ(A:List UInt8×z31')=>if decide (A.1≠[])=true then ar (aD5
 (A.1,[10,10])) λy=>if (!y.2.2)=true then ar (ar (mpure (false,[],A.2.2.1,())) λr=>mpure (aL.aX r)) λr=>mpure
 (aL.aX r) else ar (ar (aD6 (y.1,[10])) λcp=>dI (λ(A:List UInt8×List eO×Int×Int×List (z6')×
 z6'×z13')=>if decide (A.2.2.2.1<A.2.2.1)=true then ah (0<=A.2.2.2.1/\A.2.2.2.1<Int.ofNat
 (List.length A.2.1)) (ar (ah (b2 (List.length (List.getD A.2.1 (Int.toNat A.2.2.2.1) []))) (mS λid=>¬List.Mem id (List.map (λx
 =>x.1) A.fI))) λy=>ah (b2 (Add.add (List.length A.cv) (Add.add 0 1))) (mpure (aL.az (A.1,A.2.1,A.2.2.1,IntKind.wrap .i64 (Add.add
 A.2.2.2.1 1),A.2.2.2.2.1,A.cv++[(y,0,List.length (List.getD A.2.1 (Int.toNat A.2.2.2.1) []))],(y,df (List.getD A.2.1 (Int.toNat
 A.2.2.2.1) []))::A.fI,())))) else ar (mpure (aL.az (A.1,A.2.2.2.2.1,A.cv,A.fI,()))) λr=>mpure (aL.aX r)) (y.2.1,cp,Int.ofNat (List.length cp),0,A.2.1,[],A.2.2.1,())) (aL.fQ λ(A:List UInt8×List (z6')×z6'×List
 (Nat×z1')×Unit)=>ah ((0:Int)<=0/\0<Int.ofNat (List.length A.2.2.1)) (ah ((!(decide (Int.ofNat (List.length A.2.2.1)<2)||
 decide (Int.ofNat (List.length A.2.2.1) > 9)||decide (Int.ofNat (List.getD A.2.2.1 (Int.toNat 0) (0,0,0)).2.2<2)||decide (Int.ofNat
 (List.getD A.2.2.1 (Int.toNat 0) (0,0,0)).2.2 > 62)))=true->((!(decide (Int.ofNat (List.length A.2.2.1)<2)||decide (Int.ofNat (List.length
 A.2.2.1) > 9)||decide (Int.ofNat (List.getD A.2.2.1 (Int.toNat 0) (0,0,0)).2.2<2)||decide (Int.ofNat (List.getD A.2.2.1 (Int.toNat 0) (0,0,0)).2.2 > 62)))=true/\(!(decide (Int.ofNat (List.length A.2.2.1)<2)||decide (Int.ofNat (List.length A.2.2.1) > 9)||decide (Int.ofNat
 (List.getD A.2.2.1 (Int.toNat 0) (0,0,0)).2.2<2)||decide (Int.ofNat (List.getD A.2.2.1 (Int.toNat 0) (0,0,0)).2.2 > 62)))=true/\True)/\
 (og (aa.int .u8) A.2.2.2.1 (aa.aw (aa.slice (aa.cP (aa.int .u8))) (aa.fn (aa.slice (aa.int .u8)) aa.bool)) (A.2.2.1,λx=>WI
 (x,some (Int.ofNat (List.getD A.2.2.1 (Int.toNat 0) (0,0,0)).2.2)))/\aD7 (gD (aa.int .u8) A.2.2.2.1
 (aa.aw (aa.slice (aa.cP (aa.int .u8))) (aa.fn (aa.slice (aa.int .u8)) aa.bool)) (A.2.2.1,λx=>WI (x,some (Int.ofNat (List.getD
 A.2.2.1 (Int.toNat 0) (0,0,0)).2.2)))))/\True) (if (decide (Int.ofNat (List.length A.2.2.1)<2)||decide (Int.ofNat (List.length A.2.2.1) > 9)
 ||decide (Int.ofNat (List.getD A.2.2.1 (Int.toNat 0) (0,0,0)).2.2<2)||decide (Int.ofNat (List.getD A.2.2.1 (Int.toNat 0) (0,0,0)).2.2 > 62)
 ||aD8 (gD (aa.int .u8) A.2.2.2.1 (aa.aw (aa.slice (aa.cP (aa.int .u8))) (aa.fn (aa.slice (aa.int .u8))
 aa.bool)) (A.2.2.1,λx=>WI (x,some (Int.ofNat (List.getD A.2.2.1 (Int.toNat 0) (0,0,0)).2.2)))))=true then ar (ar
 (mpure (false,[],A.2.2.2.1,())) λr=>mpure (aL.aX r)) λr=>mpure (aL.aX r) else ah (b2 (Add.add (List.length A.2.1)
 (Add.add 0 1))) (mpure (aL.az (A.1,A.2.1++[A.2.2.1],A.2.2.2.1,())))))) else ar (mpure (aL.az (A.2.1,A.2.2.1,()))) λr=>
 mpure (aL.aX r)) (x.1,[],x.2.1,())) (aL.fQ λ(A:z31')=>mpure (true,A.1,A.2.1,()))
def ajc(aD9:Int×z16'->L (Bool×z16'))(x:z1'×z16'):L (Int×z16'):=
 bS (λ(A:z1'×Int×Int×z16')=>letI a:=A.2.2;bJ (fZ a.1 A.2.1) (ah (0<=a.1/\a.1<Int.ofNat (List.length A.1)) (ar (aD9 (List.getD A.1 (Int.toNat a.1) 0,a.2.1,a.2.2.1,A.cv,())) (λy=>bJ y.1 (ar (ar (mpure (a.1,y.2.1,y.2.2.1,y.2.2.2.1,())) (λr=>mpure (aL.aX r))) (λr=>mpure (aL.aX r))) (mpure (aL.az (A.1,A.2.1,bh a.1,y.2.1,y.2.2.1,y.2.2.2.1,())))))) (ar (mpure (aL.az (a.2.1,a.2.2.1,A.cv,()))) (λr=>mpure (aL.aX r)))) (x.1,Int.ofNat (List.length x.1),0,x.2.1,x.2.2.1,x.2.2.2.1,()) λ(A:z16')=>mpure (-1,A.1,A.2.1,A.2.2.1,())
def ajd(Jl:z1'->Prop)(Jm:z1'->Int)(x:Int×z16'):L (Bool×z16'):=
 letI f:=x.2.2.2.1;letI d:=x.2.2.1;letI e:=Int.ofNat d.2.2;letI b:=cF e 1;letI g:=Add.add d.2.1 (Int.toNat b);letI c:=(d.1,Add.add d.2.1 (Int.toNat 0),Int.toNat b-Int.toNat 0);letI a:=Add.add d.2.1 (Int.toNat x.2.1.2);ah (0<=x.2.1.2/\x.2.1.2<e) (ah (a<List.length (cS f d.1)) (ah (0<=b/\b<e) (ah (g<List.length (cS (eT f d.1 a x.1) d.1)) (ah ((0:Int)<=0/\0<=b/\b<=e) (ah (og (aa.int .u8) (eT f d.1 a x.1) (aa.cP (aa.int .u8)) c/\Jl (gD (aa.int .u8) (eT f d.1 a x.1) (aa.cP (aa.int .u8)) c)) (mpure (decide (List.getD (cS (eT f d.1 a x.1) d.1) g 0=Jm (gD (aa.int .u8) (eT f d.1 a x.1) (aa.cP (aa.int .u8)) c)),x.2.1,d,eT f d.1 a x.1,())))))))
def aje(Jl:z1'->Prop)(Jm:z1'->Int)(ajf:List (z1')×z11'->Prop)(OE:List (z1')×z11'->z1')(aD_:z1'×z16'->L (Bool×z16'))(ajg:Unit->L (z1'))(x:z6'×z13'):L (Int×(z11')×z13'):=
 bS (λ(A:z6'×z29')=>letI bI:=A.h8;letI s:=A.2.2.2;letI a:=List.getD A.2.1 (Int.toNat s.1) (0,0,0);letI v:=Int.ofNat a.2.2;letI f:=cF v 1;letI z:=Add.add a.2.1 (Int.toNat f);letI i:=(a.1,Add.add a.2.1 (Int.toNat 0),Int.toNat f-Int.toNat 0);bJ (fZ s.1 A.2.2.1) (cy (ah (0<=s.1/\s.1<Int.ofNat (List.length A.2.1)) (ah (0<=f/\f<v) (ah (z<List.length (cS bI a.1)) (ah ((0:Int)<=0/\0<=f/\f<=v) (ah (og (aa.int .u8) bI (aa.cP (aa.int .u8)) i/\Jl (gD (aa.int .u8) bI (aa.cP (aa.int .u8)) i)) (bJ (jq (List.getD (cS bI a.1) z 0) (Jm (gD (aa.int .u8) bI (aa.cP (aa.int .u8)) i))) (ah (b2 (Add.add (List.length A.cv) (Add.add 0 1))) (mpure (aL.az (A.1,A.2.1,A.2.2.1,s.1,s.2.1,A.cv++[s.1],A.fI,bI,())))) (mpure (aL.az (A.1,A.2.1,A.2.2.1,s.1,s.2.1,A.cv,A.fI,bI,()))))))))) (λ(A:z6'×z29')=>mpure (aL.az (A.1,A.2.1,A.2.2.1,bh A.2.2.2.1,A.2.2.2.2.1,A.cv,A.fI,A.h8,())))) (ar (mpure (aL.az (A.1,s.2.1,A.cv,A.fI,bI,()))) (λr=>mpure (aL.aX r)))) (x.1,x.1,Int.ofNat (List.length x.1),0,(0,0),[],[],x.2.1,()) λ(A:z6'×(z11')×z1'×z1'×z13')=>cy (ah ((0:Int)<=0/\0<Int.ofNat (List.length A.1)) (dI (λ(A:z29')=>letI dv:=A.fI;letI l:=A.2.2;letI k:=Int.ofNat (List.length A.1);letI d:=List.getD A.1 (Int.toNat (cF k 1)) (0,0,0);letI w:=Add.add d.2.1 (Int.toNat l.1);bJ (fZ l.1 A.2.1) (cy (ah (0<=cF k 1/\cF k 1<k) (ah (0<=l.1/\l.1<Int.ofNat d.2.2) (ah (w<List.length (cS dv d.1)) (ah (og (aa.int .u8) dv (aa.aw (aa.slice (aa.cP (aa.int .u8))) (aa.aw (aa.int .i64) (aa.int .i64))) (A.1,l.1,1)/\ajf (gD (aa.int .u8) dv (aa.aw (aa.slice (aa.cP (aa.int .u8))) (aa.aw (aa.int .i64) (aa.int .i64))) (A.1,l.1,1))) (ah (Jl (OE (gD (aa.int .u8) dv (aa.aw (aa.slice (aa.cP (aa.int .u8))) (aa.aw (aa.int .i64) (aa.int .i64))) (A.1,l.1,1)))) (bJ (jq (List.getD (cS dv d.1) w 0) (Jm (OE (gD (aa.int .u8) dv (aa.aw (aa.slice (aa.cP (aa.int .u8))) (aa.aw (aa.int .i64) (aa.int .i64))) (A.1,l.1,1))))) (ah (b2 (Add.add (List.length A.cv) (Add.add 0 1))) (mpure (aL.az (A.1,A.2.1,l.1,l.2.1,l.2.2.1,A.cv++[l.1],dv,())))) (mpure (aL.az (A.1,A.2.1,l.1,l.2.1,l.2.2.1,A.cv,dv,()))))))))) (λ(A:z29')=>mpure (aL.az (A.1,A.2.1,bh A.2.2.1,A.2.2.2.1,A.2.2.2.2.1,A.cv,A.fI,())))) (ar (mpure (aL.az (A.1,l.2.1,l.2.2.1,A.cv,dv,()))) (λr=>mpure (aL.aX r)))) (A.1,Int.ofNat (List.getD A.1 (Int.toNat 0) (0,0,0)).2.2,0,A.2.1,A.2.2.1,A.2.2.2.1,A.2.2.2.2.1,()))) λ(A:z6'×(z11')×z1'×z1'×z13')=>letI t:=A.2.2.2.2.1;letI n:=Int.ofNat (List.length A.2.2.1);letI m:=Int.ofNat (List.length A.2.2.2.1);letI j:=List.getD A.2.2.1 (Int.toNat 0) 0;letI h:=Int.ofNat (List.length A.1);letI g:=List.getD A.2.2.2.1 (Int.toNat 0) 0;letI e:=List.getD A.1 (Int.toNat (cF h 1)) (0,0,0);letI c:=List.getD A.1 (Int.toNat j) (0,0,0);letI cH:=Add.add c.2.1 (Int.toNat g);bJ (decide (e1 n m=0)) (mpure (0,(0,0),t,())) (bJ (jq n 1||jq m 1) (mpure (2,(0,0),t,())) (ah ((0:Int)<=0/\0<n) (ah ((0:Int)<=0/\0<m) (ah (0<=j/\j<h) (ah (0<=g/\g<Int.ofNat c.2.2) (ah (cH<List.length (cS t c.1)) (dy (ajg ()) (ar (aD_ (L.val (ajg ()) [],(j,g),c,t,())) (λy=>letI q:=y.2.1.2;letI u:=Int.toNat q;letI d1:=Add.add y.2.2.1.2.1 u;letI p:=y.2.2.2.1;letI b:=(!(!y.1))=true;letI o:=b->b/\True/\True;ah o (ah (b->(b/\True)/\True/\True) (ah (b->(b/\b)/\(0<=cF h 1/\cF h 1<h)/\True) (ah o (ah o (ah (b->(b/\b)/\(0<=q/\q<Int.ofNat e.2.2)/\True) (ah (b->b/\Add.add e.2.1 u<List.length (cS p e.1)/\True) (ah o (ah (b->(b/\b/\True)/\(og (aa.int .u8) p (aa.aw (aa.slice (aa.cP (aa.int .u8))) (aa.aw (aa.int .i64) (aa.int .i64))) (A.1,q,1)/\ajf (gD (aa.int .u8) p (aa.aw (aa.slice (aa.cP (aa.int .u8))) (aa.aw (aa.int .i64) (aa.int .i64))) (A.1,q,1)))/\True) (ah (b->(b/\True)/\Jl (OE (gD (aa.int .u8) p (aa.aw (aa.slice (aa.cP (aa.int .u8))) (aa.aw (aa.int .i64) (aa.int .i64))) (A.1,q,1)))/\True) (ah (b->(b/\b)/\True/\True) (ah (True/\((!y.1)=false->b)) (bJ (!y.1||jq (List.getD (cS p e.1) (Add.add e.2.1 u) 0) (Jm (OE (gD (aa.int .u8) p (aa.aw (aa.slice (aa.cP (aa.int .u8))) (aa.aw (aa.int .i64) (aa.int .i64))) (A.1,q,1))))) (ah (0<=q/\q<Int.ofNat y.2.2.1.2.2) (ah (d1<List.length (cS p y.2.2.1.1)) (mpure (2,(0,0),eT p y.2.2.1.1 d1 (List.getD (cS t c.1) cH 0),())))) (mpure (1,y.2.1,p,())))))))))))))))))))))))
def ajh(Jn:z14'->L (z14'))(x:z20'):L (z14'):=
 ar (Jn (x.2.1,())) λy=>ah True (ah (b2 (Add.add (List.length y.1) (Add.add 0 1))) (ah True (mpure (y.1++[x.1],()))))
def aji(Jn:z14'->L (z14'))(x:z1'×z14'):L (z20'):=
 ar (Jn (x.2.1,())) λy=>ah True (ah (b2 (Add.add (List.length y.1) (List.length x.1))) (ah True (mpure (Int.ofNat (List.length x.1),y.1++x.1,()))))
def ajj(Jn:z14'->L (z14'))(x:List UInt8×z14'):L (z20'):=
 ar (Jn (x.2.1,())) λy=>ah True (ah (b2 (Add.add (List.length y.1) (List.length (df x.1)))) (ah True (mpure (Int.ofNat (List.length x.1),y.1++df x.1,()))))
end Go.Fer
namespace Go.Fer
attribute [simp] v' To xH e7 FY PT iK kN sb ml ov db uU dn kv Tn aL.pM
def f'(b:UInt8):Bool:=decide (32<=b.toNat)&&decide (b.toNat<=126)
def CD(b:UInt8):Int:=(b.toNat:Int) - 32
def ajk(l:List UInt8):Int:=l.foldl (λn b=>n+CD b) 0
def Jo(n:Int):UInt8:=UInt8.ofNat (n+32).toNat
theorem aD'{b:UInt8}:f' b=true<->0<=CD b/\CD b<=94:=by
 unfold f' CD;simp;omega
theorem Cz{n:Int}(h:0<=n)(M:n<=255):IntKind.wrap .u8 n=n:=by
 show (if (false&&decide (n % 2 ^ 8>=(2 ^ (8 - 1):Int)))=true then n % 2 ^ 8 - 2 ^ 8 else n % 2 ^ 8)=n;simp only[aR',amW,aQv];omega
def fb(c:Int):Bool:=decide (32<=c)&&decide (c<=126)
variable {c:Int}
theorem oH:fb c=true<->32<=c/\c<=126:=by simp[fb]
def p2(s c:Int):Int:=Int.tmod (s+c - 32) 95
def OF(l:z1'):Int:=l.foldl p2 0
def l4(l:z1'):Int:=OF l+32
theorem WJ{s:Int}(h:0<=s)(hc:fb c=true):0<=p2 s c/\p2 s c<=94:=by
 have:=oH.1 hc;have E:0<=Int.tmod (s+c - 32) 95:=Int.tmod_nonneg _ (by omega);have M:Int.tmod (s+c - 32) 95<95:=Int.tmod_lt_of_pos _ (by decide);exact⟨E,Int.le_of_lt_add_one M⟩
theorem OG:∀ (l:z1') (s:Int),0<=s->s<=94->l.all fb=true->0<=l.foldl p2 s/\l.foldl p2 s<=94
 | [],s,h,M,_=>⟨h,M⟩
 | c::l,s,h,M,aZ=>by
  simp only[aRd,amX]at aZ;obtain⟨aO,aT⟩:=WJ h aZ.1;exact OG l _ aO aT aZ.2
theorem WK{l:z1'}(h:l.all fb=true):fb (l4 l)=true:=by
 obtain⟨E,M⟩:=OG l 0 (aQB _) (by decide) h;grind [oH,l4,OF]
abbrev wM:aQ:=⟨.int .i64,.int .u8,λx=>0<=x/\x<=94,λx=>x+32⟩
theorem aEa(x):a_ (ai7 x) (wM.sh x):=bu λh=>by
 grind [ai7,bA,Cz]
theorem aEb(x):a_ (ai8 wM.sh x) (wM.sh x):=bu λh=>by
 unfold ai8;rw[show wM.sh x=mpure (x+32) from bO h _,aP]
def OH(x:Int×z25'):L (z25'):=eF ((32<=x.1/\x.1<=126)/\0<=x.2.1/\x.2.1<=94) (p2 x.2.1 x.1,())
theorem aEc(x):a_ (ai9 x) (OH x):=bu λh=>by
 unfold ai9 e1 cF;rw[bd trivial,bd (by decide),bd trivial,dn,bA (n:=x.1),bA (n:=x.2.1+x.1),bA   (by omega) (by omega)];rfl
abbrev p3:aQ:=⟨.slice (.int .u8),.int .u8,λx=>List.length x<65536/\List.all x fb=true,λx=>l4 x⟩
theorem aEd(x):a_ (ai3 OH wM.sh x) (p3.sh x):=bu λh=>by
 obtain⟨E,M⟩:=h;unfold ai3 fZ bJ bh bS;rw[eW x (λi n=>(x,(x.length:Int),(i:Int),n,())) (λc n=>.az (p2 n c)) (λn=>.az (n,())) (λi n=>0<=n/\n<=94) 0 ?_ ?_ ?_ ?_]
 ·rw[ew,aP,db];have U:=OG x 0 (aQB _) (by decide) M;rw[show wM.sh (x.foldl p2 0,()).1=mpure (l4 x) from bO U _,aP]
 ·rfl
 ·omega
 ·intro i G n aA;have hw:=bA (n:=i+1);have U:=List.all_eq_true.1 M _ (amV G);refine⟨?_,λkD xk=>?_⟩
  ·simp only[cD,dQ G,d' G,dH G,ck,dn,hw];rw[show OH (x[i],n,())=mpure (p2 n x[i],()) from bO ⟨oH.1 U,aA⟩ _,aP];rfl
  ·simp  at xk;subst xk;simp_all[WJ]
 simp
def gn(l:List (z1'))(ve:Int):z1':=l.map λr=>r.getD ve.toNat 0
def zN(l:List (z1'))(ve w:Int):Prop:=l.length<65536/\(0<=w/\w<=(l.length:Int))/\0<=ve/\∀ r∈l,ve<(r.length:Int)
abbrev OI:aa:=.slice (.slice (.int .u8))
abbrev yg:aQ:=⟨.aw OI (.aw (.int .i64) (.int .i64)),.slice (.int .u8),λx=>zN x.1 x.2.1 x.2.2,λx=>gn (List.take (List.length x.1 - x.2.2.toNat) x.1) x.2.1⟩
theorem aEe(x):a_ (ai4 x) (yg.sh x):=bu λh=>by
 obtain⟨l,c,w⟩:=x;obtain⟨E,⟨M,al⟩,a7,bR⟩:zN l c w:=h;unfold ai4 fZ cy bJ bh cF;have hw:=bA (n:=l.length - w);simp only[cD,hw];have e:(l.length - w).toNat=l.length - w.toNat:=by omega
 rw[bd ⟨aQB _,by omega,by omega⟩,e];generalize aj:l.take (l.length - w.toNat)=k;have Ny:k.length<65536:=by grind
 have Jp:∀ r∈k,c<r.length:=λr D=>bR r (by grind);rw[eW k (λi o=>(c,k,(k.length:Int),(i:Int),o,())) (λr o=>.az (o++[r.getD c.toNat 0])) (λo=>.az (o,())) (λi o=>o.length=i) [] ?_ ?_ ?_ ?_]
 ·rw[ew,aP,db];grind [gn,pN]
 ·rfl
 ·rfl
 ·intro i G o au;have gJ:=bA (n:=i+1);have D:=Jp _ (amV G);refine⟨?_,λgg hX=>?_⟩
  ·simp only[dQ G,d' G,dH G,ck,dn,gJ];rw[bd ⟨a7,D⟩,bd (by grind [b2])];rfl
  grind
 simp
def k6:z1':=(List.range 95).map λi:Nat=>(i:Int)+32
abbrev Jq:aQ:=⟨.dc,.slice (.int .u8),λ_=>True,λ_=>k6⟩
theorem aEf(x):a_ (ai5 x) (Jq.sh x):=bu λ_=>by
 unfold ai5 hY bJ bS;rw[eW (List.range 95) (λi o=>((i:Int)+32,o,())) (λi o=>.az (o++[(i:Int)+32])) (λo=>.az (o,())) (λi o=>o.length=i) [] ?_ ?_ ?_ ?_]
 ·rw[ew,aP];rfl
 ·rfl
 ·rfl
 ·intro i G o au;have ea:i<95:=by grind
  have ay:decide ((i:Int)+32<=126)=true:=aQN (by omega);have e:(List.range 95)[i]'G=i:=aQw ..;refine⟨?_,λgg hX=>?_⟩
  ·simp only[ay,dn];rw[bd (by grind [b2]),Cz (by omega) (by omega),e];rfl
  grind
 simp
def CE(x:z14'):L (z14'):=mpure x
def Jr(x:z20'):L (z14'):=eF (b2 (x.2.1.length+1)) (x.2.1++[x.1],())
def OJ(x:z1'×z14'):L (z20'):=eF (b2 (x.2.1.length+x.1.length)) ((x.1.length:Int),x.2.1++x.1,())
def CF(x:List UInt8×z14'):L (z20'):=eF (b2 (x.2.1.length+x.1.length)) ((x.1.length:Int),x.2.1++df x.1,())
def zO(x:z14'):L (List UInt8×Unit):=mpure (ff x.1,())
theorem pe(s:List UInt8):(df s).length=s.length:=by simp[df]
theorem aEg(x):a_ (ajh CE x) (Jr x):=bu λh=>by
 simp_all[ajh,CE]
theorem aEh(x):a_ (aji CE x) (OJ x):=bu λh=>by
 simp_all[aji,CE]
theorem aEi(x):a_ (ajj CE x) (CF x):=bu λh=>by
 simp_all[ajj,CE,pe]
theorem aEj(x):a_ (ai_ x) (zO x):=by
 grind [ai_,zO,bd,w0]
def sD(l:List (z1')):z1':=l.flatMap λr=>r++[10]
theorem ajl{af bet:Type}(f:af->List bet):∀ (l:List af) (b:List bet),l.foldl (λb x=>b++f x) b=b++l.flatMap f
 | [],b=>by simp
 | x::l,b=>by simp only[aQQ];rw[ajl f l];simp
theorem ajm:∀ (l:List (z1')),(∀ r∈l,r.length<65535)->(sD l).length<=l.length*65535
 | [],_=>aQF _
 | r::l,h=>by
  have:=ajm l λr D=>h r (by grind);grind [sD]
def oI(l:List (z1')):z1':=sD l++[10]
abbrev oJ:aQ:=⟨OI,.str,λx=>List.length x<65536/\∀ r∈(x:List (z1')),r.length<65535,λx=>ff (oI x)⟩
theorem WL(x):a_ (aiW zO OJ Jr x) (oJ.sh x):=bu λh=>by
 obtain⟨E,M⟩:=h;unfold aiW fZ cy bJ bh bS;rw[aP,db];rw[eW x (λi o=>(x,(x.length:Int),(i:Int),o,())) (λr o=>.az (o++(r++[10]))) (λo=>.az (o,())) (λi o=>o.length<=i*65535) [] ?_ ?_ ?_ ?_]
 ·rw[ew,aP,db];have e:x.foldl (λo r=>o++(r++[10])) []=sD x:=by rw[ajl];rfl
  rw[e];have hlen:=ajm x M;rw[show Jr (10,sD x,())=mpure (sD x++[10],()) from bO (by grind [b2]) _,aP];rw[show zO (sD x++[10],())=mpure (ff (sD x++[10]),()) from rfl,aP];rfl
 ·rfl
 ·simp
 ·intro i G o au;have hw:=bA (n:=i+1);refine⟨?_,λgg hX=>?_⟩
  ·simp only[cD,dQ G,d' G,dH G,dn,hw];rw[show OJ (x[i],o,())=mpure ((x[i].length:Int),o++x[i],()) from bO (by grind [b2]) _,aP];rw[show Jr (10,o++x[i],())=mpure (o++x[i]++[10],()) from bO (by grind [b2]) _];simp
  grind
 simp
def zP(r:z1'):Int:=min (r.getD 0 0 - 32) ((r.length:Int) - 2)
def zQ(r:z1'):List UInt8:=ff ((r.take (1+zP r).toNat).drop 1)
def lG(r:z1'):Prop:=2<=r.length/\r.length<65535/\r.all fb=true
abbrev OK:aQ:=⟨OI,.slice .str,λx=>(1<=List.length x/\List.length x<65536)/\∀ r∈(x:List (z1')),lG r,λx=>(List.take (List.length x - 1) x).map zQ⟩
variable {i:Nat}
theorem aEk{r:z1'}(h:lG r)(G:i<r.length):32<=r.getD i 0/\r.getD i 0<=126:=by
 have:=oH.1 (List.all_eq_true.1 h.2.2 _ (amV G));rw[am1,am3 G];exact this
theorem aEl(x):a_ (ai6 x) (OK.sh x):=bu λh=>by
 change List (z1') at x;obtain⟨⟨E,M⟩,al⟩:(1<=x.length/\x.length<65536)/\∀ r∈x,lG r:=h;unfold ai6 e1 fZ cy bJ cF;show _=mpure ((x.take (x.length - 1)).map zQ);have hw:=bA (n:=(x.length:Int) - 1);simp only[cD,hw];have e:((x.length:Int) - 1).toNat=x.length - 1:=by omega
 rw[bd ⟨aQB _,by omega,by omega⟩,e];generalize aj:x.take (x.length - 1)=k;have Ny:k.length<65536:=by rw[<-aj];simp;omega
 have Jp:∀ r∈k,lG r:=λr D=>al r (by rw[<-aj]at D;exact aQM D);rw[eW k (λi (o:List eO)=>(k,(k.length:Int),(i:Int),o,())) (λr o=>.az (o++[zQ r])) (λo=>.az (o,())) (λi o=>o.length=i) [] ?_ ?_ ?_ ?_]
 ·rw[ew,aP,db];congr 1;show (k.foldl (λo r=>o++[zQ r]) [])=k.map zQ;rw[pN];rfl
 ·rfl
 ·rfl
 ·intro i G o au;have gJ:=bA (n:=(i:Int)+1);have D:=Jp _ (amV G);obtain⟨dT,eo⟩:=aEk D (i:=0) (by have:=D.1;omega);obtain⟨cn,cN,_⟩:=D;have ch:=bA (n:=(k[i].length:Int) - 2);have dP:IntKind.wrap .u8 (k[i].getD 0 0 - 32)=k[i].getD 0 0 - 32:=Cz (by omega) (by omega);have hM:=bA (n:=k[i].getD 0 0 - 32);have hm:(if (k[i].length:Int) - 2<k[i].getD 0 0 - 32 then (k[i].length:Int) - 2 else k[i].getD 0 0 - 32)=zP k[i]:=by
   unfold zP;split<;>omega
  have KO:0<=zP k[i]/\zP k[i]<=(k[i].length:Int) - 2:=by unfold zP;omega
  have Ir:=bA (n:=1+zP k[i]);have z:(0:Int).toNat=0:=rfl;have iS:(1:Int).toNat=1:=rfl;refine⟨?_,λgg hX=>?_⟩
  ·simp only[cD,dQ G,if_true,d' G,dH G,ck,dn,kv,gJ,z,iS,ch,dP,hM,hm,Ir];rw[bd ⟨aQB _,by omega⟩,bd ⟨by decide,by omega,by omega⟩,bd (by unfold b2;omega)];rfl
  ·simp only[aL.az.injEq]at hX;subst hX;simp[au]
 ·intro o au;simp
def OL(x:Int×Int×z26'):L (z1'×z26'):=eF (zN x.2.2.1 x.1 x.2.1) (gn (x.2.2.1.take (x.2.2.1.length - x.2.1.toNat)) x.1,x.2.2.1,())
theorem aEm(x):a_ (aja x) (OL x):=bu λh=>by
 obtain⟨c,w,l,u⟩:=x;obtain⟨E,⟨M,al⟩,a7,bR⟩:zN l c w:=h;unfold aja fZ cy bJ bh cF;have hw:=bA (n:=l.length - w);simp only[cD,hw];have e:(l.length - w).toNat=l.length - w.toNat:=by omega
 have kL:l.length - w.toNat<=l.length:=Nat.sub_le _ _;rw[bd ⟨aQB _,by omega,by omega⟩,e];generalize l.length - w.toNat=K at kL;have Ny:(l.take K).length=K:=by grind
 rw[eW (l.take K) (λi o=>(c,(0,K),(K:Int),(i:Int),o,l,())) (λr o=>.az (o++[r.getD c.toNat 0])) (λo=>.az (o,l,())) (λi o=>o.length=i) [] ?_ ?_ ?_ ?_]
 ·rw[ew,aP,db];grind [gn,pN]
 ·rfl
 ·rfl
 ·intro i G o au;have gJ:=bA (n:=i+1);have aB:l.getD i []=(l.take K)[i]'G:=by grind
  have D:c<(((l.take K)[i]'G).length):=by grind
  refine⟨?_,λgg hX=>?_⟩
  ·have ay:decide (i<(K:Int))=true:=aQN (by omega);have bz:((i:Int)).toNat=i:=rfl;simp only[ay,dn,kv,gJ,bz,aRt,aB];rw[bd ⟨by omega,by omega⟩,bd ⟨a7,D⟩,bd (by grind [b2])];rfl
  grind
 simp_all
def fB(x:z2'):Nat:=x.foldl (λw t=>max w t.length) 0
def p4(w:Nat)(t:List UInt8):z1':=((t.length:Int)+32)::df (t++List.replicate (w - t.length) 32)
def p5(w:Nat)(t:List UInt8):z1':=p4 w t++[l4 (p4 w t)]
def sE(rows:List (z1'))(n:Nat):z1':=(List.range n).map λc:Nat=>l4 (gn rows (c:Int))
def jz(x:z2'):List (z1'):=x.map (p5 (fB x))++[sE (x.map (p5 (fB x))) (fB x+2)]
def gP(t:List UInt8):Prop:=t.length<=60/\t.all f'=true
theorem Fl:∀ (x:z2') (w:Nat),(∀ t∈x,t.length<=60)->w<=60->x.foldl (λw t=>max w t.length) w<=60/\w<=x.foldl (λw t=>max w t.length) w/\∀ t∈x,t.length<=x.foldl (λw t=>max w t.length) w
 | [],w,_,h=>⟨h,amY _,by simp⟩
 | t::x,w,h,hw=>by
  have aH:=h t (by simp);obtain⟨aO,aT,b7⟩:=Fl x (max w t.length) (λt aH=>h t (by grind)) (by omega);grind
variable {t:List UInt8}
theorem zR:(df t).all fb=t.all f':=by
 unfold df;induction t with
 | nil=>rfl
 | cons b t aR=>
  grind [fb,f']
variable {w:Nat}
theorem OM(h:gP t):(p4 w t).all fb=true:=by
 obtain⟨E,M⟩:=h;unfold p4;rw[aRd,zR,List.all_append];have e:(List.replicate (w - t.length) (32)).all f'=true:=by
  rw[aQL];intro b U;rw[List.eq_of_mem_replicate U];rfl
 grind [oH]
theorem ON(h:t.length<=w):(p4 w t).length=w+1:=by
 grind [p4,pe]
theorem OO(h:t.length<=w):(p5 w t).length=w+2:=by
 grind [p5,ON]
theorem OP(h:gP t):(p5 w t).all fb=true:=by
 grind [p5,OM,WK]
theorem Js{rows:List (z1')}{c:Nat}(h:∀ r∈rows,r.all fb=true/\c<r.length):(gn rows (c:Int)).all fb=true:=by
 unfold gn;grind
def Jt(s:List UInt8)(n:Nat):List UInt8:=(List.replicate n s).flatten
abbrev OQ:aQ:=⟨.aw .str (.int .i64),.str,λx=>0<=x.2/\x.1.length*x.2.toNat<65536,λx=>Jt x.1 x.2.toNat⟩
theorem aEn(n:Nat)(c:UInt8):Jt [c] n=List.replicate n c:=by
 unfold Jt;simp
abbrev Ju:aQ:=⟨.slice .str,OI,λx=>List.length x<1000/\∀ t∈(x:z2'),gP t,λx=>jz x⟩
theorem aEo(x):a_ (ai0 p3.sh OL wM.sh OQ.sh x) (Ju.sh x):=bu λh=>by
 obtain⟨E,M⟩:=h;unfold ai0 e1 fZ bJ bh bS vH cF;obtain⟨dv,_,ji⟩:=Fl x 0 (λt aH=>(M t aH).1) (by omega);change fB x<=60 at dv;change ∀ t∈x,t.length<=fB x at ji;rw[eW x (λi (w:Nat)=>(x,(w:Int),x,(x.length:Int),(i:Int),[],())) (λt w=>.az (max w t.length)) (λw=>.az (x,w,[],())) (λi w=>w<=60) 0 ?_ ?_ ?_ ?_]
 ·rw[ew,aP];change ar (dI _ (((fB x):Int),x,_,0,[],())) _=_;generalize wZ:fB x=W at dv ji;rw[eW x (λi o=>((W:Int),x,(x.length:Int),(i:Int),o,())) (λt o=>.az (o++[p5 W t])) (λo=>.az (W,o,())) (λi o=>o.length=i) [] ?_ ?_ ?_ ?_]
  ·rw[ew,aP,db];have e:x.foldl (λo t=>o++[p5 W t]) []=x.map (p5 W):=by grind [pN]
   rw[e];generalize fp:x.map (p5 W)=R;have OR:∀ r∈R,r.all fb=true/\r.length=W+2:=λr D=>by
    grind [OP,OO]
   have gJ:IntKind.wrap .i64 (Add.add W 2)=((W+2)):=by grind [bA]
   rw[gJ,eW (List.range (W+2)) (λi o=>(((W+2:Nat):Int),(i:Int),R,o,())) (λi o=>.az (o++[l4 (gn R i)])) (λo=>.az (R,o,())) (λi o=>o.length=i) [] ?_ ?_ ?_ ?_]
   ·rw[ew,aP,db];grind [sE,pN,bd,b2,jz]
   ·rfl
   ·rfl
   ·intro i G o au;have ea:i<W+2:=by grind
    have bB:(List.range (W+2))[i]'G=i:=aQw ..;have OS:=bA (n:=i+1);refine⟨?_,λgg hX=>?_⟩
    ·have ay:decide (i<((W+2:Nat):Int))=true:=aQN (by omega);simp only[ay,dn,OS];rw[show OL (i,0,R,())=mpure (gn R i,R,()) from (bO ⟨by grind,⟨aQB _,by simp⟩,by omega,λr D=>by grind⟩ _).trans (by simp),aP];rw[show p3.sh (gn R i)=mpure (l4 (gn R i)) from bO ⟨by grind [gn],Js λr D=>⟨(OR r D).1,by grind⟩⟩ _,aP,bd (by grind [b2]),bB];rfl
    grind
   simp
  ·rfl
  ·rfl
  ·intro i G o au;have OS:=bA (n:=i+1);have aH:=M _ (amV G);have IY:=ji _ (amV G);have ch:=bA (n:=W - (x[i].length));have ak:=OM (w:=W) aH;have mY:=ON IY;refine⟨?_,λgg hX=>?_⟩
   ·simp only[cD,dQ G,d' G,dH G,ck,dn,OS,ch];rw[show wM.sh (x[i].length)=mpure ((x[i].length:Int)+32) from bO (show (0)<=(x[i].length:Int)/\(x[i].length:Int)<=94 from⟨by omega,by omega⟩) _,aP,show OQ.sh ([32],W - (x[i].length))=mpure (List.replicate (W - x[i].length) 32) from (bO ⟨by grind,by grind⟩ _).trans (by grind [aEn]),aP];rw[bd (by grind [b2]),bd (by grind [b2,pe]),show p3.sh ([(x[i].length:Int)+32]++df (x[i]++List.replicate (W - x[i].length) 32))=mpure (l4 (p4 W x[i])) from bO ⟨by grind [p4],ak⟩ _,aP,bd (by grind [b2,pe]),bd (by grind [b2])];rfl
   grind
  simp
 ·rfl
 ·omega
 ·intro i G w hw;have OS:=bA (n:=i+1);refine⟨?_,λgg hX=>?_⟩
  ·have e:(if (x[i].length) > w then (x[i].length:Int) else w)=((max w x[i].length)):=by omega
   simp_all
  grind
 simp
def vf{af:Type}:Nat->List af->List (List af)
 | 0,_=>[]
 | _+1,[]=>[]
 | f+1,l=>l.take 8::vf f (l.drop 8)
variable {af:Type}
def gK(l:List af):List (List af):=vf l.length l
def yh(x:Option (z2')×Option Int)(ad:List (z2')):Prop:=∃ l,x=(some l,some 8)/\l.length<65536/\ad=gK l
abbrev OT:aQ:=⟨.aw (.slice .str) (.int .i64),.cI (.slice .str),λx=>x.2=8/\List.length x.1<65536,λx=>yh (some x.1,some x.2)⟩
theorem aEp(x):a_ (aiZ yh x) (OT.sh x):=bu λh=>by
 simp_all[aiZ]
theorem OU{af:Type}:∀ (f:Nat) (l:List af),∀ c∈vf f l,c.length<=8/\1<=c.length/\∀ t∈c,t∈l
 | 0,_,c,h=>by cases h
 | _+1,[],c,h=>by cases h
 | f+1,t::l,c,h=>by
  rcases List.mem_cons.1 h with rfl | h
  ·grind
  ·obtain⟨E,M,al⟩:=OU f _ c h;grind
theorem ajn{af:Type}:∀ (f:Nat) (l:List af),(vf f l).length<=l.length
 | 0,_=>aQF _
 | _+1,[]=>amY _
 | f+1,t::l=>by
  unfold vf;have:=ajn f ((t::l).drop 8);grind
theorem WM:∀ {z:z1'},(∀ v∈z,0<=v/\v<=255)->df (ff z)=z
 | [],_=>rfl
 | v::z,h=>by
  have aR:=WM λv ag=>h v (am2 _ ag);have ag:=h v (by simp);unfold df ff at *
  simp  [aR,aR1];have:(UInt8.ofNat v.toNat).toNat=v.toNat:=by simp;omega
  omega
theorem CG(s:List UInt8):ff (df s)=s:=by
 unfold ff df;induction s<;>simp_all
theorem WN{m:Nat}:∀ (l:List (z1')),(∀ r∈l,r.length<=m)->(sD l).length<=l.length*(m+1)
 | [],_=>aQF _
 | r::l,h=>by
  have:=WN l λr D=>h r (am2 _ D);grind [sD,Nat.add_mul]
variable {x:z2'}
theorem ajo(h:∀ t∈x,gP t):∀ r∈jz x,r.length=fB x+2/\r.all fb=true:=by
 obtain⟨dv,_,ji⟩:=Fl x 0 (λt aH=>(h t aH).1) (by omega);grind [fB,OP,OO,jz,sE,WK,Js]
theorem Jv(h:∀ t∈x,gP t):fB x<=60:=(Fl x 0 (λt aH=>(h t aH).1) (by omega)).1
theorem aEq{l:List (z1')}(h:∀ r∈l,r.all fb=true):∀ v∈oI l,0<=v/\v<=255:=by
 grind [oI,sD,oH]
def Jw(x:z2'):z1':=(gK x).flatMap λl=>oI (jz l)
theorem ajp:∀ (ad:List (z2')) (acc:z1'),(∀ l∈ad,l.length<=8/\∀ t∈l,gP t)->acc.length+600*ad.length<1000000->
  kr (λ(A:z14') (y:List eO)=>ar (ar (Ju.sh y) λy=>ar (oJ.sh y) λy=>ar (CF (y,A.1,())) λy=>mpure (dU.normal,y.2.1,())) λp=>mpure (p.1,p.2.1,())) ad (acc,())=mpure (.normal,acc++ad.flatMap (λl=>oI (jz l)),())
 | [],acc,_,_=>by simp[kr]
 | l::ad,acc,h,U=>by
  obtain⟨E,M⟩:=h l (by simp);have hV:=ajo M;have hw:=Jv M;have hlen:(oI (jz l)).length<=600:=by
   have al:=WN   (jz l) λr D=>aSb (hV r D).1;have a7:(jz l).length=l.length+1:=by grind [jz]
   unfold oI;have bR:(l.length+1)*(fB l+2+1)<=9*63:=Nat.mul_le_mul (by omega) (by omega);grind
  have aP5:=aEq λr D=>(hV r D).2;unfold kr;rw[show Ju.sh l=mpure (jz l) from bO (⟨by omega,M⟩) _,aP,show oJ.sh (jz l)=mpure (ff (oI (jz l))) from bO (⟨by grind [jz],λr D=>by grind⟩) _,aP];have hx:(ff (oI (jz l))).length=(oI (jz l)).length:=by simp[ff]
  rw[show CF (ff (oI (jz l)),acc,())=mpure (((ff (oI (jz l))).length:Int),acc++oI (jz l),()) from (bO (by grind [b2]) _).trans (by grind [WM]),aP,aP,aP];rw[ajp ad (acc++oI (jz l)) (λl ai=>h l (am2 _ ai)) (by grind)];simp
abbrev OV:aQ:=⟨.slice .str,.str,λx=>List.length x<=40/\∀ t∈(x:z2'),gP t,λx=>ff (Jw x)⟩
theorem aEr(x):a_ (aiT oJ.sh OT.sh CF Ju.sh zO x) (OV.sh x):=tm λh=>by
 obtain⟨E,M⟩:=h;unfold aiT cy;rw[aP,db];rw[show OT.sh (x,8)=mpure (yh (some x,some 8)) from bO (show (8:Int)=8/\x.length<65536 from⟨rfl,by omega⟩) _,aP,fS];refine⟨⟨_,x,rfl,by omega,rfl⟩,λad iJ=>?_⟩;obtain⟨l,e,_,rfl⟩:=iJ;cases e;have hc:=ajn x.length x;rw[ajp (gK x) [] (λl ai=>⟨(OU _ _ l ai).1,λt aH=>M t ((OU _ _ l ai).2.2 t aH)⟩) (by show 0+600*(vf x.length x).length<_;omega),aP];show c8 (yQ (ar (mpure (ff (Jw x),())) λy=>mpure y.1) _ _ _) _;rw[aP];exact dR.2 rfl
theorem aEs(x):a_ (aDV x) ((k3 .str).sh x):=tt .str x
theorem aEt(x):a_ (aDK (k3 .str).sh x) ((h_ .str).sh x):=tu .str x
theorem aEu(x):a_ (aD3 x) ((k3 (.slice (.int .u8))).sh x):=tt (.slice (.int .u8)) x
theorem aEv(x):a_ (aDZ (k3 (.slice (.int .u8))).sh x) ((h_ (.slice (.int .u8))).sh x):=tu (.slice (.int .u8)) x
abbrev OW:aQ:=⟨.str,.bool,λ_=>True,λs=>List.all s f'⟩
def yi(t:List UInt8):Bool:=decide (t.length > 60)||!t.all f'
abbrev Jx:aQ:=⟨.str,.bool,λ_=>True,λt=>yi t⟩
theorem aEw(x):a_ (aiS OW.sh x) (Jx.sh x):=bu λ_=>by
 grind [aiS,yi,aQ.sh,sM,ov,aP]
theorem OX:yi t=false<->gP t:=by
 grind [yi,gP]
def Jy(x:z2'):z32':=if x.length > 40 then ([],2) else if x.any yi=true then ([],1) else (ff (Jw x),0)
abbrev Fm:aQ:=⟨.slice .str,.aw .str (.int .i64),λx=>List.length x<2 ^ 63,λx=>Jy x⟩
theorem aEx(x):a_ (aiQ (h_ .str).sh OV.sh Jx.sh x) (Fm.sh x):=bu λh=>by
 unfold aiQ dr bJ;show _=mpure (Jy x);have e:decide (Int.ofNat (List.length x) > 40)=decide (x.length > 40):=by grind
 rw[e];unfold Jy;by_cases E:x.length > 40
 ·grind
 ·rw[if_neg E,aQ2 E,if_neg (by decide)];have U:∀ t,Jx.sh t=mpure (yi t):=λt=>bO trivial _;rw[show (h_ .str).sh (x,Jx.sh)=mpure (x.any yi) from (bO (⟨h,λy _=>⟨_,U y⟩⟩) _).trans (by
   simp_all),aP]
  by_cases M:x.any yi=true
  ·grind
  ·rw[if_neg M,if_neg M,show OV.sh x=mpure (ff (Jw x)) from bO (⟨by omega,λt aH=>OX.1 (by
    grind)⟩) _,aP]
theorem OY(a b:List UInt8):df (a++b)=df a++df b:=by simp[df]
theorem WO(r:List UInt8)(i:Nat):(df r).getD i 0=((r.getD i 0).toNat:Int):=by
 unfold df;rw[am1,am1,aRI];cases r[i]?<;>rfl
def Fo(t:List UInt8):UInt8:=Jo (Int.tmod (ajk t) 95)
theorem ajq:∀ (t:List UInt8) (n:Int),0<=n->t.all f'=true->(df t).foldl p2 (Int.tmod n 95)=Int.tmod (t.foldl (λn b=>n+CD b) n) 95
 | [],n,_,_=>rfl
 | b::t,n,h,aZ=>by
  simp only[aRd,amX]at aZ;obtain⟨E,M⟩:=aD'.1 aZ.1;have e:p2 (Int.tmod n 95) b.toNat=Int.tmod (n+CD b) 95:=by
   grind [p2,CD]
  show (df t).foldl p2 (p2 (Int.tmod n 95) b.toNat)=_;rw[e];exact ajq t _ (by omega) aZ.2
theorem aEy(h:t.all f'=true):OF (df t)=Int.tmod (ajk t) 95:=ajq t 0 (aQB _) h
theorem WQ{n:Int}(h:0<=n)(M:n<=94):((Jo n).toNat:Int)=n+32:=by
 unfold Jo;have:(UInt8.ofNat (n+32).toNat).toNat=(n+32).toNat:=by simp;omega
 omega
theorem ajr(h:t.all f'=true):((Fo t).toNat:Int)=l4 (df t):=by
 have U:=OG (df t) 0 (aQB _) (by decide) (by grind [zR]);unfold Fo l4;rw[<-aEy h];exact WQ U.1 U.2
def OZ(l:z2')(c:Int):List UInt8:=l.map λr=>r.getD c.toNat 0
theorem ajs(l:z2')(c:Int):df (OZ l c)=gn (l.map df) c:=by
 unfold OZ gn;show List.map _ (List.map _ l)=_;grind [List.map_congr_left,WO]
def kz(l:z2'):List UInt8:=l.flatMap λr=>r++[10]
def eI(l:z2'):List UInt8:=kz l++[10]
theorem ajt:∀ (l:z2'),df (kz l)=sD (l.map df)
 | []=>rfl
 | r::l=>by
  have aR:=ajt l;unfold kz sD at *
  simp only[aQV,OY,aR];rfl
theorem O0(l:z2'):df (eI l)=oI (l.map df):=by
 unfold eI oI;rw[OY,ajt];rfl
def CH(w:Nat)(t:List UInt8):List UInt8:=Jo (t.length:Int)::t++List.replicate (w - t.length) 32
def sF(w:Nat)(t:List UInt8):List UInt8:=CH w t++[Fo (CH w t)]
def WR(rows:z2')(n:Nat):List UInt8:=(List.range n).map λc:Nat=>Fo (OZ rows (c:Int))
def hZ(x:z2'):z2':=x.map (sF (fB x))++[WR (x.map (sF (fB x))) (fB x+2)]
theorem aju(h:t.length<=60):df (CH w t)=p4 w t:=by
 grind [CH,p4,df,WQ]
theorem aEz(h:gP t):(CH w t).all f'=true:=by
 rw[<-zR,aju h.1];exact OM h
theorem aEA(h:t.all f'=true):df [Fo t]=[l4 (df t)]:=by
 show [((Fo t).toNat:Int)]=_;rw[ajr h]
theorem WS(h:gP t):df (sF w t)=p5 w t:=by
 unfold sF p5;rw[OY,aEA (aEz h),aju h.1]
theorem aEB(h:gP t)(hw:t.length<=w):(sF w t).length=w+2:=by
 grind [pe,WS,OO]
theorem aEC(h:gP t):(sF w t).all f'=true:=by
 grind [zR,WS,OP]
theorem aED{rows:z2'}{c:Nat}(h:∀ r∈rows,r.all f'=true/\c<r.length):(OZ rows (c:Int)).all f'=true:=by
 grind [zR,ajs,Js,pe]
theorem WT(h:∀ t∈x,gP t):(hZ x).map df=jz x:=by
 obtain⟨dv,_,ji⟩:=Fl x 0 (λt aH=>(h t aH).1) (by omega);change ∀ t∈x,t.length<=fB x at ji;have aF:(x.map (sF (fB x))).map df=x.map (p5 (fB x)):=by
  grind [List.map_congr_left,WS]
 unfold hZ jz;rw[aQT];congr 1;show [df (WR _ _)]=_;congr 1;unfold WR sE;show List.map _ (List.map _ _)=_;grind [List.map_congr_left,ajr,aED,aEC,aEB,ajs]
theorem WU{af:Type}:∀ (f:Nat) (l:List af),l.length<=f->∀ k,(vf f l)[k]?=if 8*k<l.length then some ((l.drop (8*k)).take 8) else none
 | 0,l,h,k=>by
  grind [vf]
 | f+1,[],_,k=>by rfl
 | f+1,t::l,h,0=>by rfl
 | f+1,t::l,h,k+1=>by
  unfold vf;rw[aRi,WU f _ (by grind) k,List.drop_drop];grind
theorem WV{l:List af}{k:Nat}:k<(gK l).length<->8*k<l.length:=by
 have h:=WU l.length l (amY _) k;grind [gK]
theorem aEE{l:List af}{k:Nat}(aj:k<(gK l).length):(gK l)[k]=(l.drop (8*k)).take 8:=by
 have h:=WU l.length l (amY _) k;grind [gK]
variable {l:z2'}
theorem Jz(h:∀ t∈l,gP t):∀ c∈gK l,c.length<=8/\1<=c.length/\∀ t∈c,gP t:=λc hc=>
 let ⟨E,M,al⟩:=OU _ _ c hc;⟨E,M,λt aH=>h t (al t aH)⟩
theorem aEF(h:∀ t∈x,gP t):∀ r∈hZ x,r.length=fB x+2/\r.all f'=true:=λr D=>by
 grind [ajo,WT,List.mem_map_of_mem,pe,zR]
theorem aEG(x:z2'):(hZ x).length=x.length+1:=by grind [hZ]
def k7(x:z2'):List UInt8:=(gK x).flatMap λl=>eI (hZ l)
theorem ajv{bet:Type}{f:bet->List UInt8}{g:bet->z1'}:∀ (l:List bet),(∀ y∈l,df (f y)=g y)->df (l.flatMap f)=l.flatMap g
 | [],_=>rfl
 | y::l,h=>by
  rw[aQV,aQV,OY,h y (by simp),ajv l λz bz=>h z (am2 _ bz)]
theorem aEH(h:∀ t∈x,gP t):df (k7 x)=Jw x:=
 ajv _ λl ai=>by rw[O0,WT (Jz h l ai).2.2]
def tP(x:z2'):z32':=if x.length > 40 then ([],2) else if x.any yi=true then ([],1) else (k7 x,0)
theorem ajw(x:z2'):Jy x=tP x:=by
 grind [Jy,tP,aEH,OX,CG]
def JA(n:Nat)(r:List UInt8):Bool:=decide (r.length≠n)||decide (r.length<2)||decide (r.length > 62)||!r.all f'
def pf(x:z2'):Bool:=decide (2<=x.length)&&decide (x.length<=9)&&x.all λr=>!JA (x.getD 0 []).length r
abbrev zS:Type:=List UInt8×List (z2')×z2'
def CJ(b:UInt8)(s:zS):aL zS (aL (List UInt8×z30') (Bool×List (z2')×Unit)):=
 if b≠10 then .az (s.1++[b],s.2.1,s.2.2) else if s.1≠[] then .az ([],s.2.1,s.2.2++[s.1]) else if pf s.2.2=true then .az (s.1,s.2.1++[s.2.2],[]) else .aX (.aX (false,[],()))
def l5(file:List UInt8)(s:zS):aL (List UInt8×z30') (Bool×List (z2')×Unit):=fa CJ (λs=>.az (s.1,s.2.1,s.2.2,())) file s
def wN(r:aL (List UInt8×z30') (Bool×List (z2')×Unit)):Bool×List (z2'):=
 match r with
 | .az s=>(decide (s.1=[])&&decide (s.2.2.1.length=0),s.2.1)
 | .aX r=>(r.1,r.2.1)
def k8(file:List UInt8):Bool×List (z2'):=wN (l5 file ([],[],[]))
def gz(W:Nat)(l:z2'):Prop:=2<=l.length/\l.length<=9/\2<=W/\W<=62/\∀ r∈l,r.length=W/\r.all f'=true
theorem aEI(h:pf l=true):gz (l.getD 0 []).length l:=by
 unfold pf at h;simp only[amX,am0]at h;obtain⟨⟨E,M⟩,al⟩:=h;have D:∀ r∈l,r.length=(l.getD 0 []).length/\2<=r.length/\r.length<=62/\r.all f'=true:=λr D=>by
  have:=List.all_eq_true.1 al r D;unfold JA at this;simp only[Bool.not_or,amX,aQA,aQE,Bool.not_not,ne_eq]at this;obtain⟨⟨⟨aO,aT⟩,b7⟩,gZ⟩:=this;exact⟨Decidable.not_not.1 aO,by omega,by omega,by simpa using gZ⟩
 have aV:l.getD 0 []∈l:=by
  rw[am1,am3 (by omega:0<l.length)];exact amV _
 obtain⟨aO,aT,b7,gZ⟩:=D _ aV;exact⟨E,M,aT,b7,λr h=>⟨(D r h).1,(D r h).2.2.2⟩⟩
def nw(n:Nat):z1':=(List.range n).map λi:Nat=>(i:Int)
theorem CK(n:Nat):(nw n).length=n:=by simp[nw]
theorem WW{n:Nat}(h:i<(nw n).length):(nw n)[i]=(i:Int):=by simp[nw]
theorem aEJ{l:List UInt8}{p:UInt8->Bool}(h:l.all p=true)(n:Nat):(l.take n).all p=true:=List.all_eq_true.2 λx an=>List.all_eq_true.1 h x (aQM an)
theorem ajx:∀ (f:List UInt8) (s:zS),(∀ l∈s.2.1,pf l=true)->(∀ l∈(wN (l5 f s)).2,pf l=true)/\(wN (l5 f s)).2.length<=s.2.1.length+f.length
 | [],s,h=>⟨h,amY _⟩
 | b::f,s,h=>by
  have aR:=ajx f;unfold l5 at aR ⊢;simp only[fa,CJ];by_cases E:b≠10
  ·grind
  ·simp only[if_neg E];by_cases M:s.1≠[]
   ·grind
   ·simp  [if_neg M];by_cases al:pf s.2.2=true
    ·grind
    ·simp  [if_neg al];exact⟨λl ai=>(by cases ai),aQF _⟩
theorem WX(f:List UInt8):(∀ l∈(k8 f).2,pf l=true)/\(k8 f).2.length<=f.length:=by
 have:=ajx f ([],[],[]) (by simp);refine⟨this.1,?_⟩;have M:=this.2;simp  at M;exact M
abbrev ga(l:z2'):Nat:=(l.getD 0 []).length
theorem ajy(n:Nat)(p:Int->Bool):((nw n).filter p).length<=n:=by
 grind [CK]
theorem ajz{af:Type}(p:af->Bool):∀ (l:List af) (n:Nat),l.foldl (λn x=>if p x=true then n+1 else n) n=n+(l.filter p).length
 | [],n=>rfl
 | x::l,n=>by
  rw[aQQ,ajz p l];grind
def sG(r:List UInt8):Option (List UInt8):=if ((r.getD 0 0).toNat:Int) - 32 > (r.length:Int) - 2 then none else some ((r.take (1+(((r.getD 0 0).toNat:Int) - 32)).toNat).drop 1)
def tQ:z2'->z2'->Option (z2')
 | [],o=>some o
 | r::l,o=>match sG r with
  | none=>none
  | some t=>tQ l (o++[t])
def wO:List (z2')->List UInt8×z2'->Option (List UInt8×z2')
 | [],s=>some s
 | l::x,s=>match tQ (l.take (l.length - 1)) s.2 with
  | none=>none
  | some o=>wO x (s.1++eI l,o)
theorem O1{W:Nat}(h:gz W l):(eI l).length<=600:=by
 rw[<-pe,O0];obtain⟨E,M,al,a7,bR⟩:=h;have k:=WN (m:=62) (l.map df) λr D=>by
  grind [pe]
 grind [oI]
def vg(x:List (z2')):z2'×Bool:=
 match wO x ([],[]) with
 | none=>([],false)
 | some s=>(s.2,decide ((tP s.2).2=0)&&decide ((tP s.2).1=s.1))
def ajA(aEK:z32'->L (z27'))(x:List UInt8×z4'):L (List UInt8×z1'×Bool):=
 bS (λ(A:List UInt8×z4'×List UInt8×z20')=>letI p:=Int.ofNat (List.length A.2.1);letI n:=A.2.2.2;letI e:=0<=n.1/\n.1<p;letI u:=e/\True;letI a:=List.getD A.2.1 (Int.toNat n.1) (0,0);bJ (fZ n.1 p) (cy (ah e (ar (aEK (A.1,a.1)) (λy=>letI l:=!y.2||fZ a.2 32;letI s:=l||dr a.2 126;letI g:=(!(!y.2))=true;letI v:=g->g/\True/\True;letI d:=(!l)=true;letI w:=d->d/\True/\True;letI b:=(!s)=true;letI i:=b->b/\True/\True;ah (g->(g/\g)/\u) (ah v (ah v (ah (g->(g/\True)/\True/\True) (ah (True/\((!y.2)=false->g)) (ah (d->(d/\d)/\u) (ah w (ah w (ah (d->(d/\True)/\True/\True) (ah (True/\(l=false->d)) (ah (b->(b/\b)/\u) (ah i (ah i (ah (b->(b/\b)/\(0<=a.1/\a.1<Int.ofNat (List.length A.1))/\True) (ah i (ah (b->(b/\b)/\u) (ah i (ah i (ah (b->(b/\b)/\True/\True) (ah (True/\(s=false->b)) (bJ (s||cu (IntKind.wrap .i64 (Int.ofNat (List.getD A.1 (Int.toNat a.1) 0).1.1.1)) a.2) (ar (ar (ar (mpure ([],[],false)) (λr=>mpure (aL.aX r))) (λr=>mpure (aL.aX r))) (λr=>mpure (aL.aX r))) (bS (λ(A:List UInt8×z4'×List UInt8×Int×z33')=>letI q:=Int.ofNat (List.length A.2.1);letI m:=A.2.2.2;bJ (fZ A.cv m.1) (ah (0<=A.cv/\A.cv<q) (ah (0<=m.1/\m.1<q) (bJ (cu (List.getD A.2.1 (Int.toNat A.cv) (0,0)).1 (List.getD A.2.1 (Int.toNat m.1) (0,0)).1) (ar (ar (ar (ar (ar (mpure ([],[],false)) (λr=>mpure (aL.aX r))) (λr=>mpure (aL.aX r))) (λr=>mpure (aL.aX r))) (λr=>mpure (aL.aX r))) (λr=>mpure (aL.aX r))) (mpure (aL.az (A.1,A.2.1,A.2.2.1,m.1,m.2.1,bh A.cv,A.fI,())))))) (ar (mpure (aL.az (A.1,A.2.1,A.2.2.1,m.1,m.2.1,A.fI,()))) (λr=>mpure (aL.aX r)))) (A.1,A.2.1,A.2.2.1,n.1,y.1,0,n.2.1,()) (λ(A:List UInt8×z4'×List UInt8×z33')=>letI t:=A.2.2;letI h:=0<=t.2.1/\t.2.1<Int.ofNat (List.length A.2.1);letI f:=Int.ofNat (List.length t.1);letI c:=List.getD A.2.1 (Int.toNat t.2.1) (0,0);letI k:=List.drop (Int.toNat (bh c.1)) (List.take (Int.toNat f) t.1);letI j:=List.take (Int.toNat c.1) t.1;letI o:=j++ff [IntKind.wrap .u8 c.2];ah h (ah ((0:Int)<=0/\0<=c.1/\c.1<=f) (ah h (ah (b2 (Add.add (List.length j) (Add.add 0 1))) (ah h (ah (0<=bh c.1/\bh c.1<=f/\f<=f) (ah (b2 (Add.add (List.length o) (List.length k))) (ah (b2 (Add.add (List.length A.cv) (Add.add 0 1))) (mpure (aL.az (A.1,A.2.1,o++k,t.2.1,A.cv++[t.2.2.1],()))))))))))))))))))))))))))))))))))) (λ(A:List UInt8×z4'×List UInt8×z20')=>mpure (aL.az (A.1,A.2.1,A.2.2.1,bh A.2.2.2.1,A.2.2.2.2.1,())))) (ar (mpure (aL.az (A.2.2.1,n.2.1,()))) (λr=>mpure (aL.aX r)))) (x.1,x.2,x.1,0,[],()) λ(A:List UInt8×z14')=>mpure (A.1,A.2.1,true)
def ajB(x:z32'):L (z27'):=
 letI e:=Int.ofNat (List.length x.1);letI b:=fZ x.2 0||decide (x.2>=e);letI f:=(!b)=true;ah (f->(f/\f)/\(0<=x.2/\x.2<e)/\True) (bJ (b||cu (Int.ofNat (List.getD x.1 (Int.toNat x.2) 0).1.1.1) 10) (mpure (0,false)) (bS (λ(A:List UInt8×Int×Int×z25')=>letI d:=Int.ofNat (List.length A.1);letI c:=A.2.2.2.1;letI a:=cu (Int.ofNat (List.getD A.1 (Int.toNat c) 0).1.1.1) 10;bJ (fZ c A.2.1) (cy (ah (0<=c/\c<d) (ah (a=true->(a=true/\a=true)/\(0<=cF c 1/\cF c 1<d)/\True) (bJ (a&&cu (Int.ofNat (List.getD A.1 (Int.toNat (cF c 1)) 0).1.1.1) 10) (mpure (aL.az (A.1,A.2.1,bh A.2.2.1,c,()))) (mpure (aL.az (A.1,A.2.1,A.2.2.1,c,())))))) (λ(A:List UInt8×Int×Int×z25')=>mpure (aL.az (A.1,A.2.1,A.2.2.1,bh A.2.2.2.1,())))) (ar (mpure (aL.az (A.2.2.1,()))) (λr=>mpure (aL.aX r)))) (x.1,x.2,0,1,()) (λ(A:z25')=>mpure (A.1,true))))
def O2(x:z1')(v:Int):Nat:=(x.filter λw=>decide (w=v)).length
def Fp(f:List UInt8)(p:Nat):Nat:=((List.range (p - 1)).filter λk=>decide (f.getD (k+1) 0=10)&&decide (f.getD k 0=10)).length
def kA(f:List UInt8)(p:Int):z27':=if p<0\/(f.length:Int)<=p\/f.getD p.toNat 0=10 then (0,false) else ((Fp f p.toNat:Int),true)
abbrev O3:aQ:=⟨.aw .str (.int .i64),.aw (.int .i64) .bool,λx=>List.length x.1<65536,λx=>kA x.1 x.2⟩
theorem aEL{b:UInt8}:decide ((b.1.1.1:Int)=10)=decide (b=10):=decide_eq_decide.2 ⟨λh=>UInt8.toNat_inj.1 (by show b.1.1.1=10;omega),λh=>by rw[h];rfl⟩
theorem aEM(x):a_ (ajB x) (O3.sh x):=bu λh=>by
 change z32' at x;obtain⟨f,p⟩:=x;change f.length<65536 at h;unfold ajB cu fZ cy bJ bh bS cF;show _=mpure (kA f p);simp only[cD,aEL];by_cases aV:p<0
 ·rw[aQN aV];rw[show kA f p=(0,false) from if_pos (.inl aV)];simp[ck]
 ·by_cases E:(f.length:Int)<=p
  ·grind [kA,ck]
  ·have bh:(0<=p/\p<f.length):=⟨by omega,by omega⟩
   rw[aQ2 aV,aQ2 (by omega)];simp only[aRh,aRj,forall_const,bh,aRx,ck];by_cases M:f.getD p.toNat 0=10
   ·grind [kA]
   ·have ij:¬(p<0\/f.length<=p\/f.getD p.toNat 0=10):=λk=>by
     grind
    rw[show kA f p=((Fp f p.toNat:Int),true) from if_neg ij,aQ2 M];obtain⟨q,rfl⟩:∃ q:Nat,p=q:=⟨p.toNat,by omega⟩
    rw[eW (List.range (q - 1)) (λk (n:Nat)=>(f,(q:Int),(n:Int),(k:Int)+1,())) (λk n=>.az (if (decide (f.getD (k+1) 0=10)&&decide (f.getD k 0=10))=true then n+1 else n)) (λn=>.az (n,())) (λk n=>n<=k) 0 ?_ ?_ ?_ ?_]
    ·rw[ew,ajz,aRt,aP];rfl
    ·rfl
    ·omega
    ·intro k aj n aA;have O4:k<q - 1:=by grind
     have Ey:(List.range (q - 1))[k]'aj=k:=aQw ..;have hw:=bA (n:=k+1+1);have EZ:=bA (n:=n+1);have WY:=bA (n:=k+1 - 1);have ay:decide (k+1<(q:Int))=true:=aQN (by omega);have iS:((k:Int)+1).toNat=k+1:=by omega
     have z2:((k:Int)+1 - 1).toNat=k:=by omega
     have i1:(0<=(k:Int)+1/\k+1<(f.length:Int)):=⟨by omega,by omega⟩
     have i2:(0<=k+1 - 1/\k+1 - 1<f.length):=⟨by omega,by omega⟩
     refine⟨?_,λkD xk=>?_⟩
     ·simp only[WY,iS,z2,Ey];cases (decide (f.getD (k+1) 0=10)&&decide (f.getD k 0=10))<;>simp_all
     grind
    ·have ai:(List.range (q - 1)).length=q - 1:=by simp
     rw[ai];have ay:decide (((q - 1:Nat))+1<(q:Int))=false:=aQ2 (by omega);simp only[ay];simp
section
variable {af:Type}
theorem zT:∀ (m:List (Nat×List af)) (id i:Nat) (d:af),cS (eT m id i d) id=(cS m id).set i d
 | [],id,i,d=>rfl
 | p::m,id,i,d=>by
  have aR:=zT m id i d;grind [cS,eT]
theorem JB:∀ (m:List (Nat×List af)) (id j i:Nat) (d:af),j≠id->cS (eT m id i d) j=cS m j
 | [],id,j,i,d,_=>rfl
 | p::m,id,j,i,d,aM=>by
  have aR:=JB m id j i d aM;grind [cS,eT]
theorem ajC(m:List (Nat×List af))(id i:Nat)(d:af):(eT m id i d).map (·.1)=m.map (·.1):=by
 grind [eT,List.map_congr_left]
theorem WZ(m:List (Nat×List af))(id i j:Nat)(d:af):(eT m id i d).any (λp=>p.1 == j)=m.any (λp=>p.1 == j):=by
 have h:∀ l:List (Nat×List af),l.any (λp=>p.1 == j)=(l.map (·.1)).any (λk=>k == j):=λl=>by grind
 grind [ajC]
end
def jA(r:z1')(a:Int)(c:Int):z1':=r.set a.toNat c
def j4(r:z1'):Bool:=decide (r.getD (r.length - 1) 0≠l4 (r.take (r.length - 1)))
abbrev ajD:Type:=Int×z16'
def aEN(x:ajD):Prop:=fb x.1=true/\x.2.2.1.2.1=0/\x.2.2.1.2.2=(cS x.2.2.2.1 x.2.2.1.1).length/\lG (cS x.2.2.2.1 x.2.2.1.1)/\(0<=x.2.1.2/\x.2.1.2<(x.2.2.1.2.2:Int))/\x.2.2.2.1.any (λp=>p.1 == x.2.2.1.1)=true
def O5(x:ajD):L (Bool×z16'):=
 eF (aEN x) (!j4 (jA (cS x.2.2.2.1 x.2.2.1.1) x.2.1.2 x.1),x.2.1,x.2.2.1,eT x.2.2.2.1 x.2.2.1.1 x.2.1.2.toNat x.1,())
theorem O6{r:z1'}(h:r.all fb=true)(hc:fb c=true):(r.set i c).all fb=true:=List.all_eq_true.2 λv ag=>by
 grind
theorem aEO(x):a_ (ajd p3.pre p3.g x) (O5 x):=bu λh=>by
 obtain⟨c,⟨tz,a⟩,⟨id,ba,n⟩,m,u⟩:=x;obtain⟨E,M,al,a7,bR,er⟩:=h;change ba=0 at M;change n=(cS m id).length at al;change lG (cS m id) at a7;change 0<=a/\a<(n:Int) at bR;change m.any (λp=>p.1 == id)=true at er;subst M;unfold ajd cF;obtain⟨cn,cN,fF⟩:=a7;have hw:=bA (n:=n - 1);have bz:((n:Int) - 1).toNat=n - 1:=by omega
 have z:(0:Int).toNat=0:=rfl;have D:cS (eT m id a.toNat c) id=jA (cS m id) a c:=zT m id a.toNat c;have ai:(jA (cS m id) a c).length=n:=by unfold jA;grind
 have b8:(jA (cS m id) a c).all fb=true:=O6 fF E;have cu:gD (.int .u8) (eT m id a.toNat c) (.cP (.int .u8)) (id,0,n - 1)=(jA (cS m id) a c).take (n - 1):=by
  show ((cS (eT m id a.toNat c) id).drop 0).take (n - 1)=_;grind
 simp only[cD,kv,aRt,Nat.sub_zero,hw,bz,z,D];rw[bd bR,bd (by omega),bd ⟨by omega,by omega⟩,bd (by omega),bd ⟨aQB _,by omega,by omega⟩];rw[cu,bd ⟨⟨rfl,(WZ m id a.toNat id c).trans er,by grind⟩,by
  grind,List.all_eq_true.2 λv ag=>List.all_eq_true.1 b8 v (aQM ag)⟩]
 grind [j4]
end Go.Fer
namespace Go.Fer
theorem ajE{A rho:Type}{body:A->L (aL A rho)}{p:rho->Prop}{s0:A}(n:Nat)(I:Nat->A->Prop)(aV:I 0 s0)
  (ax:∀ i,i<n->∀ s,I i s->c8 (body s) λae=>match ae with | .az s'=>I (i+1) s' | .aX r=>p r)
  (aC:∀ s,I n s->c8 (body s) λae=>match ae with | .az _=>False | .aX r=>p r):c8 (dI body s0) p:=by
 have key:∀ k i s,n - i=k->i<=n->I i s->c8 (dI body s) p:=by
  intro k;induction k with
  | zero=>
   intro i s aj G h;have:i=n:=by omega
   subst this;rw[Af,fS];refine (aC s h).mono λy bf=>?_;grind [dR]
  | succ k aR=>
   intro i s aj G h;rw[Af,fS];refine (ax i (by omega) s h).mono λy bf=>?_;grind [dR]
 grind
def jg(l:z1'):Int:=(l.map λx=>x - 32).sum
theorem ajF:∀ (l:z1') (s:Int),0<=s->s<=94->l.all fb=true->l.foldl p2 s=(s+jg l) % 95
 | [],s,h,M,_=>by show s=(s+0) % 95;omega
 | c::l,s,h,M,aZ=>by
  simp only[aRd,amX]at aZ;obtain⟨aO,aT⟩:=WJ h aZ.1;have aR:=ajF l _ aO aT aZ.2;grind [p2,jg]
variable {l:z1'}
theorem CL(h:l.all fb=true):l4 l=jg l % 95+32:=by
 grind [ajF,l4,OF]
theorem W0:∀ (l:z1') (i:Nat) (c:Int),i<l.length->jg (l.set i c)=jg l - l.getD i 0+c
 | [],i,c,h=>by grind
 | x::l,0,c,h=>by
  grind [jg]
 | x::l,i+1,c,h=>by
  have:=W0 l i c (by grind);grind [jg]
variable {i:Nat}
theorem O7(h:l.all fb=true)(G:i<l.length):32<=l.getD i 0/\l.getD i 0<=126:=by
 grind [oH,List.getElem_mem]
theorem ajG{p:Int->Bool}(h:l.all p=true)(n:Nat):(l.take n).all p=true:=List.all_eq_true.2 λx an=>List.all_eq_true.1 h x (aQM an)
def zU(r:z1'):Int:=jg (r.take (r.length - 1)) - (r.getD (r.length - 1) 0 - 32)
variable {r:z1'}
theorem Fq(h:lG r):j4 r=false<->zU r % 95=0:=by
 obtain⟨E,M,al⟩:=h;have ai:=O7 al (i:=r.length - 1) (by omega);grind [j4,zU,CL]
theorem O8(r:z1')(a c:Int):(jA r a c).length=r.length:=by unfold jA;simp
variable {a:Int}{c:Int}
theorem zV(h:lG r)(hc:fb c=true):lG (jA r a c):=⟨by rw[O8];exact h.1,by rw[O8];exact h.2.1,O6 h.2.2 hc⟩
theorem O9(h:2<=r.length)(aV:0<=a)(aZ:a<(r.length:Int)):zU (jA r a c)=if a.toNat=r.length - 1 then zU r+r.getD a.toNat 0 - c else zU r - r.getD a.toNat 0+c:=by
 grind [zU,jA,List.take_set,List.set_eq_of_length_le,W0]
theorem aEP(h:lG r)(aV:0<=a)(aZ:a<(r.length:Int)):∃ c,fb c=true/\j4 (jA r a c)=false:=by
 by_cases e:a.toNat=r.length - 1
 ·have hc:fb (32+(r.getD a.toNat 0 - 32+zU r) % 95)=true:=oH.2 (by omega);refine⟨_,hc,(Fq (zV h hc)).2 ?_⟩;rw[O9 h.1 aV aZ];omega
 ·have hc:fb (32+(r.getD a.toNat 0 - 32 - zU r) % 95)=true:=oH.2 (by omega);grind [Fq,zV,O9]
theorem aEQ{d:Int}(h:lG r)(aV:0<=a)(aZ:a<(r.length:Int))(hc:fb c=true)(ay:fb d=true)(E:j4 (jA r a c)=false)(M:j4 (jA r a d)=false):c=d:=by
 have aO:=(Fq (zV h hc)).1 E;have aT:=(Fq (zV h ay)).1 M;have bI:=oH.1 hc;have d1:=oH.1 ay;rw[O9 h.1 aV aZ]at aO aT;omega
theorem W1:c∈k6<->fb c=true:=by
 unfold k6;rw[aRY,oH];constructor
 ·grind
 ·intro h;exact⟨(c - 32).toNat,List.mem_range.2 (by omega),by omega⟩
def n1(r:z1')(a:Int):Int:=(k6.find? λc=>!j4 (jA r a c)).getD 32
theorem ajH(h:lG r)(aV:0<=a)(aZ:a<(r.length:Int)):(k6.find? λc=>!j4 (jA r a c))=some (n1 r a):=by
 unfold n1;cases aC:k6.find? λc=>!j4 (jA r a c) with
 | some c=>rfl
 | none=>
  grind [aEP,W1]
theorem JC(h:lG r)(aV:0<=a)(aZ:a<(r.length:Int)):fb (n1 r a)=true/\j4 (jA r a (n1 r a))=false:=by
 grind [ajH,W1]
theorem aER(h:lG r)(aV:0<=a)(aZ:a<(r.length:Int))(hc:fb c=true)(U:j4 (jA r a c)=false):n1 r a=c:=
 aEQ h aV aZ (JC h aV aZ).1 hc (JC h aV aZ).2 U
abbrev mx:Type:=Nat×z21'
abbrev ia:Type:=List (Nat×z1')
def qV(m:ia)(h:mx):Prop:=m.any (λp=>p.1 == h.1)=true/\h.2.1=0/\h.2.2=(cS m h.1).length
def dD(m:ia)(b:List mx):List (z1'):=b.map λh=>cS m h.1
theorem ajI(m:ia)(id i:Nat)(c d:Int):eT (eT m id i c) id i d=eT m id i d:=by
 unfold eT;rw[aRZ];apply aQz;intro p _;by_cases h:p.1=id<;>simp_all
theorem Jg{af rho:Type}{qM:af->Bool}{g:af->rho}{fin:Unit->rho}:∀ (l:List af) (u:Unit),fa (λc u=>if qM c=true then (.aX (g c):aL Unit rho) else .az u) fin l u=match l.find? qM with | some c=>g c | none=>fin ()
 | [],u=>rfl
 | c::l,u=>by
  simp  [fa,List.find?_cons];cases qM c with
  | true=>rfl
  | false=>exact Jg l u
abbrev W2:Type:=z1'×(z11')×mx×ia×Unit
def W3(x:W2):Prop:=x.1=k6/\qV x.2.2.2.1 x.2.2.1/\lG (cS x.2.2.2.1 x.2.2.1.1)/\0<=x.2.1.2/\x.2.1.2<(x.2.2.1.2.2:Int)
def O_(x:W2):L (Int×(z11')×mx×ia×Unit):=
 eF (W3 x) (n1 (cS x.2.2.2.1 x.2.2.1.1) x.2.1.2 - 32,x.2.1,x.2.2.1,eT x.2.2.2.1 x.2.2.1.1 x.2.1.2.toNat (n1 (cS x.2.2.2.1 x.2.2.1.1) x.2.1.2),())
def O'(x:W2):L (Bool×(z11')×mx×ia×Unit):=
 eF (W3 x) (true,x.2.1,x.2.2.1,eT x.2.2.2.1 x.2.2.1.1 x.2.1.2.toNat (n1 (cS x.2.2.2.1 x.2.2.1.1) x.2.1.2),())
def zW(m:ia)(id:Nat)(a:Int):Nat->ia
 | 0=>m
 | i+1=>eT m id a.toNat ((i:Int)+32)
theorem aES(x):a_ (ajc O5 x) (O_ x):=bu λh=>by
 obtain⟨l,⟨tz,a⟩,⟨id,ba,n⟩,m,u⟩:=x;obtain⟨E,M,al,a7,bR⟩:=h;obtain⟨aO,aT,b7⟩:=M;change n=(cS m id).length at b7;change lG (cS m id) at al;change 0<=a at a7;change a<n at bR;subst E aT;unfold ajc fZ bJ bh bS;have o7:k6.length=95:=by decide
 rw[e2 k6 (λi (_)=>(k6,(k6.length:Int),(i:Int),(tz,a),(id,0,n),zW m id a i,())) (λc u=>if (!j4 (jA (cS m id) a c))=true then .aX (.aX (c - 32,(tz,a),(id,0,n),eT m id a.toNat c,())) else .az u) (λ_=>.az ((tz,a),(id,0,n),zW m id a 95,())) () ?_ ?_ ?_]
 ·rw[Jg,ajH al a7 (by omega),aP,uU]
 ·rfl
 ·intro i G u;have hw:=bA (n:=i+1);have hc:k6[i]=i+32:=by simp[k6]
  have b8:=W1.1 (amV G);have ak:eT (zW m id a i) id a.toNat k6[i]=eT m id a.toNat k6[i]:=by
   cases i with
   | zero=>rfl
   | succ i=>exact ajI m id a.toNat _ _
  have D:jA (cS (zW m id a i) id) a k6[i]=jA (cS m id) a k6[i]:=by
   grind [jA,zT]
  have ed:(cS (zW m id a i) id).length=(cS m id).length:=by
   grind [zT,List.length_set]
  have r8:lG (cS (zW m id a i) id):=by
   cases i with
   | zero=>exact al
   | succ i=>
    show lG (cS (eT m id a.toNat _) id);rw[zT];exact zV al (oH.2 ⟨by omega,by omega⟩)
  have aET:(zW m id a i).any (λp=>p.1 == id)=true:=by
   cases i with
   | zero=>exact aO
   | succ i=>exact (WZ m id a.toNat id _).trans aO
  have aEU:O5 (k6[i],(tz,a),(id,0,n),zW m id a i,())=mpure (!j4 (jA (cS m id) a k6[i]),(tz,a),(id,0,n),eT m id a.toNat k6[i],()):=by
   refine (bO (⟨b8,rfl,by grind,r8,⟨a7,bR⟩,aET⟩) _).trans ?_;grind
  simp only[cD,dQ G,d' G,dH G,Prod.cv];erw [aEU];cases j4 (jA (cS m id) a k6[i]) with
  | false=>
   simp_all[k6]
  | true=>
   simp  [hw];rw[hc];rfl
 simp_all
theorem aEV(x):a_ (ai' O_ x) (O' x):=bu λh=>by
 unfold ai' O_;rw[bO (h),aP];obtain⟨E,M,al,a7,bR⟩:=h;have:=oH.1 (JC al a7 (by rw[<-M.2.2];omega)).1;grind
def p6(W:Nat)(R:List (z1')):Prop:=2<=R.length/\R.length<=9/\2<=W/\W<=62/\∀ r∈R,r.length=W/\r.all fb=true
def k9(R:List (z1'))(c:Nat):Bool:=decide ((R.getD (R.length - 1) []).getD c 0≠l4 (gn (R.take (R.length - 1)) (c:Int)))
def kc(R:List (z1')):z1':=(nw R.length).filter λv=>j4 (R.getD v.toNat [])
def k_(W:Nat)(R:List (z1')):z1':=(nw W).filter λv=>k9 R v.toNat
def n2(R:List (z1'))(r a:Int):List (z1'):=R.set r.toNat (jA (R.getD r.toNat []) a (n1 (R.getD r.toNat []) a))
def la(W:Nat)(R:List (z1')):z15':=
 if (kc R).length+(k_ W R).length=0 then (0,0,0)
 else if (kc R).length≠1\/(k_ W R).length≠1 then (2,0,0)
 else if k9 (n2 R ((kc R).getD 0 0) ((k_ W R).getD 0 0)) ((k_ W R).getD 0 0).toNat=true then (2,0,0)
 else (1,(kc R).getD 0 0,(k_ W R).getD 0 0)
variable {R:List (z1')}
theorem p6.fG{W:Nat}(h:p6 W R)(D:r∈R):lG r:=by
 obtain⟨E,M,al,a7,bR⟩:=h;obtain⟨aO,aT⟩:=bR r D;exact⟨by omega,by omega,aT⟩
theorem Fs{v:Int}:v∈kc R<->∃ i:Nat,i<R.length/\v=(i:Int)/\j4 (R.getD i [])=true:=by
 grind [kc,nw]
theorem Ft{W:Nat}{v:Int}:v∈k_ W R<->∃ i:Nat,i<W/\v=(i:Int)/\k9 R i=true:=by
 grind [k_,nw]
theorem W4(m:ia)(b:List mx):(dD m b).length=b.length:=by simp[dD]
variable {m:ia}{b:List mx}{k:Nat}
theorem Pa(h:k<b.length):(dD m b).getD k []=cS m (b.getD k (0,0,0)).1:=by
 unfold dD;grind
theorem W5(h:k<b.length):b.getD k (0,0,0)∈b:=by
 grind
variable {h:mx}
theorem ajJ(aj:qV m h)(aA:k<=h.2.2):og (.int .u8) m (.cP (.int .u8)) (h.1,0,k)/\gD (.int .u8) m (.cP (.int .u8)) (h.1,0,k)=(cS m h.1).take k:=by
 obtain⟨aO,aT,b7⟩:=aj;refine⟨⟨rfl,aO,by grind⟩,?_⟩;rfl
theorem Fu(aj:∀ h∈b,qV m h):og (.int .u8) m (.slice (.cP (.int .u8))) b/\gD (.int .u8) m (.slice (.cP (.int .u8))) b=dD m b:=by
 have E:∀ h∈b,og (.int .u8) m (.cP (.int .u8)) h/\gD (.int .u8) m (.cP (.int .u8)) h=cS m h.1:=λh dj=>by
  have k:=aj _ dj;obtain⟨aO,aT,b7⟩:=k;have:=ajJ (aj _ dj)   (amY _);grind
 refine⟨λh dj=>(E h dj).1,?_⟩;show b.map (gD (.int .u8) m (.cP (.int .u8)))=b.map _;grind [List.map_congr_left]
theorem ajK(aj:qV m h)(id i:Nat)(c:Int):qV (eT m id i c) h:=by
 obtain⟨aO,aT,b7⟩:=aj;refine⟨(WZ m id i h.1 c).trans aO,aT,?_⟩;grind [zT,JB]
variable {id:Nat}
theorem ajL(aA:id ∉ b.map (·.1))(i:Nat)(c:Int):dD (eT m id i c) b=dD m b:=by
 grind [dD,List.map_congr_left,JB]
theorem W6{m:ia}:∀ {b:List mx} (_:(b.map (·.1)).Nodup) {k:Nat} (_:k<b.length) (i:Nat) (c:Int),dD (eT m (b.getD k (0,0,0)).1 i c) b=(dD m b).set k (((dD m b).getD k []).set i c)
 | [],_,k,h,_,_=>by rfl
 | h::b,aA,0,_,i,c=>by
  show cS (eT m h.1 i c) h.1::dD (eT m h.1 i c) b=(cS m h.1).set i c::dD m b;grind [zT,ajL]
 | h::b,aA,k+1,aj,i,c=>by
  simp  at aA;have O4:k<b.length:=by grind
  have aR:=W6 (m:=m) aA.2 O4 i c;show cS (eT m (b.getD k (0,0,0)).1 i c) h.1::dD (eT m (b.getD k (0,0,0)).1 i c) b=cS m h.1::(dD m b).set k (((dD m b).getD k []).set i c);grind [JB]
theorem aEW(aA:(m.map (·.1)).Nodup)(id i:Nat):eT m id i ((cS m id).getD i 0)=m:=by
 have key:∀ p∈m,(if p.1=id then (p.1,p.2.set i ((cS m id).getD i 0)) else p)=p:=by
  rintro⟨j,l⟩ ak;by_cases e:j=id
  ·have ai:=ZT aA ak;by_cases G:i<l.length
   ·simp_all
   grind [List.set_eq_of_length_le]
  grind
 unfold eT;rw[aQz key];simp
abbrev Pb:Type:=List mx×ia×Unit
def W7(x:Pb):Prop:=(x.2.1.map (·.1)).Nodup/\(∀ h∈x.1,qV x.2.1 h)/\(x.1.map (·.1)).Nodup/\∃ W,p6 W (dD x.2.1 x.1)
abbrev wP(R:List (z1')):Nat:=(R.getD 0 []).length
def wQ(x:Pb):z15':=la (wP (dD x.2.1 x.1)) (dD x.2.1 x.1)
def zX(x:Pb):ia:=if (wQ x).1=1 then eT x.2.1 (x.1.getD (wQ x).2.1.toNat (0,0,0)).1 (wQ x).2.2.toNat (n1 ((dD x.2.1 x.1).getD (wQ x).2.1.toNat []) (wQ x).2.2) else x.2.1
def JD(x:Pb):L (Int×(z11')×ia×Unit):=eF (W7 x) ((wQ x).1,(wQ x).2,zX x,())
theorem p6.wide{W:Nat}(h:p6 W R):wP R=W:=by
 obtain⟨E,M,al,a7,bR⟩:=h;grind
theorem ajM{W c:Nat}(h:∀ r∈R,r.length=W/\r.all fb=true)(hc:c<W):(gn R (c:Int)).all fb=true:=Js λr D=>⟨(h r D).2,by grind⟩
theorem aEX(x):a_ (aje p3.pre p3.g yg.pre yg.g O' Jq.sh x) (JD x):=bu λh=>by
 obtain⟨b,m,u⟩:=x;obtain⟨fU,fW,mB,W,uO⟩:=h;change (m.map (·.1)).Nodup at fU;change ∀ h∈b,qV m h at fW;change (b.map (·.1)).Nodup at mB;change p6 W (dD m b) at uO;have aEY:=uO.wide;have ed:=W4 m b;have Fv:wQ (b,m,u)=la W (dD m b):=by show la (wP (dD m b)) (dD m b)=_;rw[aEY]
 have ajN:zX (b,m,u)=if (la W (dD m b)).1=1 then eT m (b.getD (la W (dD m b)).2.1.toNat (0,0,0)).1 (la W (dD m b)).2.2.toNat (n1 ((dD m b).getD (la W (dD m b)).2.1.toNat []) (la W (dD m b)).2.2) else m:=by unfold zX;rw[Fv]
 rw[Fv,ajN];clear Fv ajN;have aB:=λk (aj:k<b.length)=>Pa (m:=m) aj;obtain⟨c6,cM,hU,lK,cv⟩:=uO;rw[ed]at c6 cM;have aj:=λk (aj:k<b.length)=>fW _ (W5 aj);have hV:=λk (aj:k<b.length)=>cv ((dD m b).getD k []) (by
  have oz:k<(dD m b).length:=by rw[ed];exact aj
  rw[am1,am3 oz];exact amV oz)
 obtain⟨d1,d2⟩:=Fu fW;have aEZ:∀ c:Nat,c<W->zN (dD m b) (c:Int) 1:=λc hc=>⟨by rw[ed];omega,⟨by decide,by rw[ed];omega⟩,by omega,λr D=>by have:=(cv r D).1;omega⟩
 have aE0:∀ (R:List (z1')) (c:Nat),(∀ r∈R,r.length=W/\r.all fb=true)->R.length<=9->c<W->p3.pre (gn (R.take (R.length - 1)) (c:Int)):=λR c fp ai hc=>⟨by show (gn _ _).length<65536;unfold gn;simp;omega,ajM (λr D=>fp r (aQM D)) hc⟩
 unfold aje e1 jq fZ cy bJ bh bS dy cF;dsimp only;rw[eW (nw b.length) (λi (o:z1')=>(b,b,(b.length:Int),(i:Int),(0,0),o,[],m,())) (λv o=>.az (if j4 ((dD m b).getD v.toNat [])=true then o++[v] else o)) (λo=>.az (b,(0,0),o,[],m,())) (λi o=>o.length<=i) [] ?_ ?_ ?_ ?_]
 ·rw[ew,H6,aP,db];dsimp only;have a6:[]++List.filter (λv=>j4 ((dD m b).getD v.toNat [])) (nw b.length)=kc (dD m b):=by unfold kc;rw[ed];rfl
  rw[a6,bd (by rw[cD];omega)];have aV:=aj 0 (by omega);have fx:=hV 0 (by omega);rw[aB 0 (by omega)]at fx;have z:(0:Int).toNat=0:=rfl;have iS:(1:Int).toNat=1:=rfl;have aE1:(b.getD (0:Int).toNat (0,0,0)).2.2=W:=by rw[z,aV.2.2,fx.1]
  rw[aE1];have GI:=bA (n:=(b.length:Int) - 1);have Ms:((b.length:Int) - 1).toNat=b.length - 1:=by omega
  have ajO:=aj (b.length - 1) (by omega);have ajP:=hV (b.length - 1) (by omega);rw[aB _ (by omega)]at ajP;have ajQ:=ajO.2.2;rw[ajP.1]at ajQ;have ajR:=ajO.2.1;rw[eW (nw W) (λi (o:z1')=>(b,(W:Int),(i:Int),(0,0),kc (dD m b),o,m,())) (λv o=>.az (if k9 (dD m b) v.toNat=true then o++[v] else o)) (λo=>.az (b,(0,0),kc (dD m b),o,m,())) (λi o=>o.length<=i) [] ?_ ?_ ?_ ?_]
  ·rw[ew,H6,aP,db];dsimp only;have kH:[]++List.filter (λv=>k9 (dD m b) v.toNat) (nw W)=k_ W (dD m b):=rfl;rw[kH];have fC:(kc (dD m b)).length<=9:=am5 (ajy _ _) (by rw[ed];exact cM);have fR:(k_ W (dD m b)).length<=62:=am5 (ajy _ _) lK;have GO:=bA (n:=((kc (dD m b)).length:Int)+((k_ W (dD m b)).length:Int));simp only[cD,dn,GO];unfold la;by_cases bI:(kc (dD m b)).length+(k_ W (dD m b)).length=0
   ·rw[if_pos bI,if_pos (aQN (by omega)),if_neg (by decide)]
   ·rw[if_neg bI,if_neg (by rw[aQ6];omega)];by_cases c2:(kc (dD m b)).length≠1\/(k_ W (dD m b)).length≠1
    ·rw[if_pos c2,if_pos (by rw[aQH,aQ6,aQ6];omega),if_neg (by decide)]
    ·rw[if_neg c2,if_neg (by rw[aQH,aQ6,aQ6];omega)];obtain⟨v1,aF⟩:=List.length_eq_one_iff.1 (show (kc (dD m b)).length=1 by omega);obtain⟨ao,bB⟩:=List.length_eq_one_iff.1 (show (k_ W (dD m b)).length=1 by omega);obtain⟨i,G,rfl,bJ⟩:=Fs.1 (show v1∈kc (dD m b) by rw[aF];simp);obtain⟨j,aM,rfl,pn⟩:=Ft.1 (show ao∈k_ W (dD m b) by rw[bB];simp);rw[ed]at G;rw[aF,bB];have dT:List.getD [(i:Int)] 0 0=(i:Int):=rfl;have eo:List.getD [(j:Int)] 0 0=(j:Int):=rfl;have CM:((i:Int)).toNat=i:=rfl;have W8:((j:Int)).toNat=j:=rfl;simp only[z,dT,eo,CM,W8];have CN:=aj i G;have ql:=hV i G;rw[aB i G]at ql;have JE:=CN.2.2;rw[ql.1]at JE;have Pc:=CN.2.1;have vh:lG (cS m (b.getD i (0,0,0)).1):=⟨by omega,by omega,ql.2⟩
     have j9:=JC vh (a:=(j:Int)) (by omega) (by omega);have qm:dD (eT m (b.getD i (0,0,0)).1 j (n1 (cS m (b.getD i (0,0,0)).1) (j:Int))) b=n2 (dD m b) (i:Int) (j:Int):=by
      rw[W6 mB G];unfold n2 jA;rw[CM,W8,aB i G]
     have ajS:∀ h∈b,qV (eT m (b.getD i (0,0,0)).1 j (n1 (cS m (b.getD i (0,0,0)).1) (j:Int))) h:=λh dj=>ajK (fW h dj) _ _ _;have vK:eT (eT m (b.getD i (0,0,0)).1 j (n1 (cS m (b.getD i (0,0,0)).1) (j:Int))) (b.getD i (0,0,0)).1 j ((cS m (b.getD i (0,0,0)).1).getD j 0)=m:=by rw[ajI,aEW fU]
     have ajT:(cS (eT m (b.getD i (0,0,0)).1 j (n1 (cS m (b.getD i (0,0,0)).1) (j:Int))) (b.getD i (0,0,0)).1).length=W:=by rw[zT,aRl,ql.1]
     rw[bd ⟨aQB _,show (0:Int)<1 by decide⟩,bd ⟨aQB _,show (0:Int)<1 by decide⟩,bd ⟨by omega,by omega⟩,Pc,bd ⟨by omega,by omega⟩,bd (by rw[ql.1,kv];omega),bd (show (Jq.sh ()).fr from trivial)];have KL:(Jq.sh ()).val []=k6:=iK;rw[KL];rw[show O' (k6,((i:Int),(j:Int)),b.getD i (0,0,0),m,())=mpure (true,((i:Int),(j:Int)),b.getD i (0,0,0),eT m (b.getD i (0,0,0)).1 j (n1 (cS m (b.getD i (0,0,0)).1) (j:Int)),()) from bO (show W3 (k6,((i:Int),(j:Int)),b.getD i (0,0,0),m,()) from⟨rfl,CN,vh,by show (0:Int)<=(j:Int);omega,by show (j:Int)<(((b.getD i (0,0,0)).2.2:Nat):Int);omega⟩) _,aP];dsimp only;have fm:(cS (eT m (b.getD i (0,0,0)).1 j (n1 (cS m (b.getD i (0,0,0)).1) (j:Int))) (b.getD (b.length - 1) (0,0,0)).1)=(n2 (dD m b) (i:Int) (j:Int)).getD (b.length - 1) []:=by rw[<-qm,Pa (by omega)]
     have Pd:∀ r∈n2 (dD m b) (i:Int) (j:Int),r.length=W/\r.all fb=true:=λr D=>by
      unfold n2 at D;rcases List.mem_or_eq_of_mem_set D with D | D
      ·exact cv r D
      ·rw[D,O8,CM,aB i G];exact⟨ql.1,(zV vh j9.1).2.2⟩
     have u3:(n2 (dD m b) (i:Int) (j:Int)).length=b.length:=by unfold n2;rw[aRl,ed]
     obtain⟨Qn,AJ⟩:=Fu ajS;rw[qm]at AJ;generalize qw:eT m (b.getD i (0,0,0)).1 j (n1 (cS m (b.getD i (0,0,0)).1) (j:Int))=Q at qm ajS vK ajT fm Qn AJ ⊢;generalize aU:n2 (dD m b) (i:Int) (j:Int)=T at qm fm Pd u3 AJ ⊢;have aE2:=Pd (T.getD (b.length - 1) []) (by
      have M:b.length - 1<T.length:=by rw[u3];omega
      rw[am1,am3 M];exact amV M)
     have JF:gD (.int .u8) Q (.aw (.slice (.cP (.int .u8))) (.aw (.int .i64) (.int .i64))) (b,(j:Int),(1:Int))=((T,(j:Int),(1:Int)):List (z1')×z11'):=by
      exact congrArg (λz:List (z1')=>(z,(j:Int),(1:Int))) AJ
     have I4:yg.g (T,(j:Int),1)=gn (T.take (T.length - 1)) (j:Int):=rfl;simp only[JF,I4,GI,Ms,ajR,fm,W8];rw[bd (λ_=>⟨rfl,trivial,trivial⟩),bd (λ_=>⟨⟨rfl,trivial⟩,trivial,trivial⟩),bd (λ_=>⟨⟨rfl,rfl⟩,⟨by omega,by omega⟩,trivial⟩),bd (λ_=>⟨rfl,trivial,trivial⟩),bd (λ_=>⟨rfl,trivial,trivial⟩),bd (λ_=>⟨⟨rfl,rfl⟩,⟨by omega,by rw[ajQ];omega⟩,trivial⟩),bd (λ_=>⟨rfl,by rw[aE2.1,kv];omega,trivial⟩),bd (λ_=>⟨rfl,trivial,trivial⟩),bd (λ_=>⟨⟨rfl,rfl,trivial⟩,⟨⟨Qn,trivial,trivial⟩,show zN T (j:Int) 1 from⟨by rw[u3];omega,⟨by decide,by rw[u3];omega⟩,by omega,λr D=>by have:=(Pd r D).1;omega⟩⟩,trivial⟩),bd (λ_=>⟨⟨rfl,trivial⟩,aE0 T j Pd (by omega) aM,trivial⟩),bd (λ_=>⟨⟨rfl,rfl⟩,trivial,trivial⟩),bd ⟨trivial,λ_=>rfl⟩];have GJ:(!true||decide ((T.getD (b.length - 1) []).getD (Add.add 0 j) 0≠p3.g (gn (T.take (T.length - 1)) (j:Int))))=k9 T j:=by
      unfold k9;rw[u3,kv,aRt];rfl
     erw [GJ];by_cases c3:k9 T j=true
     ·rw[if_pos c3,if_pos c3,if_neg (by decide),Pc,bd ⟨by omega,by rw[JE];omega⟩,bd (by rw[ajT,kv];omega)];have W9:Add.add 0 j=j:=aRt j;rw[W9,vK]
     ·rw[if_neg c3,if_neg c3];rw[if_pos rfl,<-qw,<-aB i G];rfl
  ·rfl
  ·exact amY _
  ·intro c hc o au;rw[CK]at hc;have hw:=bA (n:=(c:Int)+1);have ay:decide ((c:Int)<(W:Int))=true:=aQN (by omega);have aE3:((c:Int)).toNat=c:=rfl;have JF:gD (.int .u8) m (.aw (.slice (.cP (.int .u8))) (.aw (.int .i64) (.int .i64))) (b,(c:Int),(1:Int))=((dD m b,(c:Int),(1:Int)):List (z1')×z11'):=by
    exact congrArg (λz=>(z,(c:Int),(1:Int))) d2
   refine⟨?_,λgg hX=>?_⟩
   ·simp only[Prod.fI,cD,GI,Ms,ajR,JF,kv,aRt];rw[bd ⟨by omega,by omega⟩,bd ⟨by omega,by omega⟩,bd (by omega),bd ⟨⟨d1,trivial,trivial⟩,aEZ c hc⟩,bd (by grind)];have c7:decide ((cS m (b.getD (b.length - 1) (0,0,0)).1).getD c 0≠p3.g (gn ((dD m b).take ((dD m b).length - 1)) c))=k9 (dD m b) c:=by
     grind [k9]
    erw [c7];rw[WW (by omega),aE3];cases k9 (dD m b) c with
    | true=>
     rw[if_pos rfl,bd (by grind [b2]),aP];simp_all
    | false=>
     simp_all
   grind
  simp_all[CK]
 ·rfl
 ·simp
 ·intro i G o au;rw[CK]at G;have hw:=bA (n:=i+1);have zY:((i:Int)).toNat=i:=rfl;have z:(0:Int).toNat=0:=rfl;have CN:=aj i G;have ql:=hV i G;rw[aB i G]at ql;have JE:=CN.2.2;rw[ql.1]at JE;have Pc:=CN.2.1;have aE4:=bA (n:=W - 1);have aE5:((W:Int) - 1).toNat=W - 1:=by omega
  obtain⟨t1,bX⟩:=ajJ CN (k:=W - 1) (by omega);refine⟨?_,λgg hX=>?_⟩
  ·simp only[Prod.h8,cD,zY,z,Pc,JE,aE4,aE5,kv,aRt,Nat.sub_zero,bX];rw[bd ⟨by omega,by omega⟩,bd ⟨by omega,by omega⟩,bd (by omega),bd ⟨aQB _,by omega,by omega⟩,bd ⟨t1,⟨by grind,ajG ql.2 _⟩⟩];have c7:decide ((cS m (b.getD i (0,0,0)).1).getD (W - 1) 0≠p3.g ((cS m (b.getD i (0,0,0)).1).take (W - 1)))=j4 ((dD m b).getD i []):=by
    grind [j4]
   rw[c7,WW (by omega),zY];cases j4 ((dD m b).getD i []) with
   | true=>
    rw[if_pos rfl,bd (by grind [b2]),aP];simp_all
   | false=>
    simp_all
  grind
 simp_all[CK]
def oK:List UInt8->Option (List UInt8×List UInt8)
 | []=>none
 | b::l=>if b=10/\l.head?=some 10 then some ([],l.drop 1) else match oK l with
  | none=>none
  | some p=>some (b::p.1,p.2)
def jB:List UInt8->z2'
 | []=>[[]]
 | b::l=>if b=10 then []::jB l else match jB l with
  | []=>[[b]]
  | x::xs=>(b::x)::xs
theorem Pe:∀ (t:List UInt8),jB t≠[]
 | []=>by simp[jB]
 | b::l=>by
  grind [jB]
theorem W_(l:List UInt8):jB (10::l)=[]::jB l:=by
 rfl
theorem JG{b:UInt8}(U:b≠10)(l:List UInt8):∃ x xs,jB l=x::xs/\jB (b::l)=(b::x)::xs:=by
 grind [jB,Pe]
theorem ajU:∀ (t:List UInt8),(jB t).length<=t.length+1/\∀ x∈jB t,x.length<=t.length
 | []=>by simp[jB]
 | b::l=>by
  obtain⟨E,M⟩:=ajU l;grind [jB]
theorem W':∀ (f t r:List UInt8),oK f=some (t,r)->f=t++10::10::r/\∀ x∈(jB t).tail,x≠[]
 | [],t,r,h=>by simp[oK]at h
 | b::l,t,r,h=>by
  unfold oK at h;by_cases hc:b=10/\l.head?=some 10
  ·cases l with
   | nil=>grind
   | cons c l=>
    grind [jB]
  ·rw[if_neg hc]at h;cases bC:oK l with
   | none=>grind
   | some p=>
    obtain⟨dO,jS⟩:=p;rw[bC]at h;obtain⟨rfl,rfl⟩:=h;obtain⟨e,aH⟩:=W' l dO jS bC;by_cases U:b=10
    ·subst U;rw[W_];have ai:=λk=>hc ⟨rfl,k⟩;cases dO with
     | nil=>grind
     | cons c aE6=>
      have aE7:c≠10:=λk=>ai (by grind);obtain⟨x,xs,aF,bB⟩:=JG aE7 aE6;grind
    ·obtain⟨x,xs,aF,bB⟩:=JG U dO;grind
theorem ajV:∀ (f:List UInt8),oK f=none->(∀ l,f=10::l->l.head?≠some 10)/\∀ b l,f=b::l->oK l=none
 | [],_=>⟨λl h=>(by grind),λb l h=>(by grind)⟩
 | b::l,h=>by
  grind [oK]
theorem yj(b:UInt8)(f:List UInt8)(s:zS):l5 (b::f) s=match CJ b s with | .az s'=>l5 f s' | .aX r=>r:=by grind [l5,fa]
theorem Pf{b:UInt8}(h:b≠10)(s:zS):CJ b s=.az (s.1++[b],s.2.1,s.2.2):=if_pos h
theorem Pg{s:zS}(h:s.1≠[]):CJ 10 s=.az ([],s.2.1,s.2.2++[s.1]):=by
 grind [CJ]
theorem ajW(O ad:List _):CJ 10 (([],O,ad):zS)=if pf ad=true then .az ([],O++[ad],[]) else .aX (.aX (false,[],())):=by
 rfl
theorem Xa(O:List (z2')):∀ (f cur:List UInt8) (ad:z2'),oK f=none->(cur=[]->ad≠[]/\f.head?≠some 10)->(wN (l5 f (cur,O,ad))).1=false
 | [],cur,ad,_,hc=>by
  show (decide (cur=[])&&decide (ad.length=0))=false;grind
 | b::f,cur,ad,aA,hc=>by
  obtain⟨E,Fw⟩:=ajV _ aA;have M:=Fw b f rfl;rw[yj];by_cases U:b=10
  ·subst U;have aE8:=λk=>(hc k).2 rfl;rw[Pg aE8];exact Xa O f [] (ad++[cur]) M λ_=>⟨by simp,E f rfl⟩
  ·rw[Pf U];exact Xa O f (cur++[b]) ad M λk=>by simp at k
variable {O:List (z2')}
theorem aE9{f:List UInt8}(aV:f≠[])(h:oK f=none):(wN (l5 f ([],O,[]))).1=false:=by
 cases f with
 | nil=>grind
 | cons b f=>
  rw[yj];by_cases U:b=10
  ·subst U;rfl
  grind [Pf,Xa,ajV]
def wR(cur t:List UInt8):z2':=match jB t with
 | []=>[cur]
 | x::xs=>(cur++x)::xs
theorem Ph(t:List UInt8):wR [] t=jB t:=by
 grind [wR,Pe]
theorem Xb(O:List (z2'))(b9:List UInt8):∀ (t cur:List UInt8) (ad:z2'),(∀ x∈wR cur t,x≠[])->l5 (t++10::b9) (cur,O,ad)=l5 b9 ([],O,ad++wR cur t)
 | [],cur,ad,h=>by
  grind [wR,jB,yj,Pg]
 | b::t,cur,ad,h=>by
  show l5 (b::(t++10::b9)) (cur,O,ad)=_;rw[yj];by_cases U:b=10
  ·subst U;have e:wR cur (10::t)=cur::jB t:=by grind [wR,W_]
   rw[e]at h ⊢;rw[Pg (h cur (by simp))];have aR:=Xb O b9 t [] (ad++[cur]) (by grind [Ph]);grind [Ph]
  ·obtain⟨x,xs,aF,bB⟩:=JG U t;have e:wR cur (b::t)=wR (cur++[b]) t:=by grind [wR]
   rw[e]at h ⊢;rw[Pf U];exact Xb O b9 t (cur++[b]) ad h
variable {r:List UInt8}{t:List UInt8}
theorem aE_{f:List UInt8}(h:oK f=some (t,r)):wN (l5 f ([],O,[]))=if pf (jB t)=true then wN (l5 r ([],O++[jB t],[])) else (false,[]):=by
 obtain⟨e,aH⟩:=W' f t r h;cases ai:jB t with
 | nil=>grind [Pe]
 | cons x xs=>
  by_cases an:x=[]
  ·subst an;have U:pf ([]::xs)=false:=by
    grind [pf,JA]
   rw[U,e];have FW:∃ g,t++10::10::r=10::g:=by
    cases t with
    | nil=>simp
    | cons b t=>
     by_cases U:b=10
     ·grind
     ·obtain⟨y,br,aF,bB⟩:=JG U t;grind
   obtain⟨g,aB⟩:=FW;rw[aB,yj];rfl
  ·rw[e,Xb O (10::r) t [] [] (by
    grind [Ph]),Ph,ai,yj,aRa,ajW]
   by_cases U:pf (x::xs)=true
   ·grind
   ·rw[if_neg U,if_neg U];rfl
theorem ajX{n:Nat}:JA n r=true<->r.length≠n\/r.length<2\/r.length > 62\/r.all f'=false:=by
 grind [JA]
theorem aE'{ad:z2'}(h:ad≠[]):(decide (ad.length<2)||decide (ad.length > 9)||decide ((ad.getD 0 []).length<2)||decide ((ad.getD 0 []).length > 62)||ad.any λr=>decide (r.length≠(ad.getD 0 []).length)||!r.all f')=!pf ad:=by
 have hm:ad.getD 0 []∈ad:=by grind
 grind [pf,ajX]
structure kT(m:ia)(a8:List (List mx))(O:List (z2')):Prop where
 kt:(m.map (·.1)).Nodup
 ok:∀ b∈a8,∀ h∈b,qV m h
 ids:(a8.flatten.map (·.1)).Nodup
 zZ:a8.map (dD m)=O.map (List.map df)
structure sH(m0 m:ia)(a8:List (List mx)):Prop where
 rb:∀ id∈m0.map (·.1),cS m id=cS m0 id/\id∈m.map (·.1)
 fo:∀ id∈a8.flatten.map (·.1),id ∉ m0.map (·.1)
theorem Pj:m.any (λp=>p.1 == id)=true<->id∈m.map (·.1):=by
 simp
variable {r:z1'}
theorem Xc{j:Nat}(h:j≠id):cS ((id,r)::m) j=cS m j:=by
 grind [cS]
theorem ajY:cS ((id,r)::m) id=r:=by
 unfold cS;simp
theorem qV.key(k:qV m h):h.1∈m.map (·.1):=Pj.1 k.1
theorem kT.start{a8 O}(h:kT m a8 O):kT m (a8++[[]]) (O++[[]]) where
 kt:=h.kt
 ok:=λb U k aj=>by
  rcases List.mem_append.1 U with U | U
  ·exact h.ok b U k aj
  grind
 ids:=by simpa using h.ids
 zZ:=by rw[aQT,aQT,h.zZ];rfl
theorem ajZ(h:∀ k∈b,qV m k)(aA:id ∉ m.map (·.1)):dD ((id,r)::m) b=dD m b:=by
 refine aQz λk aj=>Xc λe=>aA ?_;rw[<-e];exact (h k aj).key
theorem aj0{k:mx}(h:qV m k)(aA:id ∉ m.map (·.1)):qV ((id,r)::m) k:=by
 obtain⟨E,M,al⟩:=h;refine⟨Pj.2 (am2 _ (Pj.1 E)),M,?_⟩;grind [Xc]
variable {af:Type}
theorem aj1(a8:List (List af))(b:List af)(x:af):(a8++[b++[x]]).flatten=(a8++[b]).flatten++[x]:=by simp
theorem kT.push{a8 b O ad}(h:kT m (a8++[b]) (O++[ad]))(aA:id ∉ m.map (·.1))(t:List UInt8) :
  kT ((id,df t)::m) (a8++[b++[(id,0,t.length)]]) (O++[ad++[t]]) where
 kt:=by
  rw[aQ0,List.nodup_cons];exact⟨aA,h.kt⟩
 ok:=λc hc k aj=>by
  rcases List.mem_append.1 hc with hc | hc
  ·exact aj0 (h.ok c (aRC _ hc) k aj) aA
  ·rw[aRA]at hc;subst hc;rcases List.mem_append.1 aj with aj | aj
   ·exact aj0 (h.ok b (by simp) k aj) aA
   ·rw[aRA]at aj;subst aj;exact⟨Pj.2 (by simp),rfl,by rw[ajY,pe]⟩
 ids:=by
  rw[aj1,aQT,List.nodup_append];refine⟨h.ids,by simp,λa aZ c hc=>?_⟩;rw[aQ0,List.map_nil,aRA]at hc;subst hc;intro e;subst e;obtain⟨k,aj,e⟩:=List.mem_map.1 aZ;obtain⟨c,hc,Xd⟩:=List.mem_flatten.1 aj;exact aA (by rw[<-e];exact (h.ok c hc k Xd).key)
 zZ:=by
  have ay:=h.zZ;rw[aQT,aQT]at ay;have ai:(a8.map (dD m)).length=(O.map (List.map df)).length:=by
   have:=congrArg List.length ay;simpa using this
  obtain⟨d1,d2⟩:=List.append_inj ay ai;rw[aQT,aQT,<-d1];congr 1
  ·exact aQz λc hc=>ajZ (λk aj=>h.ok c (aRC _ hc) k aj) aA
  ·simp only[aQ0,List.map_nil,List.cons.injEq,aR1]at d2 ⊢;rw[aQT,<-d2];have e:dD ((id,df t)::m) (b++[(id,0,t.length)])=dD ((id,df t)::m) b++[cS ((id,df t)::m) id]:=by unfold dD;rw[aQT];rfl
   rw[e,ajY,ajZ (λk aj=>h.ok b (by simp) k aj) aA];rfl
variable {m0:ia}
theorem sH.start{a8}(h:sH m0 m a8):sH m0 m (a8++[[]]):=⟨h.rb,by simpa using h.fo⟩
theorem sH.push{a8 b}(h:sH m0 m (a8++[b]))(aA:id ∉ m.map (·.1))(r:z1')(n:Nat):sH m0 ((id,r)::m) (a8++[b++[(id,0,n)]]) where
 rb:=λj aM=>by
  obtain⟨E,M⟩:=h.rb j aM;grind [Xc]
 fo:=λj aM=>by
  rw[aj1,aQT]at aM;rcases List.mem_append.1 aM with aM | aM
  ·exact h.fo j aM
  ·rw[aQ0,List.map_nil,aRA]at aM;subst aM;exact λk=>aA (h.rb _ k).2
theorem sH.drop{a8}(h:sH m0 m a8):sH m0 m []:=⟨h.rb,by simp⟩
theorem kT.drop{a8 O}(h:kT m a8 O):kT m [] []:=⟨h.kt,by simp,by simp,rfl⟩
theorem aFa(l:List Nat):∃ id,¬List.Mem id l:=by
 refine⟨l.foldl (λa b=>max a b) 0+1,λh=>?_⟩;have key:∀ (l:List Nat) (n:Nat),n<=l.foldl (λa b=>max a b) n/\∀ x∈l,x<=l.foldl (λa b=>max a b) n:=by
  intro l;induction l<;>grind
 have:=(key l 0).2 _ h;omega
theorem aFb{q p:af->Prop}:c8 (mS q) p<->(∃ x,q x)/\∀ x,q x->p x:=Iff.rfl
abbrev Pk:aQ:=⟨.aw .str .str,.aw .str (.aw .str .bool),λx=>x.2=[10,10]/\List.length x.1<4294967281,λx=>match oK x.1 with | some p=>(p.1,p.2,true) | none=>(x.1,[],false)⟩
abbrev Pl:aQ:=⟨.aw .str .str,.slice .str,λx=>x.2=[10]/\List.length x.1<4294967281,λx=>jB x.1⟩
def Pm(r:z1')(w:Option Int):Bool:=decide ((r.length:Int)≠w.getD 0)||!(ff r).all f'
abbrev wS:aQ:=⟨.aw (.slice (.int .u8)) (.bP (.int .i64)),.bool,λx=>∃ w,x.2=some w,λx=>Pm x.1 x.2⟩
theorem aFc(x):a_ (ai2 OW.sh x) (wS.sh x):=bu λ_=>by
 grind [ai2,Pm,aQ.sh,sM,ov,aP]
abbrev aj2:Type:=List UInt8×ia×Unit
abbrev aj3:Type:=Bool×List (List mx)×ia×Unit
def aj4(x:aj2)(y:aj3):Prop:=y.1=(k8 x.1).1/\kT y.2.2.1 y.2.1 (if (k8 x.1).1=true then (k8 x.1).2 else [])/\sH x.2.1 y.2.2.1 y.2.1
def Xe(x:aj2):L aj3:=⟨x.1.length<65536/\(x.2.1.map (·.1)).Nodup,aj4 x⟩
theorem aFd(x):a_ (ajb Pk.sh Pl.sh (h_ (.slice (.int .u8))).pre (h_ (.slice (.int .u8))).g wS.sh x) (Xe x):=λh=>by
 obtain⟨f,m0,u⟩:=x;obtain⟨E,M⟩:=h;change f.length<65536 at E;change (m0.map (·.1)).Nodup at M;show c8 _ (aj4 (f,m0,u));unfold ajb;dsimp only;rw[fS];refine Ah (λs=>∃ O,kT s.2.2.1 s.2.1 O/\sH m0 s.2.2.1 s.2.1/\wN (l5 s.1 ([],O,[]))=k8 f/\s.2.1.length+s.1.length<=f.length) (λs=>s.1.length) ?_ _ ?_
 ·rintro⟨file,a8,m,u⟩ ⟨O,dT,eo,ko,g4⟩;change kT m a8 O at dT;change sH m0 m a8 at eo;change wN (l5 file ([],O,[]))=k8 f at ko;change a8.length+file.length<=f.length at g4;dsimp only;by_cases aC:file=[]
  ·subst aC;rw[if_neg (by simp),aP];refine dR.2 ?_;show c8 (mpure (true,a8,m,())) _;refine dR.2 ?_;have e:k8 f=(true,O):=ko.symm;refine⟨by rw[e],?_,eo⟩;show kT m a8 (if (k8 f).1=true then (k8 f).2 else []);rw[e];exact dT
  ·rw[if_pos (aQN aC),show Pk.sh (file,[10,10])=mpure (match oK file with | some p=>(p.1,p.2,true) | none=>(file,[],false)) from bO (show ([10,10]:List UInt8)=[10,10]/\file.length<4294967281 from⟨rfl,by omega⟩) _,aP];cases hc:oK file with
   | none=>
    have U:(k8 f).1=false:=by grind [aE9]
    rw[aP,aP];refine dR.2 ?_;refine dR.2 ⟨U.symm,?_,eo.drop⟩;rw[U];exact dT.drop
   | some p=>
    obtain⟨t,r⟩:=p;have Fx:=aE_ (O:=O) hc;rw[ko]at Fx;obtain⟨aP6,_⟩:=W' _ _ _ hc;have g_:file.length=t.length+2+r.length:=by grind
    obtain⟨fC,fR⟩:=ajU t;have eM:=Pe t;dsimp only;rw[if_neg (by decide),show Pl.sh (t,[10])=mpure (jB t) from bO (show ([10]:List UInt8)=[10]/\t.length<4294967281 from⟨rfl,by omega⟩) _,aP];generalize iJ:jB t=ad at Fx fC fR eM;rw[fS];refine ajE ad.length (λi s=>s.1=r/\s.2.1=ad/\s.2.2.1=ad.length/\s.2.2.2.1=i/\s.2.2.2.2.1=a8/\s.2.2.2.2.2.1.length=i/\kT s.2.2.2.2.2.2.1 (a8++[s.2.2.2.2.2.1]) (O++[ad.take i])/\sH m0 s.2.2.2.2.2.2.1 (a8++[s.2.2.2.2.2.1])) ⟨rfl,rfl,rfl,rfl,rfl,rfl,dT.start,eo.start⟩ ?_ ?_
    ·rintro i G ⟨s1,s2,fh,nd,mQ,b,dz,oh⟩ ⟨aF,bB,c7,bW,gS,kU,aO,aT⟩;change s2=ad at bB;subst aF bB c7 bW gS;have hw:=bA (n:=i+1);simp only[cD,dQ G,if_true,dH G,ck,dn,hw];rw[fS,ib];refine⟨by grind [b2],aFb.2 ⟨aFa _,λid hid=>?_⟩⟩;rw[ib];refine⟨by grind [b2],dR.2 ?_⟩;refine⟨rfl,rfl,rfl,?_,rfl,by grind,?_,aT.push hid _ _⟩
     ·rfl
     ·have:=aO.push hid s2[i];simp_all
    ·rintro⟨s1,s2,fh,nd,mQ,b,dz,oh⟩ ⟨aF,bB,c7,bW,gS,kU,aO,aT⟩;change s2=ad at bB;change b.length=ad.length at kU;subst aF bB c7 bW gS;rw[if_neg (by simp),aP];refine dR.2 ?_;show c8 (ah _ _) _;simp only[Prod.cv,cD];have aP7:=List.length_pos_iff.2 eM;have vI:0<b.length:=by omega
     have aFe:dD dz b=s2.map df:=by
      have ay:=aO.zZ;simp_all
     have b8:=λk aj=>aO.ok b (by simp) k aj;obtain⟨d1,d2⟩:=Fu b8;have xE:((b.getD 0 (0,0,0)).2.2)=(s2.getD 0 []).length:=by
      rw[(b8 _ (W5 vI)).2.2,<-Pa vI];grind [pe]
     have z:(0:Int).toNat=0:=rfl;have Fy:=aE' eM;generalize hw:(s2.getD 0 []).length=w at xE Fy;have bI:decide ((b.length:Int)<2)=decide (s2.length<2):=decide_eq_decide.2 (by omega);have c2:decide ((b.length:Int) > 9)=decide (s2.length > 9):=decide_eq_decide.2 (by omega);have c3:decide ((w:Int)<2)=decide (w<2):=decide_eq_decide.2 (by omega);have c4:decide ((w:Int) > 62)=decide (w > 62):=decide_eq_decide.2 (by omega);have aFf:∀ y,wS.sh (y,some (w))=mpure (Pm y (some (w))):=λy=>bO ⟨_,rfl⟩ _;have JF:gD (.int .u8) dz (.aw (.slice (.cP (.int .u8))) (.fn (.slice (.int .u8)) .bool)) (b,λx=>wS.sh (x,some (w)))=((s2.map df,λx=>wS.sh (x,some (w)))):=by
      rw[<-aFe];exact congrArg (λz=>((z,λx=>wS.sh (x,some (w))))) d2
     have uL:((s2.map df).any λy=>(wS.sh (y,some (w))).val false)=s2.any λr=>decide (r.length≠w)||!r.all f':=by
      grind [List.any_map,kN,Pm,CG,pe]
     simp only[z,xE,bI,c2,c3,c4];erw [JF];erw [uL];rw[ib];refine⟨⟨aQB _,by omega⟩,?_⟩;rw[ib];refine⟨λe=>⟨⟨e,e,trivial⟩,⟨⟨d1,trivial⟩,⟨by grind,λy _=>⟨_,aFf y⟩⟩⟩,trivial⟩,?_⟩;rw[Fy];cases a6:pf s2 with
     | false=>
      rw[a6]at Fx;rw[aP,aP];refine dR.2 ?_;refine dR.2 ⟨?_,?_,aT.drop⟩
      ·grind
      ·rw[Fx];exact aO.drop
     | true=>
      grind [ib,b2,dR]
 ·exact⟨[],⟨M,by simp,by simp,rfl⟩,⟨λid hid=>⟨rfl,hid⟩,by simp⟩,rfl,by simp⟩
abbrev gL(l:z2'):List (z1'):=l.map df
theorem aFg(r:List UInt8)(k:Nat):df (r.take k)=(df r).take k:=by simp_all[df]
variable {l:z2'}
theorem gz.n0{W:Nat}(h:gz W l):p6 W (gL l):=by
 obtain⟨E,M,al,a7,bR⟩:=h;refine⟨by grind,by grind,al,a7,λr D=>?_⟩;grind [pe,zR]
theorem Xf:(gL l).getD k []=df (l.getD k []):=by
 rw[am1,am1,aRI];cases l[k]?<;>rfl
def kd(l:z2'):z15':=la (ga l) (gL l)
def vi(R:List (z1')):List (z1'):=if (la (wP R) R).1=1 then n2 R (la (wP R) R).2.1 (la (wP R) R).2.2 else R
def jh(l:z2'):z2':=(vi (gL l)).map ff
theorem Pn(W:Nat)(R:List (z1')) :
  (la W R=(0,0,0)/\(kc R).length+(k_ W R).length=0)\/
  (la W R=(2,0,0)/\(kc R).length+(k_ W R).length≠0)\/
  (∃ i j:Nat,la W R=(1,(i:Int),(j:Int))/\i<R.length/\j<W/\kc R=[(i:Int)]/\k_ W R=[(j:Int)]/\k9 (n2 R (i:Int) (j:Int)) j=false):=by
 unfold la;by_cases bI:(kc R).length+(k_ W R).length=0
 ·grind
 ·by_cases c2:(kc R).length≠1\/(k_ W R).length≠1
  ·grind
  ·obtain⟨v1,aF⟩:=List.length_eq_one_iff.1 (show (kc R).length=1 by omega);obtain⟨ao,bB⟩:=List.length_eq_one_iff.1 (show (k_ W R).length=1 by omega);obtain⟨i,G,rfl,bJ⟩:=Fs.1 (show v1∈kc R by grind);obtain⟨j,aM,rfl,pn⟩:=Ft.1 (show ao∈k_ W R by grind);grind
theorem z1(h:k<R.length):R.getD k []∈R:=by
 grind
theorem aFh{W:Nat}(h:p6 W R){j:Nat}(G:i<R.length)(aM:j<W):p6 W (n2 R (i:Int) (j:Int)):=by
 obtain⟨E,M,al,a7,bR⟩:=h;have D:=bR _ (z1 G);have vh:lG (R.getD i []):=⟨by omega,by omega,D.2⟩
 have j9:=JC vh (a:=j) (by omega) (by omega);unfold n2;refine⟨by grind,by grind,al,a7,λr bm=>?_⟩;rcases List.mem_or_eq_of_mem_set bm with h | h
 ·grind
 ·rw[h,O8];exact⟨D.1,(zV vh j9.1).2.2⟩
theorem aj5{W:Nat}(h:p6 W R):p6 W (vi R):=by
 have hw:=h.wide;grind [vi,Pn,aFh]
theorem aj6{W:Nat}(h:p6 W R):gL (R.map ff)=R:=by
 have:R.map (df ∘ ff)=R.map id:=aQz λr D=>WM λv ag=>by
  have:=oH.1 (List.all_eq_true.1 (h.2.2.2.2 r D).2 v ag);omega
 simp_all
theorem aj7{W:Nat}(h:p6 W (gL l)):gz W l:=by
 obtain⟨E,M,al,a7,bR⟩:=h;rw[aQJ]at E M;refine⟨E,M,al,a7,λr D=>?_⟩;grind [List.mem_map_of_mem,pe,zR]
theorem gz.wide{W:Nat}(h:gz W l):ga l=W:=by
 have aV:0<l.length:=by have:=h.1;omega
 unfold ga;rw[am1,am3 aV];exact (h.2.2.2.2 _ (amV aV)).1
theorem Xg{W:Nat}(h:gz W l):gL (jh l)=vi (gL l):=aj6 (aj5 h.n0)
theorem aj8{W:Nat}(h:gz W l):gz W (jh l):=aj7 (by rw[Xg h];exact aj5 h.n0)
theorem Xh(l:z2'):(gL l).map ff=l:=by
 have:l.map (ff ∘ df)=l.map id:=aQz λr _=>CG r;simp_all
theorem aFi(h:(la (wP (gL l)) (gL l)).1≠1):jh l=l:=by
 grind [jh,vi,Xh]
theorem Xi{a8:List (List mx)}(h:i<a8.length):a8.getD i []∈a8:=by
 grind
theorem kT.fG{m a8 O}(h:kT m a8 O)(G:i<a8.length):dD m (a8.getD i [])=gL (O.getD i []):=by
 have ay:=congrArg (λl=>l.getD i []) h.zZ;grind
theorem kT.len{m a8 O}(h:kT m a8 O):a8.length=O.length:=by have:=congrArg List.length h.zZ;grind
theorem aFj{a8:List (List mx)}:∀ (_:(a8.flatten.map (·.1)).Nodup),(∀ b∈a8,(b.map (·.1)).Nodup)/\∀ i j,i<a8.length->j<a8.length->i≠j->∀ id∈(a8.getD i []).map (·.1),id ∉ (a8.getD j []).map (·.1):=by
 induction a8 with
 | nil=>simp
 | cons b a8 aR=>
  intro h;rw[aR6,aQT,List.nodup_append]at h;obtain⟨E,M,al⟩:=h;obtain⟨aO,aT⟩:=aR M;refine⟨λc hc=>?_,λi j G aM AX id hid=>?_⟩
  ·grind
  ·cases i with
   | zero=>
    grind
   | succ i=>
    cases j with
    | zero=>grind
    | succ j=>exact aT i j (by grind) (by grind) (by omega) id hid
theorem kT.fw{m a8 O}(h:kT m a8 O){W:Nat}(G:i<a8.length)(ax:gz W (O.getD i [])) :
  W7 (a8.getD i [],m,())/\wQ (a8.getD i [],m,())=kd (O.getD i [])/\kT (zX (a8.getD i [],m,())) a8 (O.set i (jh (O.getD i [])))/\∀ id,id ∉ (a8.getD i []).map (·.1)->cS (zX (a8.getD i [],m,())) id=cS m id:=by
 have hV:=h.fG G;have aFk:=ax.n0;have aFl:=aFk.wide;have aP8:=ax.wide;obtain⟨f1,f2⟩:=aFj h.ids;have U:=Xi G;have yD:=h.len;have Fv:wQ (a8.getD i [],m,())=kd (O.getD i []):=by
  show la (wP (dD m (a8.getD i []))) (dD m (a8.getD i []))=la (ga (O.getD i [])) (gL (O.getD i []));grind
 have hW:W7 (a8.getD i [],m,()):=⟨h.kt,h.ok _ U,f1 _ U,W,by grind⟩
 have j9:vi (gL (O.getD i []))=if (kd (O.getD i [])).1=1 then n2 (gL (O.getD i [])) (kd (O.getD i [])).2.1 (kd (O.getD i [])).2.2 else gL (O.getD i []):=by
  grind [vi,kd]
 have key:∀ dz,(dz.map (·.1)).Nodup->(∀ b∈a8,∀ k∈b,qV dz k)->dD dz (a8.getD i [])=vi (gL (O.getD i []))->(∀ j,j<a8.length->j≠i->dD dz (a8.getD j [])=dD m (a8.getD j []))->kT dz a8 (O.set i (jh (O.getD i []))):=λdz eH ej jJ n4=>by
  refine⟨eH,ej,h.ids,?_⟩;refine aRV (by grind) λj E M=>?_;have aM:j<a8.length:=by grind
  have AU:a8[j]=a8.getD j []:=by grind
  have aFm:O[j]=O.getD j []:=by grind
  rw[aRf,aRf,List.getElem_set,AU];by_cases e:i=j
  ·grind [Xg]
  ·rw[if_neg e,aFm,n4 j aM λk=>e k.symm,h.fG aM]
 refine⟨hW,Fv,?_⟩;unfold zX;rw[Fv];unfold kd at j9 ⊢;rcases Pn (ga (O.getD i [])) (gL (O.getD i [])) with⟨e,_⟩ | ⟨e,_⟩ | ⟨r,a,e,D,aZ,_,_,_⟩
 ·rw[e]at j9 ⊢;exact⟨key m h.kt h.ok (by grind) λj _ _=>rfl,λ_ _=>rfl⟩
 ·rw[e]at j9 ⊢;exact⟨key m h.kt h.ok (by grind) λj _ _=>rfl,λ_ _=>rfl⟩
 ·rw[e]at j9 ⊢;rw[if_pos rfl]at j9 ⊢;have ed:r<(a8.getD i []).length:=by grind [W4]
  refine⟨key _ (by rw[ajC];exact h.kt) (λb U k aj=>ajK (h.ok b U k aj) _ _ _) ?_ ?_,?_⟩
  ·grind [W6,n2,jA]
  ·grind [ajL]
  grind [JB]
theorem aj9(O:List (z2'))(b9:List UInt8):∀ (r cur:List UInt8) (ad:z2'),r.all f'=true->cur++r≠[]->l5 (r++10::b9) (cur,O,ad)=l5 b9 ([],O,ad++[cur++r])
 | [],cur,ad,_,h=>by
  grind [yj,Pg]
 | b::r,cur,ad,aZ,h=>by
  simp only[aRd,amX]at aZ;have U:b≠10:=λe=>by rw[e]at aZ;exact absurd aZ.1 (by decide)
  rw[List.cons_append,yj,Pf U];have:=aj9 O b9 r (cur++[b]) ad aZ.2 (by simp);grind
theorem aj_(O:List (z2'))(b9:List UInt8):∀ (l ad:z2'),(∀ r∈l,r≠[]/\r.all f'=true)->l5 (kz l++b9) ([],O,ad)=l5 b9 ([],O,ad++l)
 | [],ad,_=>by simp[kz]
 | r::l,ad,h=>by
  obtain⟨E,M⟩:=h r (by simp);have aR:=aj_ O b9 l (ad++[r]) λr D=>h r (am2 _ D);grind [kz,aj9]
theorem aFn{W:Nat}(h:gz W l):pf l=true:=by
 obtain⟨E,M,al,a7,bR⟩:=h;grind [pf,ajX]
theorem aFo{W:Nat}(h:gz W l)(O:List (z2'))(b9:List UInt8):l5 (eI l++b9) ([],O,[])=l5 b9 ([],O++[l],[]):=by
 have e:eI l++b9=kz l++10::b9:=by unfold eI;simp
 rw[e,aj_ O (10::b9) l [] λr D=>⟨λk=>by have:=(h.2.2.2.2 r D).1;have:=h.2.2.1;grind,(h.2.2.2.2 r D).2⟩,aRa,yj,ajW,if_pos (aFn h)]
theorem aj':∀ (B O:List (z2')),(∀ l∈B,gz (ga l) l)->wN (l5 (B.flatMap eI) ([],O,[]))=(true,O++B)
 | [],O,_=>by
  rw[aQD];rfl
 | l::B,O,h=>by
  rw[aQV,aFo (h l (by simp)),aj' B (O++[l]) λev ai=>h ev (am2 _ ai)];simp
theorem Xj{B:List (z2')}(h:∀ l∈B,gz (ga l) l):k8 (B.flatMap eI)=(true,B):=by
 have:=aj' B [] h;exact this
theorem aka{w:Nat}(h:t.length<=w)(aP9:w<=60):sG (sF w t)=some t:=by
 have ai:(sF w t).length=w+2:=by grind [sF,CH]
 have aV:(sF w t).getD 0 0=Jo t.length:=by rfl
 have aA:=WQ (n:=t.length) (by omega) (by omega);unfold sG;rw[aV,if_neg (by omega)];have e:(1+((t.length:Int)+32 - 32)).toNat=1+t.length:=by omega
 grind [sF,CH]
variable {x:z2'}
theorem akb(h:∀ t∈x,gP t)(E:1<=x.length)(ld:x.length<=8):gz (fB x+2) (hZ x):=by
 have hw:=Jv h;have ai:=aEG x;exact⟨by omega,by omega,by omega,by omega,λr D=>aEF h r D⟩
theorem akc(x:z2'):(hZ x).take ((hZ x).length - 1)=x.map (sF (fB x)):=by
 grind [hZ,List.take_left]
theorem JH(l:z2'):k7 l=((gK l).map hZ).flatMap eI:=by
 grind [k7,List.flatMap_map]
theorem JI(h:∀ t∈l,gP t):∀ b∈(gK l).map hZ,gz (ga b) b:=λb U=>by
 obtain⟨c,hc,rfl⟩:=List.mem_map.1 U;obtain⟨bI,c2,c3⟩:=Jz h c hc;have:=akb c3 c2 bI;rw[this.wide];omega
theorem aFp(h:∀ t∈l,gP t):k8 (k7 l)=(true,(gK l).map hZ):=by
 grind [JH,Xj,JI]
theorem akd{af:Type}:∀ (f:Nat) (l:List af),l.length<=f->(vf f l).flatten=l
 | 0,l,h=>by
  have:l=[]:=aQS (by omega);subst this;rfl
 | f+1,[],_=>rfl
 | f+1,t::l,h=>by
  unfold vf;rw[aR6,akd f _ (by grind),aRP]
theorem aFq(l:List af):(gK l).flatten=l:=akd _ _ (amY _)
theorem Xk(h:∀ t∈x,gP t):∀ t∈x,t.length<=fB x:=(Fl x 0 (λt aH=>(h t aH).1) (by omega)).2.2
theorem ake:∀ (l:z2') (ts o:z2'),l.map sG=ts.map some->tQ l o=some (o++ts)
 | [],ts,o,h=>by
  simp_all[tQ]
 | r::l,[],o,h=>by grind
 | r::l,t::ts,o,h=>by
  simp  at h;unfold tQ;rw[h.1];dsimp only;rw[ake l ts (o++[t]) h.2];simp
theorem aFr(h:∀ t∈x,gP t)(o:z2'):tQ ((hZ x).take ((hZ x).length - 1)) o=some (o++x):=by
 grind [akc,ake,List.map_congr_left,aka,Xk,Jv]
theorem akf:∀ (c:List (z2')) (s:List UInt8×z2'),(∀ x∈c,∀ t∈x,gP t)->wO (c.map hZ) s=some (s.1++(c.map hZ).flatMap eI,s.2++c.flatten)
 | [],s,_=>by simp[wO]
 | x::c,s,h=>by
  simp  [wO];rw[aFr (h x (by simp))];dsimp only;rw[akf c _ λx an=>h x (am2 _ an)];simp
theorem akg(h:∀ t∈l,gP t)(qU:l.length<=40):tP l=(k7 l,0):=by
 grind [tP,OX]
theorem aFs(h:(tP l).2=0):(∀ t∈l,gP t)/\l.length<=40/\tP l=(k7 l,0):=by
 grind [tP,OX]
theorem aFt(h:∀ t∈l,gP t)(qU:l.length<=40):vg ((gK l).map hZ)=(l,true):=by
 unfold vg;rw[akf _ _ λx an=>(Jz h x an).2.2];grind [aFq,akg,JH]
def Po(r:List UInt8):List UInt8:=zQ (df r)
def p7(l:z2'):z2':=(l.take (l.length - 1)).map Po
def wT(O:List (z2')):z2'×Bool:=(O.flatMap p7,decide ((tP (O.flatMap p7)).2=0)&&decide ((tP (O.flatMap p7)).1=O.flatMap eI))
theorem aFu{r:List UInt8}(h:sG r=some t):Po r=t:=by
 unfold sG at h;have bQ:=WO r 0;by_cases hc:((r.getD 0 0).toNat) - 32 > (r.length:Int) - 2
 ·grind
 ·rw[if_neg hc]at h;cases h;unfold Po zQ zP;rw[bQ,pe,<-aFg];have e:min (((r.getD 0 0).toNat:Int) - 32) (r.length - 2)=((r.getD 0 0).toNat) - 32:=by omega
  rw[e];have bB:∀ s,(df s).drop 1=df (s.drop 1):=λs=>by simp_all[df]
  rw[bB,CG]
theorem akh:∀ (l o:z2'),(∀ r∈l,sG r≠none)->tQ l o=some (o++l.map Po)
 | [],o,_=>by simp[tQ]
 | r::l,o,h=>by
  unfold tQ;cases bC:sG r with
  | none=>grind
  | some t=>
   dsimp only;rw[akh l _ λr D=>h r (am2 _ D),aQ0,aFu bC];simp
theorem aki:∀ (l o:z2'),(∃ r∈l,sG r=none)->tQ l o=none
 | [],o,h=>by grind
 | r::l,o,h=>by
  unfold tQ;cases bC:sG r with
  | none=>rfl
  | some t=>
   obtain⟨jS,bm,e3⟩:=h;rcases List.mem_cons.1 bm with rfl | bm
   ·grind
   ·exact aki l _ ⟨jS,bm,e3⟩
theorem akj:∀ (O:List (z2')) (s:List UInt8×z2'),(∀ l∈O,∀ r∈l.take (l.length - 1),sG r≠none)->wO O s=some (s.1++O.flatMap eI,s.2++O.flatMap p7)
 | [],s,_=>by simp[wO]
 | l::O,s,h=>by
  unfold wO;rw[akh _ _ (h l (by simp))];dsimp only;rw[akj O _ λl ai=>h l (am2 _ ai)];simp[p7]
theorem akk:∀ (O:List (z2')) (s:List UInt8×z2'),(∃ l∈O,∃ r∈l.take (l.length - 1),sG r=none)->wO O s=none
 | [],s,h=>by grind
 | l::O,s,h=>by
  unfold wO;cases bC:tQ (l.take (l.length - 1)) s.2 with
  | none=>rfl
  | some o=>
   obtain⟨ev,r_,e3⟩:=h;rcases List.mem_cons.1 r_ with rfl | r_
   ·grind [aki]
   ·exact akk O _ ⟨ev,r_,e3⟩
theorem aFv(h:∀ l∈O,gz (ga l) l):(wT O).2=(vg O).2/\((vg O).2=true->(wT O).1=(vg O).1):=by
 by_cases U:∃ l∈O,∃ r∈l.take (l.length - 1),sG r=none
 ·have e:vg O=([],false):=by grind [vg,akk]
  rw[e];refine⟨?_,λk=>by grind⟩;cases hu:(wT O).2 with
  | false=>rfl
  | true=>
   unfold wT at hu;simp  at hu;obtain⟨b8,qU,hw⟩:=aFs hu.1;rw[hw]at hu;have M:k7 (O.flatMap p7)=O.flatMap eI:=hu.2;have dv:=aFp b8;rw[M,Xj h]at dv;have y2:=(Prod.mk.inj dv).2;obtain⟨l,ai,r,D,aA⟩:=U;rw[y2]at ai;obtain⟨c,hc,rfl⟩:=List.mem_map.1 ai;have aP_:=(Jz b8 c hc).2.2;grind [akc,aka,Xk,Jv]
 grind [vg,wT,akj]
abbrev yk:aQ:=⟨.slice (.slice (.slice (.int .u8))),.aw (.slice .str) .bool,λx=>List.length x<65536/\∀ l∈(x:List (List (z1'))),p6 (wP l) l,λx=>wT (List.map (List.map ff) (x:List (List (z1'))))⟩
theorem akl(l:z2'):(p7 l).length=l.length - 1:=by unfold p7;simp
theorem aFw(x):a_ (aiY Fm.sh oJ.sh CF zO OK.sh x) (yk.sh x):=bu λh=>by
 obtain⟨E,M⟩:=h;obtain⟨O,y2⟩:∃ O:List (z2'),O=x.map (List.map ff):=⟨_,rfl⟩
 have an:x=O.map gL:=by
  have:x.map (gL ∘ List.map ff)=x.map id:=aQz λl ai=>aj6 (M l ai);simp_all
 have j6:∀ l∈O,gz (ga l) l:=λl ai=>by
  have:=M (gL l) (by grind);have:=aj7 this;rw[this.wide];omega
 have aB:yk.g x=wT O:=by grind
 rw[aB];subst an;rw[aQJ]at E;clear y2 aB M;unfold aiY cu fZ cy bJ bh bS;rw[aP,db];rw[eW O (λi s=>(O.map gL,(O.length:Int),(i:Int),s.1,s.2,())) (λl s=>.az (s.1++p7 l,s.2++df (eI l))) (λs=>.az (s.1,s.2,())) (λi s=>s.1.length<=8*i/\s.2.length<=600*i) ([],[]) ?_ ?_ ?_ ?_]
 ·rw[ew,aP,db];have e:∀ (l:List (z2')) (s:z2'×z1'),l.foldl (λs l=>(s.1++p7 l,s.2++df (eI l))) s=(s.1++l.flatMap p7,s.2++df (l.flatMap eI)):=by
   intro l;induction l with
   | nil=>grind [df]
   | cons b l aR=>grind [df]
  rw[e];rw[aRa];have u3:∀ l:List (z2'),(∀ b∈l,gz (ga b) b)->(l.flatMap p7).length<=8*l.length:=by
   intro l;induction l with
   | nil=>simp
   | cons b l aR=>
    intro U;have hv:=(U b (by simp)).2.1;grind [akl]
  have u3:=u3 O j6;rw[show Fm.sh (O.flatMap p7)=mpure (tP (O.flatMap p7)) from (bO (by omega) _).trans (by rw[<-ajw])];unfold wT;grind [zO,CG,aP,bd]
 ·simp
 ·simp
 ·intro i G s ax;obtain⟨ts,own⟩:=s;have hw:=bA (n:=i+1);have ai:=j6 _ (amV G);have akm:=ai.n0;have IY:=O1 ai;have Ch:(O.map gL).getD i []=gL O[i]:=by grind
  have zY:((i:Int)).toNat=i:=rfl;have hlen:=ai.2.1;have aP':=ai.1;have aH:OK.sh (gL O[i])=mpure (p7 O[i]):=(bO (⟨⟨by grind,by grind⟩,λr D=>akm.fG D⟩) _).trans (by
   show mpure (((gL O[i]).take ((gL O[i]).length - 1)).map zQ)=_;rw[aQJ,<-List.map_take,aRZ];rfl)
  have an:oJ.sh (gL O[i])=mpure (eI O[i]):=(bO (⟨by grind,λr D=>(akm.fG D).2.1⟩) _).trans (by
   grind [O0,CG])
  refine⟨?_,λs' vy=>?_⟩
  ·simp only[dQ G,zY,cD,aQJ,dH G,ck,dn,kv,hw,Ch,aH,an,aP];have u3:=akl O[i];rw[bd (by grind [b2]),show CF (eI O[i],own,())=mpure (((eI O[i]).length:Int),own++df (eI O[i]),()) from bO (by grind [b2]) _,aP];rfl
  grind [p7,pe]
 simp
section
variable {af:Type}
def vj(f:af->af)(B:List af)(i:Nat):List af:=(B.take i).map f++B.drop i
theorem aFx{f:af->af}{B:List af}{d:af}(h:i<B.length):(vj f B i).getD i d=B[i]:=by
 unfold vj;grind
theorem akn{f:af->af}{B:List af}(h:i<B.length):(vj f B i).set i (f B[i])=vj f B (i+1):=by
 unfold vj;grind [List.drop_eq_getElem_cons,List.take_add_one]
theorem aFy{f:af->af}{B:List af}:vj f B B.length=B.map f:=by unfold vj;simp
end
theorem aFz{a8 O}(h:kT m a8 O):og (.int .u8) m (.slice (.slice (.cP (.int .u8)))) a8/\gD (.int .u8) m (.slice (.slice (.cP (.int .u8)))) a8=O.map gL:=by
 refine⟨λb U=>(Fu (h.ok b U)).1,?_⟩;rw[<-h.zZ];exact aQz λb U=>(Fu (h.ok b U)).2
theorem ako{af:Type}{f:af->Nat}{c:Nat}:∀ (l:List af),(∀ x∈l,f x<=c)->(l.map f).sum<=c*l.length
 | [],_=>aQF _
 | x::l,h=>by
  have:=ako l λy bf=>h y (am2 _ bf);grind [Nat.mul_add]
theorem Xl:∀ {W:Nat} (l:z2'),(∀ r∈l,r.length=W)->(kz l).length=l.length*(W+1)
 | W,[],_=>by simp[kz]
 | W,r::l,h=>by
  have aR:=Xl l λr D=>h r (am2 _ D);grind [kz]
theorem Xm{W:Nat}(h:gz W l):(eI l).length=l.length*(W+1)+1:=by
 unfold eI;rw[aQW,Xl l λr D=>(h.2.2.2.2 r D).1];rfl
theorem aFA{W:Nat}(h:gz W l):(jh l).length=l.length:=by
 have E:(gL (jh l)).length=(vi (gL l)).length:=by rw[Xg h]
 grind [vi,n2]
def vk(l:z2'):Bool:=decide ((kd l).1=2)
def Fz(n:Nat)(l:z2'):Int:=if (kd l).1=1 then (n:Int)+(kd l).2.1*((ga l:Int)+1)+(kd l).2.2 else -1
def n3(B:List (z2'))(i:Nat):Nat:=((B.take i).map λl=>(eI l).length).sum
def Xn(B:List (z2')):z1':=(List.range B.length).map λk=>Fz (n3 B k) (B.getD k [])
def jd(f:List UInt8):z2'×z19':=
 if (k8 f).1=false then ([],[],140)
 else if (k8 f).2.any vk=true then ([],[],141)
 else if (vg ((k8 f).2.map jh)).2=false then ([],[],142)
 else ((vg ((k8 f).2.map jh)).1,Xn (k8 f).2,0)
theorem aFB{B:List (z2')}(h:∀ l∈B,gz (ga l) l)(i:Nat):n3 B i<=600*i:=by
 unfold n3;have:=ako     (B.take i) λl ai=>O1 (h l (aQM ai));grind
theorem Xo{B:List (z2')}(h:i<B.length):n3 B (i+1)=n3 B i+(eI B[i]).length:=by
 unfold n3;rw[aRu];grind
theorem aFC(f:List UInt8):∀ l∈(k8 f).2,gz (ga l) l:=λl ai=>aEI ((WX f).1 l ai)
abbrev qP:aQ:=⟨.str,.aw (.slice .str) (.aw (.slice (.int .i64)) (.int .i64)),λx=>List.length x<65536,λx=>jd x⟩
theorem UC(x):a_ (aiU Xe JD oJ.pre oJ.g yk.pre yk.g x) (qP.sh x):=tm λh=>by
 change List UInt8 at x;generalize x=f at h ⊢;change f.length<65536 at h;unfold aiU e1 cu fZ cy bJ bh bS;show c8 _ λy=>y=jd f;unfold jd;rw[fS];refine⟨⟨h,by simp⟩,?_⟩;rintro⟨aFD,a8,m,u⟩ ⟨fU,fW,_⟩;change aFD=(k8 f).1 at fU;change kT m a8 (if (k8 f).1=true then (k8 f).2 else []) at fW;subst fU;have hv:=(WX f).2;have j6:=aFC f;dsimp only;cases a6:(k8 f).1 with
 | false=>grind [dR]
 | true=>
  rw[a6,if_pos rfl]at fW;generalize (k8 f).2=B at fW hv j6;have yD:=fW.len;rw[if_neg (by decide),if_neg (by decide),fS];refine ajE B.length (λi s=>s.1=(n3 B i:Int)/\s.2.1=(B.length:Int)/\s.2.2.1=(i:Int)/\s.2.2.2.1=(List.range i).map (λk=>Fz (n3 B k) (B.getD k []))/\s.2.2.2.2.1=a8/\kT s.2.2.2.2.2.1 a8 (vj jh B i)/\∀ k,k<i->vk (B.getD k [])=false) ⟨rfl,by rw[cD,yD],rfl,rfl,rfl,fW,λk aj=>absurd aj (Nat.not_lt_zero k)⟩ ?_ ?_
  ·rintro i G ⟨s1,s2,fh,nd,mQ,dz,oh⟩ ⟨aF,bB,c7,bW,gS,aO,aT⟩;change s1=_ at aF;change s2=_ at bB;change fh=_ at c7;change nd=_ at bW;change mQ=a8 at gS;change kT dz a8 _ at aO;change ∀ k,k<i->_ at aT;subst aF bB c7 gS;have dM:i<mQ.length:=by omega
   have hw:=bA (n:=(i:Int)+1);have zY:((i:Int)).toNat=i:=rfl;have ai:=j6 _ (amV G);have Xp:(vj jh B i).getD i []=B[i]:=aFx G;obtain⟨c6,cM,hU,_⟩:=aO.fw dM (W:=ga B[i]) (by rw[Xp];exact ai);rw[Xp]at cM hU;rw[akn G]at hU;have aFE:B.getD i []=B[i]:=by rw[am1,am3 G];rfl
   have vT:JD (mQ.getD i [],dz,())=mpure ((kd B[i]).1,(kd B[i]).2,zX (mQ.getD i [],dz,()),()):=by
    unfold JD;rw[cM];exact bO c6 _
   have AY:=aFB j6 i;have IY:=O1 ai;generalize qw:zX (mQ.getD i [],dz,())=Q at hU vT;have Xq:=hU.fG dM;have aFF:=hU.ok _ (Xi dM);obtain⟨d1,d2⟩:=Fu aFF;have aFG:(vj jh B (i+1)).getD i []=jh B[i]:=by
    rw[<-akn G,am1,List.getElem?_set_self (by unfold vj;simp;omega)];rfl
   rw[aFG]at Xq;rw[Xq]at d2;have mC:=aj8 ai;have g_:=aFA ai;have ku:oJ.pre (gL (jh B[i])):=⟨by rw[aQJ];have:=ai.2.1;omega,λr D=>(mC.n0.fG D).2.1⟩
   have Hs:ff (oI (gL (jh B[i])))=eI (jh B[i]):=by
    grind [O0,CG]
   have aQa:(eI (jh B[i])).length=(eI B[i]).length:=by grind [Xm]
   have aQb:=bA (n:=(n3 B i)+((eI B[i]).length));simp only[cD,dQ G,if_true,zY];rw[ib];refine⟨⟨by omega,by omega⟩,?_⟩;erw [vT];rw[aP];by_cases c2:(kd B[i]).1=2
   ·rw[if_pos (aQN c2),aP,aP,aP,aP];refine dR.2 ?_;refine dR.2 ?_;rw[if_pos];exact List.any_eq_true.2 ⟨_,amV G,aQN c2⟩
   ·rw[if_neg (by grind)];have aQc:∀ k,k<i+1->vk (B.getD k [])=false:=λk aj=>by
     by_cases e:k=i
     ·subst e;rw[aFE];exact aQ2 c2
     grind
    have aQd:∀ p,p=Fz (n3 B i) B[i]->nd++[p]=(List.range (i+1)).map λk=>Fz (n3 B k) (B.getD k []):=λp ak=>by
     grind [List.range_succ]
    have aQe:=Xo G;by_cases bI:(kd B[i]).1=1
    ·rw[if_pos (aQN bI)];have Mr:∃ r a:Nat,kd B[i]=(1,(r:Int),(a:Int))/\r<9/\a<62:=by
      rcases Pn (ga B[i]) (gL B[i]) with⟨e,_⟩ | ⟨e,_⟩ | ⟨r,a,e,D,aZ,_,_,_⟩
      ·grind [kd]
      ·grind [kd]
      ·rw[aQJ]at D;have dT:=ai.2.1;have eo:=ai.2.2.2.1;refine⟨r,a,e,?_,by omega⟩;omega
     obtain⟨r,a,aQf,aQg,aQh⟩:=Mr;have vI:0<(mQ.getD i []).length:=by
      have:=congrArg List.length Xq;rw[W4,aQJ]at this;have:=ai.1;omega
     have wZ:((mQ.getD i []).getD 0 (0,0,0)).2.2=ga B[i]:=by
      have aj:=aO.ok _ (Xi dM) _ (W5 vI);rw[aj.2.2,<-Pa vI,aO.fG dM,Xp,Xf,pe]
     have aQi:=ai.2.2.2.1;rw[bd ⟨aQB _,by omega⟩,aP,db];rw[ib];refine⟨by grind [b2],?_⟩;rw[ib];refine⟨⟨d1,by grind⟩,dR.2 ?_⟩;have ch:=bA (n:=(ga B[i])+1);have aQj:r*((ga B[i]:Int)+1)<=9*63:=Int.mul_le_mul (by omega) (by omega) (by omega) (by omega);grind [bA,Fz]
    ·rw[if_neg (by grind),aP,db];rw[ib];refine⟨by grind [b2],?_⟩;simp_all[dR,Fz]
  ·rintro⟨s1,s2,fh,nd,mQ,dz,oh⟩ ⟨aF,bB,c7,bW,gS,aO,aT⟩;change nd=_ at bW;subst aF bB c7 gS;rw[aFy]at aO;have ij:¬B.any vk=true:=λk=>by
    grind [List.mem_iff_getElem]
   obtain⟨d1,d2⟩:=aFz aO;have akp:∀ l∈B.map jh,gz (ga l) l:=λl ai=>by
    obtain⟨b,U,rfl⟩:=List.mem_map.1 ai;have:=aj8 (j6 b U);rw[this.wide];omega
   have aQk:yk.pre ((B.map jh).map gL):=⟨by grind,λl ai=>by
    obtain⟨b,U,rfl⟩:=List.mem_map.1 ai;have:=(akp b U).n0;rw[this.wide];omega⟩
   have aFH:wT (((B.map jh).map gL).map (List.map ff))=wT (B.map jh):=by
    grind [List.map_congr_left,Xh]
   obtain⟨jK,lQ⟩:=aFv akp;rw[if_neg (by simp),aP];refine dR.2 ?_;show c8 (ah _ _) _;simp only[Prod.cv];rw[ib];refine⟨⟨d1,by grind⟩,?_⟩;rw[d2,aFH,jK,if_neg ij];cases aH:(vg (B.map jh)).2 with
   | false=>grind [dR]
   | true=>
    rw[lQ aH];exact dR.2 (by rw[bW];rfl)
end Go.Fer
namespace Go.Fer
def aFI(p:z1'):z1':=(nw p.length).filter λv=>decide (p.getD v.toNat 0≠-1)
def Pp(f:List UInt8):z2'×z19':=((jd f).1,aFI (jd f).2.1,(jd f).2.2)
abbrev Pq:aQ:=⟨.str,.aw (.slice .str) (.aw (.slice (.int .i64)) (.int .i64)),λx=>List.length x<65536,λx=>Pp x⟩
theorem aFJ(f:List UInt8):(jd f).2.1.length<=f.length:=by
 grind [WX,jd,Xn]
theorem aFK(x):a_ (aiR qP.sh x) (Pq.sh x):=bu λh=>by
 generalize x=f at h ⊢;unfold aiR fZ cy bJ bh bS;show _=mpure (Pp f);have ak:=aFJ f;rw[show qP.sh f=mpure (jd f) from bO (h) _,aP];unfold Pp;generalize jd f=r at ak;obtain⟨ts,p,e⟩:=r;change p.length<=f.length at ak;rw[eW (nw p.length) (λi o=>(ts,e,p,(p.length:Int),(i:Int),o,())) (λv o=>.az (if decide (p.getD v.toNat 0≠-1)=true then o++[v] else o)) (λo=>.az (ts,e,o,())) (λi o=>o.length<=i) [] ?_ ?_ ?_ ?_]
 ·rw[ew,H6,aP];rfl
 ·rfl
 ·simp
 ·intro i G o au;rw[CK]at G;have hw:=bA (n:=i+1);have zY:((i:Int)).toNat=i:=rfl;refine⟨?_,λgg hX=>?_⟩
  ·simp only[cD,kv];rw[bd ⟨by omega,by omega⟩,WW (by omega),zY];cases decide (p.getD i 0≠-1) with
   | true=>
    rw[if_pos rfl,bd (by grind [b2]),aP];simp_all
   | false=>
    simp_all
  grind
 simp_all[CK]
theorem aFL{af bet fs:Type}(f:af->fs)(g:bet->fs)(F:List af)(o:List bet)(aFM:af)(aFN:bet)(ai:F.length=o.length)(h:∀ k,k<F.length->f (F.getD k aFM)=g (o.getD k aFN)):F.map f=o.map g:=by
 refine aRV (by grind) λk E M=>?_;grind
theorem aFO{r:List UInt8}{j:Nat}(h:j<r.length)(b:UInt8):List.take j r++[b]++List.drop (j+1) r=r.set j b:=by
 rw[List.set_eq_take_append_cons_drop,if_pos h];simp
theorem aFP(r:List UInt8)(j:Nat)(b:UInt8):df (r.set j b)=(df r).set j (b.toNat:Int):=by
 unfold df;rw[List.map_set]
theorem akq{R uI:List (z1')}{c:Nat}(ai:uI.length=R.length)(h:∀ k,k<R.length->(uI.getD k []).getD c 0=(R.getD k []).getD c 0)(aV:0<R.length):k9 uI c=k9 R c:=by
 unfold k9;rw[ai,h (R.length - 1) (by omega)];have e:gn (uI.take (R.length - 1)) (c:Int)=gn (R.take (R.length - 1)) (c:Int):=by
  unfold gn;refine aRV (by simp[ai]) λk E M=>?_;have aj:k<R.length:=by simp at M;omega
  have O4:k<uI.length:=by omega
  have dj:=h k aj;have aFQ:uI.getD k []=uI[k]:=by rw[am1,am3 O4];rfl
  have aFR:R.getD k []=R[k]:=by rw[am1,am3 aj];rfl
  rw[aFQ,aFR]at dj;rw[aRf,aRf,List.getElem_take,List.getElem_take];exact dj
 rw[e]
theorem aFS{l:z2'}(h:gz (ga l) l)(aA:(kd l).1≠1):jh l=l:=aFi (by
 have:wP (gL l)=ga l:=h.n0.wide;rw[this];exact aA)
theorem akr{B:List (z2')}{i:Nat}(h:i<B.length):B.getD i []=B[i]:=by rw[am1,am3 h];rfl
theorem aFT(fO:Nat)(s:z2')(ax:s.length<65536):c8 (OD (fO,s,8,(fO,yh (some s,some 8),[],false),())) λy=>y.1.2.2.2=false->yh (some s,some 8) y.1.2.2.1:=by
 have uO:∀ ad,yh (some s,some 8) ad<->ad=gK s:=λad=>⟨λ⟨l,e,_,h⟩=>by cases e;exact h,λe=>⟨s,rfl,ax,e⟩⟩
 generalize yh (some s,some 8)=S at *
 unfold OD e1 fZ bJ;dsimp only;refine Ah (λA=>∃ k:Nat,k<=(gK s).length/\A=(fO,s,8,((8*k:Nat):Int),(fO,S,(gK s).take k,false),())) (λA=>(s.length+8 - A.2.2.2.1.toNat)) ?_ _ ⟨0,aQF _,rfl⟩;rintro A ⟨k,aj,rfl⟩;dsimp only;by_cases aFU:8*k<s.length
 ·have Xd:=WV.2 aFU;have ay:decide (((8*k:Nat):Int)<(s.length:Int))=true:=aQN (by omega);have bz:∀ n:Nat,((n:Int)).toNat=n:=λ_=>rfl;have hy:(List.drop (8*k) s).length=s.length - 8*k:=List.length_drop ..;have hm:(if (((List.drop (8*k) s).length:Nat):Int)<8 then (((List.drop (8*k) s).length:Nat):Int) else 8)=((min 8 (s.length - 8*k):Nat):Int):=by rw[hy];split<;>omega
  have hw:=bA (n:=((8*k:Nat))+((min 8 (s.length - 8*k):Nat):Int));have gJ:=bA (n:=((8*k))+8);have W9:(((8*k:Nat))+((min 8 (s.length - 8*k):Nat):Int)).toNat=8*k+min 8 (s.length - 8*k):=by omega
  have hc:List.drop (8*k) (List.take (8*k+min 8 (s.length - 8*k)) s)=(gK s)[k]:=by
   grind [aEE]
  simp only[cD,ay,if_true,bz,aQ4,hm,dn,hw,W9,hc];rw[ib];refine⟨⟨by omega,by omega,aQB _⟩,?_⟩;rw[ib];refine⟨⟨by omega,by omega,trivial,by omega⟩,?_⟩;rw[fS,ib];refine⟨⟨trivial,trivial,(gK s).drop (k+1),(uO _).2 ?_⟩,⟨true,trivial⟩,λy _=>?_⟩
  ·simp
  ·cases y with
   | false=>
    grind [aP,dR]
   | true=>
    refine dR.2 ⟨⟨k+1,Xd,?_⟩,?_⟩
    ·grind [List.take_add_one]
    grind
 ·have ay:decide (((8*k:Nat))<(s.length:Int))=false:=aQ2 (by omega);simp only[cD,ay,aP];refine dR.2 λ_=>(uO _).2 ?_;refine aRv ?_;grind [WV]
def aks(x:List (z1')×Int×z25'):L (z14'):=
 letI d:=Int.ofNat (List.length x.1);letI a:=cF d x.2.2.1;letI e:=List.take (Int.toNat a) x.1;cy (ah ((0:Int)<=0/\0<=a/\a<=d) (dI (λ(A:Int×List (z1')×z33')=>letI b:=A.2.2.2;letI c:=List.getD A.2.1 (Int.toNat b.1) [];bJ (fZ b.1 A.2.2.1) (ah (0<=b.1/\b.1<Int.ofNat (List.length A.2.1)) (ah (0<=A.1/\A.1<Int.ofNat (List.length c)) (ah (b2 (Add.add (List.length b.2.1) (Add.add 0 1))) (mpure (aL.az (A.1,A.2.1,A.2.2.1,bh b.1,b.2.1++[List.getD c (Int.toNat A.1) 0],())))))) (ar (mpure (aL.az (b.2.1,()))) (λr=>mpure (aL.aX r)))) (x.2.1,e,Int.ofNat (List.length e),0,[],()))) λ(A:z14')=>mpure (A.1,())
def akt(x:List (z1')×Int×z25'):L (z14'):=eF (zN x.1 x.2.1 x.2.2.1) (gn (x.1.take (x.1.length - x.2.2.1.toNat)) x.2.1,())
theorem aFV(x):a_ (aks x) (akt x):=bu λh=>by
 obtain⟨l,c,w,u⟩:=x;obtain⟨E,⟨M,al⟩,a7,bR⟩:zN l c w:=h;unfold aks fZ cy bJ bh cF;dsimp only;have hw:=bA (n:=(l.length:Int) - w);simp only[cD,hw];have e:((l.length:Int) - w).toNat=l.length - w.toNat:=by omega
 rw[bd ⟨aQB _,by omega,by omega⟩,e];generalize aj:l.take (l.length - w.toNat)=k;have Ny:k.length<65536:=by rw[<-aj];simp;omega
 have Jp:∀ r∈k,c<(r.length:Int):=λr D=>bR r (by rw[<-aj]at D;exact aQM D);rw[eW k (λi (o:z1')=>(c,k,(k.length:Int),(i:Int),o,())) (λr o=>.az (o++[r.getD c.toNat 0])) (λo=>.az (o,())) (λi o=>o.length=i) [] ?_ ?_ ?_ ?_]
 ·rw[ew,aP,db];dsimp only;rw[show k.foldl (λo r=>o++[r.getD c.toNat 0]) []=gn k c from by rw[pN];rfl]
 ·rfl
 ·rfl
 ·intro i G o au;have gJ:=bA (n:=(i:Int)+1);have D:=Jp _ (amV G);refine⟨?_,λgg hX=>?_⟩
  ·simp only[cD,dQ G,if_true,d' G,dH G,ck,dn,kv,gJ];rw[bd ⟨a7,D⟩,bd (by unfold b2;omega)];rfl
  ·simp only[aL.az.injEq]at hX;subst hX;simp[au]
 ·intro o au;simp
end Go.Fer
namespace Go.Fer.Sk
open Go Go.Proofs Go.RowKit
def aFW:Code:=Tryz.f39.body.getD .skip
theorem aFX:Tryz.f39.body=some aFW:=by rfl
abbrev aFY:aQ:=⟨.str,.bool,λ_=>True,λs=>s.all Tryz.CC⟩
open Classical in
theorem aFZ(x:List UInt8):decide (Tryz.vd ⟨x.toArray⟩ 0)=x.all Tryz.CC:=by
 rw[Bool.eq_iff_iff,aQ6,aQL];unfold Tryz.vd;constructor
 ·intro h b U;obtain⟨i,G,rfl⟩:=List.mem_iff_getElem.1 U;have:=h i (by rw[tO];exact G) (aQF _);exact this
 ·intro h i G _;have ea:i<x.length:=by rw[tO]at G;exact G
  exact h _ (amV ea)
theorem aF0:hI Tryz.prog 39 .str .bool aFY.sh where
 enter:=rv Tryz.func39 aFX (by rfl)
 iv:=λF w args x bq fm aZ ax=>by
  obtain⟨rfl,ai⟩:=OA aZ;refine (Tryz.aDC ⟨x.toArray⟩ w).mono ?_;rintro e w' ⟨rfl,U⟩;refine⟨_,x.all Tryz.CC,rfl,rfl,⟨[_],rfl,(pk rfl).2 ⟨_,rfl,?_⟩⟩,U⟩;simp_all[aFZ]
def aF1:Code:=Tryz.f146.body.getD .skip
theorem aF2:Tryz.f146.body=some aF1:=by rfl
abbrev aF3:aQ:=⟨.aw .str .str,.aw .str (.aw .str .bool),λx=>x.1.length<4294967281,λx=>Lib.cut x.1 x.2⟩
theorem aF4(s sep:List UInt8):(Lib.cut s sep).1.length<=s.length/\(Lib.cut s sep).2.1.length<=s.length:=by
 grind [Lib.cut]
theorem aF5:hI Tryz.prog 146 (.aw .str .str) (.aw .str (.aw .str .bool)) aF3.sh where
 enter:=rv Tryz.func146 aF2 (by rfl)
 iv:=λF w args x bq fm aZ ax=>by
  obtain⟨s,sep⟩:=x;have ax:s.length<4294967281:=ax;obtain⟨rfl,ai,hx⟩:=Wv aZ;obtain⟨_,m,hm⟩:=Fi fm (b:=0) (by decide);refine (Tryz.strings_Cut ⟨s.toArray⟩ ⟨sep.toArray⟩ m w (by grind [tO]) hm).mono ?_;rintro e w' ⟨rfl,n,rfl⟩;obtain⟨bI,c2⟩:=aF4 s sep;refine⟨_,Lib.cut s sep,rfl,rfl,⟨[.string ⟨(Lib.cut s sep).1.toArray⟩,.string ⟨(Lib.cut s sep).2.1.toArray⟩,.bool (Lib.cut s sep).2.2],?_,?_⟩,⟨rfl,rfl,rfl,amY _,λ_ _=>rfl⟩⟩
  ·rfl
  ·refine Al.2 ⟨lf.2 ⟨rfl,Nat.lt_of_le_of_lt bI ai⟩,Al.2 ⟨lf.2 ⟨rfl,Nat.lt_of_le_of_lt c2 ai⟩,(pk rfl).2 ⟨_,rfl,h2.2 rfl⟩⟩⟩
def aF6:Code:=Tryz.f157.body.getD .skip
theorem aF7:Tryz.f157.body=some aF6:=by rfl
abbrev aF8:aQ:=⟨.aw .str (.int .i64),.str,λx=>0<=x.2/\x.1.length*x.2.toNat<65536,λx=>Lib.repeatL x.1 x.2.toNat⟩
theorem aF9:hI Tryz.prog 157 (.aw .str (.int .i64)) .str aF8.sh where
 enter:=rv Tryz.func157 aF7 (by rfl)
 iv:=λF w args x bq fm aZ ax=>by
  obtain⟨s,n⟩:=x;change Int at n;obtain⟨aV,E⟩:0<=n/\s.length*n.toNat<65536:=ax;obtain⟨v,us,rfl,ag,hu⟩:=F3 aZ;obtain⟨rfl,ai⟩:=lf.1 ag;obtain⟨ao,rfl,jU⟩:=(pk rfl).1 hu;obtain⟨rfl,aA⟩:=hR.1 jU;have jo:n<=9223372036854775807:=aA.2;have HH:n=(n.toNat):=by omega
  have:=Tryz.strings_Repeat ⟨s.toArray⟩ n.toNat w (by omega) (by grind [tO]);rw[<-HH]at this;refine this.mono ?_;rintro e w' ⟨rfl,U⟩;refine⟨_,Lib.repeatL s n.toNat,rfl,rfl,⟨[_],rfl,(pk rfl).2 ⟨_,rfl,?_⟩⟩,U⟩;grind [lf,Lib.repeatL_length]
abbrev aF_:aQ:=⟨.aw .str .str,.slice .str,λx=>x.1.length<4294967281/\1<=x.2.length,λx=>nN x.1 x.2⟩
theorem aF':hI Tryz.prog 107 (.aw .str .str) (.slice .str) aF_.sh where
 enter:=rv Tryz.func107 (show Tryz.f107.body=some aiA by rfl) (by rfl)
 iv:=λF w args x bq fm aZ ax=>by
  obtain⟨s,sep⟩:=x;obtain⟨ax,E⟩:s.length<4294967281/\1<=sep.length:=ax;obtain⟨rfl,ai,hx⟩:=Wv aZ;obtain⟨_,m,hm⟩:=Fi fm (b:=0) (by decide);have cQ:1<=(ByteArray.mk sep.toArray).size:=by grind [tO]
  refine (Any.strings_Split Tryz.ait (by kernel_rfl) ⟨s.toArray⟩ ⟨sep.toArray⟩ m w (by grind [tO]) hm cQ).mono ?_;rintro e w' ⟨rfl,rfl⟩;have hlen:=Lib.splitB_all ⟨sep.toArray⟩ cQ 0 _ ⟨s.toArray⟩ rfl;have tf:=Lib.countB_le ⟨sep.toArray⟩ cQ _ ⟨s.toArray⟩ (amY _);rw[tO]at tf;have mG:=Ww ⟨sep.toArray⟩ (Lib.countB ⟨s.toArray⟩ ⟨sep.toArray⟩) ⟨s.toArray⟩;rw[tO]at mG;have AI:(nN s sep).length=Lib.countB ⟨s.toArray⟩ ⟨sep.toArray⟩+1:=by grind [nN]
  refine⟨_,nN s sep,rfl,rfl,⟨[_],rfl,(pk rfl).2 ⟨_,rfl,(eh rfl).2 ⟨rfl,some ⟨w.heap.size,0,none⟩,Lib.countB ⟨s.toArray⟩ ⟨sep.toArray⟩+1,by grind,by omega,by omega,nofun,λp ak hc=>?_⟩⟩⟩,?_⟩
  ·cases ak;refine⟨.inr ⟨amY _,by simp⟩,rfl,λi G=>?_⟩;have dM:i<(Lib.splitB ⟨sep.toArray⟩ 0 (Lib.countB ⟨s.toArray⟩ ⟨sep.toArray⟩) ⟨s.toArray⟩).length:=by omega
   generalize a6:Lib.splitB ⟨sep.toArray⟩ 0 (Lib.countB ⟨s.toArray⟩ ⟨sep.toArray⟩) ⟨s.toArray⟩=B at dM mG hlen;have ka:(nN s sep)[i]=B[i].data.toList:=by
    grind [nN]
   refine⟨[.string B[i]],⟨.inr ⟨amY _,by simp⟩,rfl,λj aM=>?_⟩,?_,?_⟩
   ·have aM:j=0:=by grind
    simp_all[aa.size]
   ·simp_all
   ·have e:(B[i]).data.toList.length=(B[i]).size:=aQK;grind
  ·exact (Below.refl _ _).alloc (amY _) _
end Go.Fer.Sk
namespace Go.Fer
open Go
theorem aku:∀ s:List UInt8,(oK s=none/\Lib.index s [10,10]=-1)\/∃ t r,oK s=some (t,r)/\Lib.index s [10,10]=(t.length:Int)/\s=t++10::10::r
 | []=>.inl ⟨rfl,rfl⟩
 | b::l=>by
  unfold oK Lib.index;by_cases hc:b=10/\l.head?=some 10
  ·cases l<;>grind
  ·have ak:List.isPrefixOf [10,10] (b::l)=false:=by
    cases bC:List.isPrefixOf [10,10] (b::l) with
    | false=>rfl
    | true=>
     cases l<;>grind
   rcases aku l with⟨E,M⟩ | ⟨t,r,E,M,al⟩<;>grind
theorem aGa(s:List UInt8):Lib.cut s [10,10]=match oK s with | some p=>(p.1,p.2,true) | none=>(s,[],false):=by
 unfold Lib.cut;rcases aku s with⟨E,M⟩ | ⟨t,r,E,M,al⟩<;>simp_all
theorem akv:∀ s:List UInt8,(Lib.index s [10]=-1/\jB s=[s])\/∃ t r,s=t++10::r/\Lib.index s [10]=(t.length:Int)/\jB s=t::jB r
 | []=>.inl ⟨rfl,rfl⟩
 | b::l=>by
  unfold Lib.index;by_cases U:b=10
  ·grind [W_]
  ·obtain⟨x,xs,aF,bB⟩:=JG U l;rcases akv l with⟨E,M⟩ | ⟨t,r,E,M,al⟩<;>grind
theorem aGb:∀ (n:Nat) (s:List UInt8),s.length<=n->Lib.splitK [10] 0 (Lib.count s [10]) s=jB s:=by
 intro n;induction n with
 | zero=>
  intro s h;have:s=[]:=aQS (by omega);subst this;rfl
 | succ n aR=>
  intro s h;rcases akv s with⟨E,M⟩ | ⟨t,r,E,M,al⟩
  ·rw[Lib.count_miss E,M];rfl
  ·rw[Lib.count_hit (by simp) M,Nat.add_comm,Lib.splitK];have e:((t.length:Int)).toNat=t.length:=rfl;have Oz:s.drop (t.length+1)=r:=by simp_all
   grind
theorem aGc(s:List UInt8):Sk.nN s [10]=jB s:=by
 unfold Sk.nN;rw[Lib.splitB_data];exact aGb s.length s (amY _)
theorem akw(s:List UInt8):∀ n,Lib.repeatL s n=Jt s n
 | 0=>rfl
 | n+1=>by
  have:=akw s n;unfold Jt at this ⊢;rw[List.replicate_succ,aR6,<-this];rfl
namespace Sk
open Go.Proofs
set_option maxRecDepth 100000
theorem aGd:hI Tryz.prog 39 kM hd OW.sh:=aF0
theorem aGe:hI Tryz.prog 146 (.aw kM kM) (.aw kM (.aw kM hd)) Pk.sh:=aF5.vs λx=>bu λh=>by
 obtain⟨s,sep⟩:=x;obtain⟨rfl,M⟩:=h;refine (bO (M) _).trans (congrArg mpure ?_);exact aGa s
theorem aGf:hI Tryz.prog 107 (.aw kM kM) nS Pl.sh:=aF'.vs λx=>bu λh=>by
 obtain⟨s,sep⟩:=x;obtain⟨rfl,M⟩:=h;refine (bO (show s.length<4294967281/\1<=([10]).length from⟨M,by decide⟩) _).trans (congrArg mpure ?_);exact aGc s
theorem aGg:hI Tryz.prog 157 (.aw kM cU) kM OQ.sh:=aF9.vs λx=>bu λh=>by
 refine (bO h _).trans (congrArg mpure ?_);exact akw _ _
abbrev my:aa:=.cP e5
abbrev FA:aa:=.slice my
abbrev aGh:aa:=.slice FA
def Xr:List (Nat×aa):=[(95,my),(146,FA),(142,aGh)]++xF
theorem akx:ei Tryz.prog (ry Xr):=ab8 (by kernel_rfl)
def aGi:Code:=Tryz.f155.body.getD .skip
theorem aGj:Tryz.f155.body=some aGi:=by rfl
def Pr:cO:=⟨⟨[(0,.eZ 100001 0)],[(100001,.cells qD [.hS 100001,.own 100002]),(100002,.bo e5)]⟩,⟨[],[(100001,.cells qD [.hS 100001,.own 100002]),(100002,.bo e5)]⟩,[],1,CE⟩
theorem Xs:cW Tryz.prog dV 155 Pr:=aDF (n:=153) (rho:=Tryz.Wu) { Tryz.aiu with } { Tryz.aiv with } (by rfl) (rv Tryz.func155 aGj (by rfl))
end Sk
end Go.Fer
namespace Go.Fer.Sk
open Go.Proofs
def rf:=aDA.cons (n:=39) (c:=OW.dL) ⟨aGd,λ_ _=>sc⟩
def xw:=rf.cons (n:=146) (c:=Pk.dL) ⟨aGe,λ_ _=>sc⟩
def aGk:=xw.cons (n:=157) (c:=OQ.dL) ⟨aGg,λ_ _=>sc⟩
theorem Xt{T:pP}(aU:lU T){aJ:dX}(sp:List (Nat×gw))(mj:BF aJ sp){n:Nat}{fn:Func}(aC:Tryz.prog.funcs[n]?=some fn){c:cO}(ann:cZ){S:c.cC.aq->L c.a8.aq}(ax:∀ x,a_ (S x) (c.sh x))(b8:(fn.body.isSome&&D2 fn (rF fn) c.k1 c.lu)=true:=by kernel_rfl)(ai:∀ x,Mp aJ (ry Xr) xG (tn T sp) fn (rF fn) ann c.cC c.a8 c.lu x=S x:=by intro x;kernel_rfl):cW Tryz.prog aJ n c:=
 have b8:=amX _ _ ▸ b8
 S7 D8 akx D9 (aU.D' mj) aC (Ec b8.1) b8.2 λx=>FZ (F0 (ai x)) (ax x)
def aGl{T:pP}(aU:lU T){aJ:dX}(iI:q2 Tryz.prog aJ)(sp:List (Nat×gw))(mj:BF aJ sp){n:Nat}{fn:Func}(aC:Tryz.prog.funcs[n]?=some fn)(c:aQ)(ann:cZ){S:c.ts.aq->L c.aS.aq}(ax:∀ x,a_ (S x) (c.sh x))(b8:Ed fn c.ts c.aS=true:=by kernel_rfl)(ai:∀ x,D0 aJ (ry Xr) xG (tn T sp) fn (rF fn) ann c.ts c.aS x=S x:=by intro x;kernel_rfl):lU ((n,c.dL)::T):=
 have b8:=amX _ _ ▸ b8
 aU.cons ⟨ab6 D8 akx iI D9 (aU.D' mj) aC (Ec b8.1) b8.2 λx=>FZ (F0 (ai x)) (ax x),λ_ _=>sc⟩
end Go.Fer.Sk
namespace Go.Fer
def Xu(af0:bD×List bc->L Bool)(U3:bD->L Int)(aGm:bD×bc->L (List bc×bD×Int))(af2:bD->L bD)(Xv:Unit->L Bool)(af5:H.bb->L (List bc))(aGn:List bc×z4'->L (bc×Bool))(af4:List bc×Int->L Bool)(BJ:H.bb->L Int)(af6:H.bb×H.bb×Int×Int×Int×Int->L Bool)(x:bD×z4'×Int×Int×Int×Int):L Bool:=
 ar (af0 (x.1,[])) λy=>ar (uC (!y) (U3 x.1) 0) λcp=>if (y||decide (cp≠0))=true then ar (Xv ()) λy=>mpure y else ar (af5 x.1.2) λy=>ar (aGn (y,x.2.1)) λef=>if (!ef.2)=true then ar (Xv ()) λy=>mpure y else ar (af2 x.1) λhg=>ar (aGm ((hg.1,hg.2.1,[],[],hg.2.2.2.2),ef.1)) λkO=>letI b:=decide (kO.2.2=0);ar (uC b (af4 (kO.1,Int.ofNat (List.length y))) false) λy=>ar (uC (b&&y) (BJ kO.2.1.2) 0) λuX=>letI a:=b&&y&&decide (uX=0);ar (uC a (af6 (kO.2.1.2,x.1.2,x.2.2)) false) λwa=>ar (uC (a&&wa) (Xv ()) false) λII=>mpure (a&&wa&&II)
def aky(aGo:bc->L (List bc×z1'×Int))(No:bN->L (z11'))(af9:Unit->L bD)(x:Unit):L Bool:=
 ar (aGo [34,97,120,70,10,33,99,32,100,10,35,69,98,43,10,10]) λy=>letI b:=Int.ofNat (List.length y.1);ar (af9 ()) λcp=>ar (No cp.1) λef=>letI a:=decide (y.2.2=0)&&decide (ef.2=0)&&decide (b=2);ah (a=true->(a=true/\True)/\((0:Int)<=0/\0<b)/\True) (mpure (a&&decide (List.getD y.1 (Int.toNat 0) []=[97,98])&&decide (Int.ofNat (List.length y.2.1)=1)&&decide (ef.1=1600)))
def akz(WG:List bc->L (bc×Int))(aGp:bc×z4'->L (bc×z1'×Bool))(x:List bc×z4'):L (bc×Bool):=
 ar (WG x.1) λy=>if (decide (y.2≠0)||decide (Int.ofNat (List.length x.2) > 10)||decide (Int.ofNat (List.length y.1) > 8000))=true then mpure ([],false) else ar (aGp (y.1,x.2)) λy=>ar (dI (λ(A:bc×z1'×Bool×Int×Unit)=>if decide (A.2.2.2.1<Int.ofNat (List.length A.2.1))=true then ar (dI (λ(A:bc×z1'×Bool×Int×Int×Unit)=>letI c:=Int.ofNat (List.length A.2.1);letI b:=A.2.2.2;letI a:=A.2.2.1=true;letI d:=a->a/\True/\True;if decide (b.2.1<b.1)=true then ah (a->(a/\a)/\(0<=b.1/\b.1<c)/\True) (ah d (ah (a->(a/\a)/\(0<=b.2.1/\b.2.1<c)/\True) (ah d (ah (a->(a/\a)/\True/\True) (ah (True/\(a->a)) (mpure (aL.az (A.1,A.2.1,A.2.2.1&&decide (List.getD A.2.1 (Int.toNat b.1) 0≠List.getD A.2.1 (Int.toNat b.2.1) 0),b.1,IntKind.wrap .i64 (Add.add b.2.1 1),())))))))) else ar (mpure (aL.az (A.1,A.2.1,A.2.2.1,b.1,()))) λr=>mpure (aL.aX r)) (A.1,A.2.1,A.2.2.1,A.2.2.2.1,0,())) (aL.fQ (λ(A:bc×z1'×Bool×Int×Unit)=>mpure (aL.az (A.1,A.2.1,A.2.2.1,IntKind.wrap .i64 (Add.add A.2.2.2.1 1),())))) else ar (mpure (aL.az (A.1,A.2.2.1,()))) λr=>mpure (aL.aX r)) (y.1,y.2.1,y.2.2,0,())) (aL.fQ (λ(A:bc×Bool×Unit)=>mpure (A.1,A.2.1)))
def akA(af3:bD×List bc->L (List bc×bD×Int))(WB:bc->L (List bc×z1'×Int))(x:bD×bc):L (List bc×bD×Int):=
 ar (WB x.2) λy=>if decide (y.2.2≠0)=true then mpure ([],((([],[],0,[]),[],[],[],[],0),[],[],[],[],0,0,0,0,0,0,0),y.2.2) else ar (af3 (x.1,y.1)) λy=>mpure y
end Go.Fer
