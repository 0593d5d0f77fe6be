/- Part 7 of the proof of FilesSeason: shallow programs of Go functions, and what they compute. No condition. -/
import Derived.Test.YtjjgkigajpocoaaGreatDoorFilesSeasonF
import Derived.Shelf.SlGeneric
import Derived.Shelf.Spec.SlicesGrow
import Derived.Shelf.Strings.OnBuilder
import Derived.Shelf.LaysM
import Derived.Shelf.Strconv.Itoa3
import Derived.Shelf.LaysC
import Derived.Shelf.Strconv.AtoiAll
import Derived.Shelf.Strings.Split
import Derived.Shelf.Strings.Cut
import Derived.Shelf.Strings.Repeat
import Derived.Shelf.Slices.In.SortNone
import Derived.Test.YtjjgkigajpocoaaGreatDoorProg
import Derived.WalkKit
import Derived.WalkSpells
import Derived.Handy
import Derived.Shelf.Sort.AssemblyIn
import Derived.Sort.EveryDepth
import Derived.Shelf.Strings.BuilderK
import Derived.Lib.OthersKept
import Derived.Laws.RangeAny
import Derived.Shelf.Strings.Builder1
noncomputable section
set_option linter.unusedVariables false
set_option linter.unusedSimpArgs false
namespace Go.Fer.W
open H (kL)
theorem ahx:∀ (s:bn) (n k:Nat),n<10 ^ k->k+s.length<=18->0<=ie s n->Go.Lib.parseUint10 n s=.ok (ie s n).toNat
 | [],n,k,_,_,_=>by rfl
 | c::s,n,k,E,L,ak=>by
  unfold ie at ak ⊢;split at ak
  ·omega
  ·rename_i hc;rw[if_neg hc];simp  at hc;have LO:48<=c.toNat/\c.toNat<=57:=by omega
   have an:(10) ^ (k+1)<=10 ^ 18:=aQT (by decide) (by grind);have e:10*n+(c.toNat - 48)=((n*10+(c.toNat - 48):Nat):Int):=by omega
   rw[e]at ak ⊢;unfold Go.Lib.parseUint10;rw[if_pos LO,if_neg (by omega),if_neg (by omega)];exact ahx s _ (k+1) (by omega) (by grind) ak
variable {s:bn}
theorem V3(h:0<=gG s):Go.Lib.atoiAll s=.ok (gG s):=by
 unfold gG at h ⊢;split at h
 ·omega
 ·rename_i U;simp  at U;cases s with
  | nil=>grind
  | cons c r=>
   have aj:=ahx (c::r) 0 0 (by decide) (by omega) h;have ah:=Vy (c::r) 0 0 (by decide) (by decide);have hp:(10) ^ (0+(c::r).length)<=10 ^ 6:=by
    have:=aQT (n:=10) (by decide) (show 0+(c::r).length<=6 by omega);grind
   grind [ie,Go.Lib.atoiAll,Go.Lib.parseMag]
theorem aBR(h:0<=gG s):wg s=gG s:=by
 grind [wg,V3]
abbrev IP:aN:=⟨.str,.au (.int .i64) .bool,λx=>x.length<=10000,ui⟩
abbrev NT:aN:=⟨.au .str .str,zt,λx=>x.1.length<=10000/\x.2=[32],λx=>dO x.1⟩
abbrev aBS:V:=.ad (.au bH (.au .bool .eW))
def NU:List (bn×Int×Bool)->Nat->List (bn×Ex)
 | [],_=>[]
 | p::l,i=>(p.1,p.2.1,p.2.2,some (87+i))::NU l (i+1)
def zA:List (bn×Ex):=NU oz 0
abbrev NV:aN:=⟨.dh,.map .str aBS,λ_=>True,λ_=>zA⟩
theorem aBT(x):a6 (aye x) (NV.sh x):=bx λ_=>congrArg mpure (show _=zA by rfl)
theorem ahy(w:bn):∀ (l:List (bn×Int×Bool)) (i:Nat),((NU l i).find? λp=>decide (w=p.1)).map (λx=>x.2)=(se w l i).map λr=>(r.1,r.2.1,some (87+r.2.2))
 | [],_=>rfl
 | p::l,i=>by
  unfold NU se;by_cases h:w=p.1
  ·grind
  ·simp[h,ahy w l (i+1)]
theorem ahz{w:bn}:∀ {l:List (bn×Int×Bool)} {i:Nat} {r:Int×Bool×Nat},se w l i=some r->i<=r.2.2/\r.2.2<i+l.length/\l[r.2.2 - i]?=some (w,r.1,r.2.1)
 | [],_,_,h=>by simp[se]at h
 | p::l,i,r,h=>by
  unfold se at h;split at h
  ·grind
  ·have:=ahz h;grind
def NW(j:Nat):Nat:=(oz.getD j ([],0,false)).2.1.toNat
def IQ(k:Nat):z1'×bG×Unit->M (bn×bG×Unit):=gO (NW (k - 87)) (EW (k - 87))
def NX(x:List (bn×Ex)×bn×bG×Unit):M (bn×bG×Unit):=eF (x.1=zA/\x.2.1.length<=10000/\fR x.2.2.1) ((sf x.2.2.1 x.2.1).1,(sf x.2.2.1 x.2.1).2,())
variable {l:List bn}
theorem aBU(h:l.all (λw=>decide (0<=gG w))=true):l.map wg=l.map gG:=aPF λw hw=>aBR (by grind)
theorem ahA{rho:Type}(r:rho)(fin:z1'->rho):∀ (l:List bn) (b:z1'),fb (λw b=>if (!decide (0<=gG w))=true then .done r else .next (b++[wg w])) fin l b=if l.all (λw=>decide (0<=gG w))=true then fin (b++l.map wg) else r
 | [],b=>by simp[fb]
 | w::l,b=>by
  unfold fb;rw[aQq];cases h:decide (0<=gG w) with
  | true=>
   simp only[aP9,aml,aPA];rw[ahA r fin l,aQG];rfl
  | false=>rfl
theorem aBV(x):a6 (afJ NT.sh IP.sh IQ x) (NX x):=bx λh=>by
 obtain⟨aBW,s,d,⟨⟩⟩:=x;obtain⟨ae,ay,aw⟩:aBW=zA/\s.length<=10000/\fR d:=h;subst ae;unfold afJ b3 c' hi bz cm gz bg bo a8 aQ cS bY bc eD bS gy cD;rw[show NT.sh (s,[32])=mpure (dO s) from bN ⟨ay,rfl⟩ _,aK];have ah:=EU s;rw[bb ⟨by decide,by grind⟩];have ax:((zA.find? λp=>decide ((dO s).getD (Int.toNat 0) []=p.1)).map λx=>x.2)=(se ((dO s).getD 0 []) oz 0).map λr=>(r.1,r.2.1,some (87+r.2.2)):=ahy _ _ _;have hw:=bp (n:=((dO s).length) - 1);simp only[ax,ct,hw];unfold sf VU;cases Lf:se ((dO s).getD 0 []) oz 0 with
 | none=>simp
 | some r=>
  obtain⟨k,m,j⟩:=r;obtain⟨_,aJ,an⟩:=ahz Lf;simp only[aQ9,aPP,amx,aP9,aQo];by_cases U:(decide (((dO s).length) - 1<k)||decide (((dO s).length) - 1 > k)&&!m)=true
  ·grind
  ·rw[if_neg U,if_neg U];rw[bb ⟨by decide,by omega,aPL _⟩];simp only[aPQ,aQc];have iA:((dO s).drop 1).length=(dO s).length - 1:=by simp
   rw[e6 ((dO s).drop 1) (λi o=>((dO s).drop 1,(((dO s).drop 1).length:Int),(i:Int),(k,m,some (87+j)),o,d,())) (λw o=>if (!decide (0<=gG w))=true then .done (.done ([63],d,())) else .next (o++[wg w])) (λo=>.next ((k,m,some (87+j)),o,d,())) (λi o=>o.length=i) [] ?_ rfl ?_ ?_]
   ·rw[ahA,aK];unfold Vz;by_cases aW:((dO s).drop 1).all (λw=>decide (0<=gG w))=true
    ·rw[if_pos aW,cK,aBU aW];rw[bb]
     ·have dk:NW j=k.toNat:=by
       grind [NW]
      have b5:jd (NW j) (((dO s).drop 1).map gG):=by
       refine⟨by grind,by grind,λn aA=>?_⟩;obtain⟨w,hw,rfl⟩:=List.mem_map.1 aA;simp_all[aBb]
      have aO8:IQ (87+j) (((dO s).drop 1).map gG,d,())=mpure ((EW j d (((dO s).drop 1).map gG)).1,(EW j d (((dO s).drop 1).map gG)).2,()):=by
       unfold IQ;rw[show 87+j - 87=j by omega];exact bN ⟨aw,b5⟩ _
      simp_all
     ·have:j<20:=by simp_all[oz]
      exact⟨87+j,by
       have e:∀ j:Fin 20,(87+j.val)∈[87,88,89,90,91,92,93,94,95,96,97,98,99,100,101,102,103,104,105,106]:=by decide
       exact e ⟨j,this⟩,rfl⟩
    simp_all[if_neg]
   ·rfl
   ·intro i G o ar;have hw:=bp (n:=i+1);refine⟨?_,λbf eg=>?_⟩
    ·simp only[dP G,d_ G,dt G,cj,dd,hw];rw[show IP.sh ((dO s).drop 1)[i]=mpure (ui ((dO s).drop 1)[i]) from bN (aPG (ahp s (List.mem_of_mem_drop (amm G))) ay) _,aK];unfold ui;by_cases aA:0<=gG ((dO s).drop 1)[i]
     ·simp only[aA,aPA];rw[bb (kL (by grind))];rfl
     simp_all
    grind
   simp
variable {d:bG}
theorem ahB(aw:fR d)(ay:s.length<=10000):fR (sf d s).2:=by
 grind [sf,aBQ,VU,Vz,EU]
abbrev uS:aN:=⟨zu,.int .i64,λd=>ij d.1/\H.mL d.2,o8⟩
theorem aBX(x):a6 (afH sa.sh H.jX.sh x) (uS.sh x):=bx λh=>by
 obtain⟨E,L⟩:=h;unfold afH eH b_;rw[show sa.sh x.1=mpure (lV x.1) from bN E _,aK,show H.jX.sh x.2=mpure (H.dJ x.2) from bN L _,lK,aK];grind [o8]
theorem aBY(l:List H.bF):(H.iP l).length<=l.length:=by
 have uf:(H.iP l).map (·.1) ⊆ l.map (·.1):=by
  intro x ao;obtain⟨s,ay,rfl⟩:=List.mem_map.1 ao;grind [H.HZ]
 have:=(H.ae_ l).length_le_of_subset uf;grind
theorem aBZ(l:z1'):(H.we l []).length<=l.length:=by
 have aA:((fP 0 99).filter λid=>l.contains id||List.contains [] id).Nodup:=((H.ahn 0 99).imp λh=>by omega).filter _;refine aA.length_le_of_subset λx ao=>?_;grind
theorem ahC{c:H.bd}(h:H.dJ c=0):H.qE c [] []=(H.qD c (H.iP c.2.1) (H.we c.2.2.1 []),0):=by
 have G:=H.NI h;have g:H.lO c=true:=by grind [H.dJ]
 have L:H.dJ (H.qD c [] [])=0:=by
  have:H.lO (H.qD c [] [])=true:=by
   grind [H.lO,H.vP,H.qD]
  unfold H.dJ;rw[if_pos this];rfl
 have fx:=aBY c.2.1;have gB:=aBZ c.2.2.1;have eC:=G.eC;have lf:=G.lf;unfold H.qE;rw[if_neg (by omega),if_neg (by omega),aPN,if_neg (by rw[G.cl];decide)];grind
theorem aB0(h:fR d):nI d=(d.1,H.qD d.2 (H.iP d.2.2.1) (H.we d.2.2.2.1 [])):=by
 unfold nI;rw[ahC h.B5]
theorem ahD(h:fR d):fR (nI d):=by
 have:=ahw       (by rw[ahC h.B5]);exact⟨h.iL,h.B4,this.2.1,by rw[aB0 h];exact h.EX⟩
theorem ahE{p:bG->Prop}{q:bn->Prop}(aj:∀ d s,p d->q s->p (sf d s).2):∀ (l:List bn) (d:bG),p d->(∀ s∈l,q s)->p (rr d l).2
 | [],d,h,_=>h
 | s::l,d,h,bq=>ahE aj l _ (aj d s h (bq s (by simp))) λt aG=>bq t (by grind)
theorem aB1(h:fR d)(ah:∀ s∈l,s.length<=10000):fR (rr d l).2:=ahE (p:=fR) (λd s h ay=>ahB h ay) l d h ah
def xI(x:bG×Unit):M (bG×Unit):=eF (fR x.1) (nI x.1,())
theorem Uh(x):a6 (afI H.ET.sh NQ.sh x) (xI x):=bx λh=>by
 obtain⟨d,⟨⟩⟩:=x;unfold afI dB;rw[show H.ET.sh (d.2,[],[])=mpure (H.qE d.2 [] []) from bN ⟨h.mL,by simp,by simp⟩ _];rw[show NQ.sh d.1=mpure d.1 from bN h.copy _];simp;rfl
abbrev NY(x:bG×List bn):Prop:=ij x.1.1/\H.jL x.1.2/\x.2.length<2 ^ 63/\∀ s∈x.2,s.length<=10000
theorem ahF(E:ij d.1)(L:H.jL d.2)(h:o8 d=0):fR d:=by
 unfold o8 at h;split at h
 ·omega
 ·rename_i U;simp  at U;exact⟨E,U.1,U.2,L.2 U.2⟩
abbrev xY:aN:=⟨.au zu zt,.au zt (.au zu (.int .i64)),NY,λx=>zv x.1 x.2⟩
theorem ahG:∀ (l:List bn) (o:List bn) (d:bG),l.foldl (λ(p:List bn×bG) s=>(p.1++[(sf p.2 s).1],(sf p.2 s).2)) (o,d)=(o++(rr d l).1,(rr d l).2)
 | [],o,d=>by simp[rr]
 | s::l,o,d=>by
  rw[aPY,ahG l];simp[rr]
theorem aB2(x):a6 (afG uS.sh xI NV.sh NX x) (xY.sh x):=bx λh=>by
 obtain⟨d,l⟩:=x;obtain⟨E,L,ak,aZ⟩:=h;unfold afG bz bo a8 aQ bK bY bc eD bS;show _=mpure (zv d l);unfold zv;rw[show uS.sh d=mpure (o8 d) from bN ⟨E,L.iL⟩ _,aK];by_cases e:o8 d=0
 ·have aw:=ahF E L e;by_cases bt:l.length > 40
  ·grind
  ·rw[if_neg (show ¬decide (Int.ofNat l.length > 40)=true by grind),if_neg bt];rw[show xI (d,())=mpure (nI d,()) from bN aw _,aK,show NV.sh ()=mpure zA from rfl,aK];rw[e6 l (λi p=>(zA,l,(l.length:Int),(i:Int),p.1,0,0,0,0,0,0,0,0,0,p.2,())) (λs p=>.next (p.1++[(sf p.2 s).1],(sf p.2 s).2)) (λp=>.next (p.1,0,0,0,0,0,0,0,0,0,p.2,())) (λi p=>fR p.2/\p.1.length=i) ([],nI d) ?_ ⟨ahD aw,rfl⟩ ?_ ?_]
   ·simp_all[ee,ahG]
   ·rfl
   ·rintro i G ⟨o,Ad⟩ ⟨JV,ar⟩;have hw:=bp (n:=i+1);have ay:=aZ _ (amm G);refine⟨?_,λbf eg=>?_⟩
    ·simp only[ct,dP G,d_ G,dt G,cj,dd,hw];rw[show NX (zA,l[i],Ad,())=mpure _ from bN ⟨rfl,ay,JV⟩ _,aK,bb (kL (by grind))];rfl
    grind [ahB]
   simp
 grind
theorem aB3(x):a6 (afF H.jX.sh sa.sh x) (uS.sh x):=bx λh=>by
 obtain⟨E,L⟩:=h;unfold afF eH b_;rw[show sa.sh x.1=mpure (lV x.1) from bN E _,aK,show H.jX.sh x.2=mpure (H.dJ x.2) from bN L _,lK,aK];grind [o8]
theorem ahH(c:UInt8):c.1.1.1=c.toNat:=rfl
theorem EZ{n:Int}(h:0<=n)(L:n<=255):IntKind.wrap .u8 n=n:=by
 show (if (false&&decide (n % 2 ^ 8>=(2 ^ (8 - 1))))=true then n % 2 ^ 8 - 2 ^ 8 else n % 2 ^ 8)=n;grind
theorem V4{af bet rho:Type}{p:af->Bool}{r:rho}{g:af->bet->bet}{fin:bet->rho}:∀ (l:List af) (b:bet),fb (λx b=>if p x=true then .done r else .next (g x b)) fin l b=if l.any p=true then r else fin (l.foldl (λb x=>g x b) b)
 | [],b=>rfl
 | x::l,b=>by
  unfold fb;rw[aQC];cases h:p x with
  | true=>rfl
  | false=>
   exact V4 l (g x b)
def B'(c:UInt8):Bool:=decide ((c.toNat:Int)<48)||decide ((c.toNat:Int) > 57)
theorem aB4(c:UInt8)(s:bn)(n:Int):ie (c::s) n=if B' c=true then -1 else ie s (10*n+((c.toNat:Int) - 48)):=rfl
theorem ahI{rho:Type}{r:rho}{fin:Int->rho}:∀ (s:bn) (n:Int),0<=n->fb (λc n=>if B' c=true then .done r else .next (10*n+((c.toNat:Int) - 48))) fin s n=if ie s n=-1 then r else fin (ie s n)
 | [],n,h=>by
  show fin n=if n=-1 then r else fin n
  grind
 | c::s,n,h=>by
  rw[aB4];unfold fb;by_cases hc:B' c=true
  ·grind
  ·have sY:=hc;unfold B' at sY;simp  at sY;simp  [hc];exact ahI s _ (by omega)
abbrev NZ:aN:=⟨.str,.int .i64,λ_=>True,gG⟩
theorem aB5(x):a6 (age x) (NZ.sh x):=bx λ_=>by
 unfold age e0 b3 c' eV fO bz gz bg aQ bK cS bY bc bS;show _=mpure (gG x);unfold gG;simp only[ct,ahH,show Int.toNat 0=0 from rfl];rw[bb (λU=>⟨⟨U,trivial⟩,⟨aPL _,by grind⟩,trivial⟩)];have e:(decide ((x.length:Int)=0)||decide ((x.length:Int) > 6)||decide ((x.length:Int) > 1)&&decide (((x.getD 0 0).toNat:Int)=48))=(decide (x.length=0)||decide (x.length > 6)||decide (x.length > 1)&&decide ((x.getD 0 0).toNat=48)):=by
  grind
 rw[e];by_cases U:(decide (x.length=0)||decide (x.length > 6)||decide (x.length > 1)&&decide ((x.getD 0 0).toNat=48))=true
 ·grind
 ·rw[if_neg U,if_neg U];have ej:x.length<=6:=by
   grind
  rw[e6 x (λi n=>(x,n,(i:Int),())) (λc n=>if B' c=true then .done (.done (-1)) else .next (10*n+((c.toNat:Int) - 48))) (λn=>.next (n,())) (λi n=>0<=n/\n<10 ^ i) 0 ?_ ⟨aPL _,by decide⟩ ?_ ?_]
  ·rw[ahI _ _ (aPL _)];by_cases aw:ie x 0=-1<;>simp_all
  ·rfl
  ·rintro i G n ⟨aV,E⟩;have hw:=bp (n:=i+1);have aj:(10:Int) ^ i<=10 ^ 5:=by
    have:=aQT (n:=10) (by decide) (show i<=5 by omega);grind
   refine⟨?_,λbf eg=>?_⟩
   ·simp only[dP G,d_ G,dt G,cj,dd,hw];rw[bb (λh=>⟨⟨h,h⟩,trivial,trivial⟩)];by_cases hc:B' x[i]=true
    ·have sY:(decide ((x[i].toNat:Int)<48)||decide ((x[i].toNat:Int) > 57))=true:=hc;simp_all
    ·rw[if_neg hc];have sY:¬(decide ((x[i].toNat:Int)<48)||decide ((x[i].toNat:Int) > 57))=true:=hc;rw[if_neg sY];simp  at sY;rw[EZ (by omega) (by omega),bp (n:=(x[i].toNat) - 48),bp (n:=10*n),bp   (by omega) (by omega)];rfl
   ·grind [B']
  simp
def E0(o:List bn)(c:UInt8):List bn:=if c=32 then o++[[]] else o.set (o.length - 1) (o.getD (o.length - 1) []++[c])
theorem V5:∀ (s:bn) (o:List bn) (w:bn),s.foldl E0 (o++[w])=o++(match dO s with | []=>[w] | v::l=>(w++v)::l)
 | [],o,w=>by simp[dO]
 | c::s,o,w=>by
  rw[aPY];unfold dO;have ah:=EU s;by_cases hc:c=32
  ·rw[show E0 (o++[w]) c=o++[w]++[[]] from if_pos hc,V5 s (o++[w]) [],if_pos hc];cases ay:dO s with
   | nil=>simp[ay]at ah
   | cons=>simp
  ·rw[show E0 (o++[w]) c=_ from if_neg hc];have e:(o++[w]).set ((o++[w]).length - 1) ((o++[w]).getD ((o++[w]).length - 1) []++[c])=o++[w++[c]]:=by
    simp
   rw[e,V5 s o (w++[c]),if_neg hc];cases ay:dO s with
   | nil=>simp
   | cons=>simp
abbrev N0:aN:=⟨.str,zt,λx=>x.length<=10000,dO⟩
theorem aB6(x):a6 (agd x) (N0.sh x):=bx λh=>by
 unfold agd iA bz cm bo a8 aQ bK bY bc eD bS cD;rw[e6 x (λi o=>(x,(i:Int),o,())) (λc o=>.next (E0 o c)) (λo=>.next (o,())) (λi o=>1<=o.length/\o.length<=i+1/\∀ w∈o,w.length<=i) [[]] ?_ ⟨by decide,by decide,by simp⟩ ?_ ?_]
 ·rw[ee,aK,cK];have:=V5 x [] [];grind [EU]
 ·rfl
 ·rintro i G o ⟨E,L,ak⟩;have hw:=bp (n:=i+1);have gF:=bp (n:=o.length - 1);have aB:((o.length:Int) - 1).toNat=o.length - 1:=by omega
  have bt:((i:Int)+1).toNat=i+1:=by omega
  have aD:o.getD (o.length - 1) []=o[o.length - 1]:=by grind
  have aw:(x.take (i+1)).drop i=[x[i]]:=by grind [List.drop_eq_getElem_cons]
  refine⟨?_,λbf eg=>?_⟩
  ·simp only[ct,d_ G,dt G,cj,dd,hw,ahH];unfold E0;by_cases hc:x[i]=32
   ·rw[bb (kL (by grind))];simp_all
   ·have sY:¬decide ((x[i].toNat:Int)=32)=true:=by
     intro h;apply hc;simp  at h;exact UInt8.toNat_inj.1 (show x[i].toNat=32 by omega)
    rw[if_neg sY];rw[bb (by omega),bb (by omega),bt,aPQ,bb (kL (by grind)),bb (by omega)];simp_all
  ·grind [E0]
 simp
def sg:List bn×z1'×z1':=(oz.map (·.1),oz.map (·.2.1),oz.map λp=>if p.2.2=true then -1 else p.2.1)
abbrev N1:aN:=⟨.dh,.au zt (.au hK hK),λ_=>True,λ_=>sg⟩
theorem aB7(x):a6 (ayf x) (N1.sh x):=bx λ_=>congrArg mpure (show _=sg by rfl)
def N2(k:Int)(m:Bool)(n:Nat):Bool:=decide ((n:Int)>=k)&&(decide ((if m=true then -1 else k)<(0:Int))||decide ((n:Int)<=if m=true then -1 else k))
def xZ(s:bn):bn×z1'×Bool:=
 if ((dO s).drop 1).any (λw=>decide (gG w<0))=true then ([],[],false) else
 match se ((dO s).getD 0 []) oz 0 with
 | none=>([],[],false)
 | some (k,m,_)=>((dO s).getD 0 [],((dO s).drop 1).map gG,N2 k m ((dO s).drop 1).length)
theorem IS{rho:Type}{w:bn}{g:Int->Bool->rho}{r:rho}:∀ (l:List (bn×Int×Bool)) (i:Nat),fb (λp (_:Unit)=>if decide (p.1=w)=true then .done (g p.2.1 p.2.2) else .next ()) (λ_=>r) l ()=match se w l i with | none=>r | some q=>g q.1 q.2.1
 | [],_=>rfl
 | p::l,i=>by
  unfold fb se;by_cases h:p.1=w
  ·grind
  ·have L:¬w=p.1:=λe=>h e.symm;simp only[h,L];exact IS l (i+1)
abbrev N3:aN:=⟨.str,.au .str (.au hK .bool),λx=>x.length<=10000,xZ⟩
theorem aB8(x):a6 (agc N0.sh NZ.sh N1.sh x) (N3.sh x):=bx λh=>by
 unfold agc fO bz gz bo a8 aQ bK cS bY bc eD bS gy;show _=mpure (xZ x);unfold xZ;rw[show N0.sh x=mpure (dO x) from bN h _,aK];have ah:=EU x;have iA:((dO x).drop 1).length=(dO x).length - 1:=by simp
 rw[e6 ((dO x).drop 1) (λi o=>(dO x,((1+i:Nat):Int),o,())) (λw o=>if decide (gG w<0)=true then .done (.done ([],[],false)) else .next (o++[gG w])) (λo=>.next (dO x,o,())) (λi o=>o.length=i) [] ?_ rfl ?_ ?_]
 ·rw[V4,aK];by_cases aW:((dO x).drop 1).any (λw=>decide (gG w<0))=true
  ·simp_all
  ·rw[if_neg aW,if_neg aW,cK,rX];rw[show N1.sh ()=mpure sg from rfl,aK];generalize pC:((dO x).drop 1).map gG=nL;have aA:nL.length=((dO x).drop 1).length:=by grind
   rw[<-aA];rw[e6 oz (λi (_)=>(dO x,sg.1,sg.2.1,sg.2.2,(i:Int),nL,())) (λp (_)=>if decide (p.1=(dO x).getD 0 [])=true then .done (.done ((dO x).getD 0 [],nL,N2 p.2.1 p.2.2 nL.length)) else .next ()) (λ_=>.next ()) (λ_ _=>True) () ?_ trivial ?_ ?_]
   ·rw[IS (g:=λk m=>aF.done ((dO x).getD 0 [],nL,N2 k m nL.length)) oz 0,aK];cases se ((dO x).getD 0 []) oz 0<;>rfl
   ·rfl
   ·intro i G _ _;have aO9:i<20:=G;have hw:=bp (n:=i+1);have fx:i<sg.1.length:=G;have gB:i<sg.2.1.length:=G;have JL:i<sg.2.2.length:=G;have dx:sg.1[i]'fx=(oz[i]'G).1:=aQp ..;have ec:sg.2.1[i]'gB=(oz[i]'G).2.1:=aQp ..;have jF:sg.2.2[i]'JL=if (oz[i]'G).2.2=true then -1 else (oz[i]'G).2.1:=aQp ..
    have aj:((0)<=0/\(0)<((dO x).length))=True:=eq_true ⟨by decide,by omega⟩;by_cases hc:decide ((oz[i]'G).1=(dO x).getD 0 [])=true
    ·simp_all[N2]
    simp_all
   simp_all[sg]
 ·rfl
 ·intro i G o ar;have dH:1+i<(dO x).length:=by omega
  have hw:=bp (n:=((1+i:Nat))+1);have aD:(dO x)[1+i]=((dO x).drop 1)[i]:=by grind
  refine⟨?_,λbf eg=>?_⟩
  ·simp only[ct,dP dH,d_ dH,dt dH,cj,dd,hw,aD];rw[show NZ.sh ((dO x).drop 1)[i]=mpure (gG ((dO x).drop 1)[i]) from rfl,aK];by_cases aA:decide (gG ((dO x).drop 1)[i]<0)=true
   ·simp_all
   ·rw[if_neg aA,if_neg aA,bb (kL (by grind))];rfl
  grind
 simp_all
theorem aB9(h:s.length<=10000):N3.sh s=mpure (xZ s):=bN h _
abbrev E1:aN:=⟨.au hK hK,.bool,λx=>x.1=x.2/\x.1.length<2 ^ 63,λ_=>true⟩
theorem aB_(x):a6 (af' x) (E1.sh x):=bx λh=>by
 obtain⟨a,b⟩:=x;obtain⟨rfl,h⟩:a=b/\a.length<2 ^ 63:=h;unfold af' fO bz bo a8 aQ bK cS bY bc gp h0 bS;rw[ev a (λi (_)=>(a,a,(i:Int),())) (λ_ b=>.next b) (λ_=>.next ()) () ?_ ?_ ?_]
 ·simp_all[ee]
 ·rfl
 ·intro i G _;have hw:=bp (n:=i+1);simp_all
 simp
theorem IT{a:z1'}(h:a.length<2 ^ 63):E1.sh (a,a)=mpure true:=bN ⟨rfl,h⟩ _
abbrev N4:aN:=⟨.au H.lq H.lq,.bool,λx=>x.1=x.2/\H.mL x.1,λ_=>true⟩
theorem aB'(x):a6 (af_ E1.sh x) (N4.sh x):=bx λh=>by
 obtain⟨a,b⟩:=x;obtain⟨rfl,E,L,ak,aZ⟩:a=b/\H.mL a:=h;unfold af_ b3 eH fO b_ bz bg a8 aQ bK cS bY bc gp h0 bS;rw[IT ak];rw[ev a.1 (λi (_)=>((i:Int),a,a,())) (λ_ b=>.next b) (λ_=>.next (a,a,())) () ?_ ?_ ?_]
 ·rw[ee,aK,cK];rw[ev a.2.1 (λi (_)=>((i:Int),a,a,())) (λ_ b=>.next b) (λ_=>.next (a,a,())) () ?_ ?_ ?_]
  ·rw[ee,aK,cK];rw[ev a.2.2.2.1 (λi (_)=>((i:Int),a,a,())) (λ_ b=>.next b) (λ_=>.next ()) () ?_ ?_ ?_]
   ·simp_all[ee]
   ·rfl
   ·intro i G _;have hw:=bp (n:=i+1);simp_all
   simp
  ·rfl
  ·intro i G _;have hw:=bp (n:=i+1);simp_all
  simp
 ·rfl
 ·intro i G _;have hw:=bp (n:=i+1);simp_all
 simp
abbrev N5:aN:=⟨.au nd nd,.bool,λx=>x.1=x.2/\iR x.1,λ_=>true⟩
theorem aCa(x):a6 (aga E1.sh x) (N5.sh x):=bx λh=>by
 obtain⟨a,b⟩:=x;obtain⟨rfl,E,L,ak,aZ⟩:a=b/\iR a:=h;unfold aga b3 iA eH fO bz cm bg bo a8 aQ bK cS iO bY bc gp h0 bS pE;rw[ev a.1 (λi (_)=>((i:Int),a,a,())) (λ_ b=>.next b) (λ_=>.next (a,a,())) () ?_ ?_ ?_]
 ·rw[ee,aK,cK];rw[ev a.2.2.2 (λi (_)=>((i:Int),a,a,())) (λ_ b=>.next b) (λ_=>.next (a,a,())) () ?_ ?_ ?_]
  ·rw[ee,aK,cK];rw[ev a.2.1 (λi (_)=>((i:Int),a,a,())) (λ_ b=>.next b) (λ_=>.next ()) () ?_ ?_ ?_]
   ·simp_all[ee]
   ·rfl
   ·intro i G _;have hw:=bp (n:=i+1);obtain⟨hm,ay⟩:=aZ _ (amm G);simp only[d_ G];rw[ev a.2.1[i] (λj (_)=>((i:Int),a.2.1[i],a.2.1[i],(j:Int),a,a,())) (λ_ b=>.next b) (λ_=>.next (i,a,a,())) () ?_ ?_ ?_]
    ·simp_all[ee]
    ·rfl
    ·intro j aJ _;have hw:=bp (n:=j+1);have bq:=IT (ay _ (amm aJ));simp_all
    simp
   simp
  ·rfl
  ·intro i G _;have hw:=bp (n:=i+1);simp_all
  simp
 ·rfl
 ·intro i G _;have hw:=bp (n:=i+1);simp_all
 simp
abbrev IU:aN:=⟨.au zu zu,.bool,λx=>x.1=x.2/\ij x.1.1/\H.mL x.1.2,λ_=>true⟩
theorem aCb(x):a6 (af9 N4.sh N5.sh E1.sh x) (IU.sh x):=bx λh=>by
 obtain⟨a,b⟩:=x;obtain⟨rfl,⟨E,L,ak,aZ,bP,ej,iW⟩,hc⟩:a=b/\ij a.1/\H.mL a.2:=h;unfold af9 b3 eH fO b_ bz bg a8 aQ bK cS bY bc gp h0 bS;rw[show N4.sh (a.2,a.2)=mpure true from bN ⟨rfl,hc⟩ _,show N5.sh (a.1.1,a.1.1)=mpure true from bN ⟨rfl,E⟩ _,IT L];simp;rw[ev a.1.2.2.1 (λi (_)=>((i:Int),a.1,a.1,())) (λ_ b=>.next b) (λ_=>.next (a.1,a.1,())) () ?_ ?_ ?_]
 ·rw[ee,aK,cK];rw[ev a.1.2.2.2.1 (λi (_)=>((i:Int),a.1,a.1,())) (λ_ b=>.next b) (λ_=>.next (a.1,a.1,())) () ?_ ?_ ?_]
  ·rw[ee,aK,cK];rw[ev a.1.2.2.2.2.1 (λi (_)=>((i:Int),a.1,a.1,())) (λ_ b=>.next b) (λ_=>.next ()) () ?_ ?_ ?_]
   ·simp_all[ee]
   ·rfl
   ·intro i G _;have hw:=bp (n:=i+1);simp_all
   simp
  ·rfl
  ·intro i G _;have hw:=bp (n:=i+1);have bq:=IT (iW _ (amm G));simp_all
  simp
 ·rfl
 ·intro i G _;have hw:=bp (n:=i+1);have bq:=IT (ej _ (amm G));simp_all
 simp
theorem aCc(h:fR d):IU.sh (d,d)=mpure true:=bN ⟨rfl,h.iL,h.mL⟩ _
abbrev N6:Type:=z30'
def V6(s:bn)(c:N6):N6:=
 if (!(xZ s).2.2)=true then c else if decide ((xZ s).1=[119,105,115,104])=true then (IntKind.wrap .i64 (c.1+1),c.2)
 else if decide ((xZ s).1=[112,105,101,99,101])=true then (c.1,IntKind.wrap .i64 (c.2.1+1),c.2.2.1,IntKind.wrap .i64 (c.2.2.2+IntKind.wrap .i64 (((xZ s).2.1.length:Int) - 4)))
 else if decide ((xZ s).1=[99,111,109,101,115])=true then (c.1,c.2.1,IntKind.wrap .i64 (c.2.2.1+1),c.2.2.2) else c
def ahJ(d:bG):N6:=((d.1.2.2.2.1.length:Int),(d.1.2.2.1.length:Int),(d.1.2.2.2.2.1.length:Int),d.1.2.2.1.foldl (λn p=>IntKind.wrap .i64 (n+(p.2.2.2.2.length:Int))) 0)
def aCd(c:N6):Bool:=decide (c.1 > 3)||decide (c.2.1 > 4)||decide (c.2.2.1 > 3)||decide (c.2.2.2 > 4)
def zB(d:bG)(l:List bn):Bool:=
 if (xX d.1||H.ot d.2||decide ((l.length:Int) > 60))=true then true else if (l.any λs=>decide ((s.length:Int) > 80))=true then true
 else decide (o8 d=0)&&aCd (l.foldl (λc s=>V6 s c) (ahJ d))
abbrev aCe(x:bG×List bn):Prop:=ij x.1.1/\H.mL x.1.2/\x.2.length<2 ^ 63
abbrev IV:aN:=⟨.au zu zt,.bool,aCe,λx=>zB x.1 x.2⟩
theorem aCf(x):a6 (agb uS.sh Nz.sh H.y9.sh N3.sh x) (IV.sh x):=bx λh=>by
 obtain⟨d,l⟩:=x;obtain⟨E,L,ak⟩:=h;have kP:d.1.2.2.1.length<2 ^ 63:=E.2.2.1;change l.length<2 ^ 63 at ak;unfold agb e0 b3 c' iA b_ bz cm bg bo a8 aQ bK cS iO bY bc h0 bS cD;show _=mpure (zB d l);unfold zB;rw[show Nz.sh d.1=mpure (xX d.1) from bN E _,aK,show H.y9.sh d.2=mpure (H.ot d.2) from bN L _,lK,aK];have e:(xX d.1||(if (!xX d.1)=true then H.ot d.2 else false)||decide (Int.ofNat l.length > 60))=(xX d.1||H.ot d.2||decide ((l.length:Int) > 60)):=by grind
 rw[e];by_cases ax:(xX d.1||H.ot d.2||decide ((l.length:Int) > 60))=true
 ·grind
 ·rw[if_neg ax,if_neg ax];rw[ev d.1.2.2.1 (λi n=>(l,(d.1.2.2.2.1.length:Int),(d.1.2.2.1.length:Int),(d.1.2.2.2.2.1.length:Int),n,(i:Int),d,())) (λp n=>.next (IntKind.wrap .i64 (n+(p.2.2.2.2.length)))) (λn=>.next (l,(d.1.2.2.2.1.length),(d.1.2.2.1.length),(d.1.2.2.2.2.1.length),n,d,())) 0 ?_ ?_ ?_]
  ·rw[ee,aK,cK];rw[ev l (λi c=>(l,c.1,c.2.1,c.2.2.1,c.2.2.2,(i:Int),d,())) (λs c=>if decide ((s.length:Int) > 80)=true then .done (.done true) else .next (V6 s c)) (λc=>.next (c.1,c.2.1,c.2.2.1,c.2.2.2,d,())) (ahJ d) ?_ ?_ ?_]
   ·rw[V4,aK];by_cases aW:(l.any λs=>decide ((s.length:Int) > 80))=true
    ·simp_all
    ·rw[if_neg aW,if_neg aW,cK];rw[show uS.sh d=mpure (o8 d) from bN ⟨E,L⟩ _,aK];rfl
   ·rfl
   ·intro i G c;have hw:=bp (n:=i+1);simp only[ct,dP G,if_true,d_ G];by_cases hc:decide ((l[i].length:Int) > 80)=true
    ·simp_all
    ·rw[if_neg hc];rw[aB9 (by grind),aK];unfold V6;split
     ·simp_all
     ·split
      ·simp_all
      ·split
       ·simp_all
       ·split<;>simp_all
   simp
  ·rfl
  ·intro i G n;have hw:=bp (n:=i+1);simp_all
  simp
theorem aCg{n:Int}(E:ij d.1)(L:H.mL d.2)(h:(!zB d l&&decide (o8 d=0)&&decide ((l.length:Int)<=n))=true):fR d/\(l.length:Int)<=n/\∀ s∈l,s.length<=80:=by
 grind [zB,ahF,H.axW]
theorem aCh(aw:fR d)(nM:l.length<=40)(ah:∀ s∈l,s.length<=10000):xY.sh (d,l)=mpure ((rr (nI d) l).1,(rr (nI d) l).2,0):=by
 have e:xY.sh (d,l)=mpure (zv d l):=bN ⟨aw.iL,aw.jL,by show l.length<2 ^ 63;omega,ah⟩ _;rw[e];unfold zv;rw[if_neg (by rw[aw.aBf];decide),if_neg (by omega)]
end Go.Fer.W
namespace Go.Proofs
open Go.Shelf
theorem ahK{P:Program}{k:Nat}{f g:Func}(h:P.funcs[k]?=some f)(e:f=g:=by kernel_rfl):P.funcs[k]?=some g:=h.trans (congrArg some e)
theorem ld{p:Prop}(h:p:=by repeat' first | kernel_rfl | (intro;kernel_rfl) | decide | constructor):p:=h
open Tryz
def Tryz.ahL:Go.Shelf.Ren:=⟨fun | 156=>247 | 165=>222 | 166=>79 | 169=>82 | 240=>155 | 241=>272 | 276=>220 | 277=>319 | n=>n,fun | 31=>41 | 9=>9 | 3=>3 | 4=>4 | 0=>0 | 20=>20 | 72=>155 | 76=>161 | 70=>153 | 37=>95 | 75=>160 | 127=>252 | 164=>310 | 5=>5 | 80=>164 | n=>n,fun | n=>n⟩
theorem Tryz.ahM:Go.Proofs.Lays.n156 Tryz.prog Tryz.ahL:=ld
theorem Tryz.ahN:Builder.Extra Tryz.prog Tryz.ahL:=ld
def Tryz.aCi:Go.Shelf.Ren:=⟨fun | 171=>189 | 243=>256 | 246=>309 | 283=>337 | 284=>338 | 285=>339 | 286=>340 | 129=>299 | 317=>351 | 318=>352 | 319=>353 | 320=>354 | 337=>363 | 338=>364 | n=>n,fun | 3=>3 | 9=>9 | 2=>2 | 4=>4 | 171=>397 | 0=>0 | 53=>349 | 37=>95 | 5=>5 | 173=>399 | 212=>419 | 51=>346 | 20=>20 | 213=>420 | 46=>300 | 232=>428 | 233=>429 | n=>n,fun | 17=>5 | 18=>6 | 19=>7 | n=>n⟩
theorem Tryz.ahO:Go.Proofs.LaysM.n171 Tryz.prog Tryz.aCi:=ld
def Tryz.aCj:Go.Shelf.Ren:=⟨fun | 172=>188 | 244=>254 | 245=>255 | 247=>304 | 279=>305 | 280=>306 | 281=>307 | 282=>308 | 287=>334 | 316=>335 | 171=>189 | 205=>336 | 321=>349 | 322=>350 | 243=>256 | 246=>309 | 283=>337 | 284=>338 | 285=>339 | 286=>340 | 129=>299 | 317=>351 | 318=>352 | 319=>353 | 320=>354 | 337=>363 | 338=>364 | n=>n,fun | 9=>9 | 3=>3 | 75=>160 | 76=>161 | 4=>4 | 5=>5 | 167=>375 | 37=>95 | 0=>0 | 85=>376 | 2=>2 | 168=>378 | 53=>349 | 175=>391 | 46=>300 | 210=>395 | 127=>252 | 145=>417 | 143=>415 | 21=>21 | 171=>397 | 173=>399 | 212=>419 | 51=>346 | 20=>20 | 213=>420 | 232=>428 | 233=>429 | 80=>164 | n=>n,fun | 15=>1 | 16=>2 | 17=>5 | 18=>6 | 19=>7 | n=>n⟩
theorem Tryz.V7:Go.Proofs.LaysC.n172 Tryz.prog Tryz.aCj:=ld
open Go.RowKit in
theorem Tryz.strconv_Atoi_ok(s:ByteArray)(Aw:s.size<=9223372036854775806)(v:Int)(h:Lib.atoiAll s.data.toList=.ok v)(w:World) :
  Calls Tryz.prog 188 #[.string s] w λe w'=>e=.returned (.tuple #[.int .i64 v,.nilIface])/\(w'=w\/∃ t,w'=Lib.bytesWorld w 5 t):=Any.strconv_Atoi_ok Tryz.V7 s Aw v h w
open Go.RowKit in
theorem Tryz.strconv_Atoi_syntax(s:ByteArray)(vh:s.size<=281474976710656)(h:Lib.atoiAll s.data.toList=Lib.atoiAll [])(j9:Value)(w:World)(ae:w.cell? ⟨1,0,none⟩=some j9)(r6:j9=.nilIface\/∃ nU oF,j9=.iface nU oF) :
  Calls Tryz.prog 188 #[.string s] w λe w'=>∃ N,e=.returned (.tuple #[.int .i64 (0),.iface 378 (.pointer (some ⟨N,0,none⟩))])/\w.heap.size<=N/\w'.heap[N]?=some (.cells #[.string ⟨#[65,116,111,105]⟩,.string s,j9] 395 (0,0))/\Below w.heap.size w w':=Any.strconv_Atoi_syntax Tryz.V7 s vh h j9 w ae r6
open Go.RowKit in
theorem Tryz.strconv_Atoi_range(s:ByteArray)(vh:s.size<=281474976710656)(h:Lib.atoiAll s.data.toList=.range)(j9:Value)(w:World)(ae:w.cell? ⟨2,0,none⟩=some j9)(r6:j9=.nilIface\/∃ nU oF,j9=.iface nU oF) :
  Calls Tryz.prog 188 #[.string s] w λe w'=>∃ N,e=.returned (.tuple #[.int .i64 (Lib.atoiSat s.data.toList),.iface 378 (.pointer (some ⟨N,0,none⟩))])/\w.heap.size<=N/\w'.heap[N]?=some (.cells #[.string ⟨#[65,116,111,105]⟩,.string s,j9] 395 (0,0))/\Below w.heap.size w w':=Any.strconv_Atoi_range Tryz.V7 s vh h j9 w ae r6
def Tryz.aCk:Go.Shelf.Ren:=⟨fun | 145=>146 | 220=>215 | 219=>270 | 217=>315 | 225=>316 | 224=>317 | 267=>318 | 266=>343 | 314=>344 | n=>n,fun | 9=>9 | 4=>4 | 59=>239 | 3=>3 | 5=>5 | 46=>300 | 146=>347 | 51=>346 | n=>n,fun | 1=>0 | n=>n⟩
theorem Tryz.aCl:Go.Proofs.Lays.n145 Tryz.prog Tryz.aCk:=ld
open Go.RowKit Go.Lib in
theorem Tryz.strings_Cut(s sep:ByteArray)(m:Int)(w:World)(ay:s.size<4294967281)(hm:w.cell? ⟨0,0,none⟩=some (.int .i64 m)) :
  Calls Tryz.prog 146 #[.string s,.string sep] w λe w'=>e=.returned (.tuple #[.string ⟨(Lib.cut s.data.toList sep.data.toList).1.toArray⟩,.string ⟨(Lib.cut s.data.toList sep.data.toList).2.1.toArray⟩,.bool (Lib.cut s.data.toList sep.data.toList).2.2])/\∃ n,w'=w.drewN n:=Any.strings_Cut Tryz.aCl s sep m w ay hm
def Tryz.aCm:Go.Shelf.Ren:=⟨fun | 189=>166 | 125=>245 | 257=>244 | 128=>298 | 129=>299 | 294=>289 | 295=>290 | 296=>291 | 297=>292 | 298=>293 | 299=>294 | 216=>295 | 300=>296 | 301=>297 | 328=>327 | 329=>328 | 330=>329 | 331=>330 | 332=>331 | 215=>332 | 343=>348 | n=>n,fun | 28=>27 | 3=>3 | 46=>300 | 0=>0 | 51=>346 | 53=>349 | 4=>4 | 183=>364 | 182=>363 | 131=>91 | 5=>5 | 9=>9 | 218=>385 | 222=>389 | 228=>407 | 229=>408 | n=>n,fun | n=>n⟩
theorem Tryz.ahP:Go.Proofs.Lays.n189 Tryz.prog Tryz.aCm:=ld
def Tryz.aCn:Go.Shelf.Ren:=⟨fun | 146=>107 | 221=>187 | 268=>251 | 138=>252 | 143=>253 | 195=>301 | 197=>302 | 218=>303 | 219=>270 | 260=>333 | 217=>315 | 225=>316 | 224=>317 | 267=>318 | 266=>343 | 314=>344 | n=>n,fun | 9=>9 | 31=>41 | 3=>3 | 4=>4 | 0=>0 | 105=>372 | 21=>21 | 5=>5 | 46=>300 | 119=>410 | 139=>413 | 138=>412 | 146=>347 | 51=>346 | n=>n,fun | 1=>0 | 3=>3 | 4=>4 | n=>n⟩
theorem Tryz.ahQ:Go.Proofs.Lays.n146 Tryz.prog Tryz.aCn:=ld
def Tryz.V8:Go.Shelf.Ren:=⟨fun | 105=>157 | 212=>209 | 99=>221 | 165=>222 | 166=>79 | 170=>223 | 169=>82 | 263=>266 | 264=>267 | 206=>271 | 240=>155 | 241=>272 | 276=>220 | 277=>319 | n=>n,fun | 9=>9 | 3=>3 | 4=>4 | 20=>20 | 0=>0 | 46=>300 | 109=>301 | 5=>5 | 72=>155 | 76=>161 | 51=>346 | 146=>347 | 53=>349 | 148=>350 | 70=>153 | 37=>95 | 75=>160 | 127=>252 | 164=>310 | 80=>164 | n=>n,fun | n=>n⟩
theorem Tryz.ahR:Go.Proofs.Lays.n105 Tryz.prog Tryz.V8:=ld
theorem Tryz.ahS:Builder.Extra Tryz.prog Tryz.V8:=ld
open Go.RowKit Go.Lib in
theorem Tryz.strings_Repeat(s:ByteArray)(c:Nat)(w:World)(hc:c<=9223372036854775807)(hlen:s.size*c<=140737488355328) :
  Calls Tryz.prog 157 #[.string s,.int .i64 c] w λe w'=>e=.returned (.string ⟨(Lib.repeatL s.data.toList c).toArray⟩)/\Below w.heap.size w w':=Any.strings_Repeat Tryz.ahR Tryz.ahS s c w hc hlen
def Tryz.aCo:Go.Shelf.Ren:=⟨fun | 4=>243 | n=>n,fun | 22=>27 | 25=>3 | 3=>3 | 4=>4 | 9=>9 | 20=>20 | 0=>0 | n=>n,fun | n=>n⟩
theorem Tryz.ahT:Go.Proofs.Lays8.n4 Tryz.prog Tryz.aCo:=by constructor<;>first | exact⟨Tryz.f243.name,by decide,ahK func243⟩ | exact ld
def Tryz.aCp:Go.Shelf.Ren:=⟨fun | 4=>242 | n=>n,fun | 22=>34 | 25=>116 | 3=>3 | 4=>4 | 9=>9 | 20=>20 | 0=>0 | n=>n,fun | n=>n⟩
theorem Tryz.ahU:Go.Proofs.Lays8.n4 Tryz.prog Tryz.aCp:=by constructor<;>first | exact⟨Tryz.f242.name,by decide,ahK func242⟩ | exact ld
end Go.Proofs
namespace Go.Fer.W
theorem ahV:∀ s:bn,(Go.Lib.index s [32]=-1/\dO s=[s])\/∃ t r,s=t++32::r/\Go.Lib.index s [32]=(t.length:Int)/\dO s=t::dO r
 | []=>.inl ⟨rfl,rfl⟩
 | b::l=>by
  unfold Go.Lib.index;by_cases U:b=32
  ·subst U;exact .inr ⟨[],l,rfl,by rfl,by rfl⟩
  ·rcases ahV l with⟨E,L⟩ | ⟨t,r,E,L,ak⟩
   ·grind [dO]
   ·grind [dO]
theorem aCq:∀ (n:Nat) (s:bn),s.length<=n->Go.Lib.splitK [32] 0 (Go.Lib.count s [32]) s=dO s:=by
 intro n;induction n with
 | zero=>
  intro s h;have:s=[]:=aPU (by omega);subst this;rfl
 | succ n aO=>
  intro s h;rcases ahV s with⟨E,L⟩ | ⟨t,r,E,L,ak⟩
  ·rw[Go.Lib.count_miss E,L];rfl
  ·rw[Go.Lib.count_hit (by simp) L,Nat.add_comm,Go.Lib.splitK];have e:((t.length:Int)).toNat=t.length:=rfl;have aCr:s.drop (t.length+1)=r:=by simp_all
   grind
end Go.Fer.W
namespace Go.Fer.Sk
open Go Go.Proofs Go.RowKit
section
variable {P:Program} {F:Nat->Prop} {w:World}
theorem ahW(x:List UInt8):(ByteArray.mk x.toArray).data.toList=x:=by simp
theorem tB(x:List UInt8):(ByteArray.mk x.toArray).size=x.length:=by rfl
variable {x:List UInt8}
theorem N7{args:List Value}(h:gv P .str F w args x):args=[.string ⟨x.toArray⟩]/\x.length<2 ^ 63:=by
 obtain⟨v,rfl,ae⟩:=(pe rfl).1 h;grind [k3]
theorem V9{args:List Value}{y:List UInt8}(h:gv P (.au .str .str) F w args (x,y)):args=[.string ⟨x.toArray⟩,.string ⟨y.toArray⟩]/\x.length<2 ^ 63/\y.length<2 ^ 63:=by
 grind [FF,k3,N7]
theorem aCs(w:World)(k:Nat)(os:Array Obj):Below w.heap.size w (Go.Sort.grow (w.drewN k) os):=by
 refine⟨rfl,rfl,rfl,?_,λj aJ=>?_⟩
 ·simp
 ·show (w.heap++os)[j]?=_;grind
theorem E2(h:pd Tryz.prog F w){b:Nat}(U:b<6):F b/\X6 b λi=>w.cell? ⟨b,i,none⟩:=h b (aPB U (aP6 (by rfl)))
end
theorem V_(sep:ByteArray):∀ (k:Nat) (s:ByteArray),∀ x∈Lib.splitB sep 0 k s,x.size<=s.size
 | 0,s,x,ao=>by
  grind [Lib.splitB]
 | k+1,s,x,ao=>by
  unfold Lib.splitB at ao;split at ao
  ·grind
  ·simp  at ao;rcases ao with rfl | ao
   ·grind [ByteArray.size_extract]
   ·have:=V_ sep k _ x ao;grind [ByteArray.size_extract]
def ny(s sep:List UInt8):z2':=(Lib.splitB ⟨sep.toArray⟩ 0 (Lib.countB ⟨s.toArray⟩ ⟨sep.toArray⟩) ⟨s.toArray⟩).map (·.data.toList)
theorem aCt(s:List UInt8):ny s [32]=W.dO s:=by
 unfold ny;rw[Lib.splitB_data];exact W.aCq s.length s (amo _)
abbrev ahX:Code:=Tryz.f107.body.getD .skip
theorem aCu:hD Tryz.prog 107 (.au .str .str) (.slice .str) W.NT.sh where
 enter:=q8 Tryz.func107 (show Tryz.f107.body=some ahX by rfl) (by rfl)
 ik:=λF w args x bm fq aW ay=>by
  obtain⟨s,sep⟩:=x;obtain⟨ay,E⟩:s.length<=10000/\sep=[32]:=ay;subst E;obtain⟨rfl,ah,hp⟩:=V9 aW;obtain⟨_,m,hm⟩:=E2 fq (b:=0) (by decide);have cI:1<=(ByteArray.mk [32].toArray).size:=by decide
  refine (Any.strings_Split Tryz.ahQ (by kernel_rfl) ⟨s.toArray⟩ ⟨[32].toArray⟩ m w (by grind [tB]) hm cI).mono ?_;rintro e w' ⟨rfl,rfl⟩;have hlen:=Lib.splitB_all ⟨[32].toArray⟩ cI 0 _ ⟨s.toArray⟩ rfl;have s3:=Lib.countB_le ⟨[32].toArray⟩ cI _ ⟨s.toArray⟩ (amo _);rw[tB]at s3;have mz:=V_ ⟨[32].toArray⟩ (Lib.countB ⟨s.toArray⟩ ⟨[32].toArray⟩) ⟨s.toArray⟩;rw[tB]at mz;have Ap:(ny s [32]).length=Lib.countB ⟨s.toArray⟩ ⟨[32].toArray⟩+1:=by grind [ny]
  refine⟨_,ny s [32],rfl,aCt s,⟨[_],rfl,(pe rfl).2 ⟨_,rfl,(eb rfl).2 ⟨rfl,some ⟨w.heap.size,0,none⟩,Lib.countB ⟨s.toArray⟩ ⟨[32].toArray⟩+1,by grind,by omega,by omega,nofun,λp aj hc=>?_⟩⟩⟩,?_⟩
  ·cases aj;refine⟨.inr ⟨amo _,by simp⟩,rfl,λi G=>?_⟩;have dH:i<(Lib.splitB ⟨[32].toArray⟩ 0 (Lib.countB ⟨s.toArray⟩ ⟨[32].toArray⟩) ⟨s.toArray⟩).length:=by omega
   generalize aX:Lib.splitB ⟨[32].toArray⟩ 0 (Lib.countB ⟨s.toArray⟩ ⟨[32].toArray⟩) ⟨s.toArray⟩=B at dH mz hlen;have j8:(ny s [32])[i]=B[i].data.toList:=by
    grind [ny]
   refine⟨[.string B[i]],⟨.inr ⟨amo _,by simp⟩,rfl,λj aJ=>?_⟩,?_,?_⟩
   ·have aJ:j=0:=by grind
    simp_all[V.size]
   ·simp_all
   ·have e:(B[i]).data.toList.length=(B[i]).size:=aPI;grind
  ·exact (Below.refl _ _).alloc (amo _) _
theorem ahY{F : Nat -> Prop}{w : World}(h : pd Tryz.prog F w) : Lib.TabIs Tryz.prog w "internal/strconv.uint64pow10" .u64 Lib.pow10Tab := by
 have bP:=(E2 h (b:=5) (by decide)).2;show (match w.heap[5]? with | some (.cells cs _ _)=>some cs | _=>none)=_;have aV:=bP 0;cases ar:w.heap[5]? with
 | none=>grind [World.cell?]
 | some o=>
  cases o with
  | cells cs T vQ=>
   simp;apply Array.ext_getElem?;intro i;have G:=bP i;grind [World.cell?,Lib.pow10Tab]
  | _=>simp[World.cell?,ar]at aV
abbrev aCv:Code:=Tryz.f189.body.getD .skip
theorem aCw{P:Program}{F:Nat->Prop}{w:World}{args:List Value}{x:Int}(h:gv P (.int .i64) F w args x):args=[.int .i64 x]/\gQ .i64 x:=by
 obtain⟨v,rfl,ae⟩:=(pe rfl).1 h;grind [hO]
theorem aCx{n:Int}(h:gQ .i64 n):-9223372036854775808<=n/\n<=9223372036854775807:=h
theorem aCy:hD Tryz.prog 189 (.int .i64) .str W.NL.sh where
 enter:=q8 Tryz.func189 (show Tryz.f189.body=some aCv by rfl) (by rfl)
 ik:=λF w args x bm fq aW ay=>by
  obtain⟨rfl,D⟩:=aCw aW;obtain⟨aV,E⟩:=aCx D;refine (Any.strconv_Itoa Tryz.ahO x aV E w (ahY fq)).mono ?_;rintro e w' ⟨rfl,k,os,rfl⟩;have ao:W.uQ x=Lib.itoa x:=by grind [W.uQ,bp]
  refine⟨_,W.uQ x,rfl,rfl,⟨[_],rfl,(pe rfl).2 ⟨_,rfl,k3.2 ⟨by grind,Nat.lt_of_le_of_lt (W.VA x) (by decide)⟩⟩⟩,aCs w k os⟩
abbrev aCz:Code:=Tryz.f247.body.getD .skip
theorem aCA:hD Tryz.prog 247 (.au (.slice .str) .str) .str W.IM.sh where
 enter:=q8 Tryz.func247 (show Tryz.f247.body=some aCz by rfl) (by rfl)
 ik:=λF w args x bm fq aW ay=>by
  obtain⟨l,sep⟩:=x;obtain⟨aA,hw,E⟩:l.length<=60000/\(∀ w∈l,w.length<=21)/\sep.length=1:=ay;have Hj:=W.ahs l sep 21 hw;rw[E]at Hj;have aJ:(Lib.join l sep).length<2 ^ 63:=by omega
  obtain⟨v,us,rfl,ae,hu⟩:=FF aW;obtain⟨rfl,_⟩:=N7 hu;obtain⟨_,p,cap,jR,c2,c3,c4,c5⟩:=(eb rfl).1 ae;obtain rfl:v=.slice p l.length cap:=by grind
  change l.length<=cap at c2;have fin:∀ w',Below w.heap.size w w'->∃ v y,Ending.returned (.string ⟨(Lib.join l sep).toArray⟩)=.returned v/\(W.IM.sh (l,sep)).a7 y/\tH Tryz.prog .str (wN F w w') w' v y/\Below w.heap.size w w':=λw' U=>
   ⟨_,Lib.join l sep,rfl,rfl,⟨[_],rfl,(pe rfl).2 ⟨_,rfl,k3.2 ⟨rfl,aJ⟩⟩⟩,U⟩
  by_cases ah:l=[]
  ·subst ah;refine (Any.strings_Join_none Tryz.ahM Tryz.ahN p cap ⟨sep.toArray⟩ w).mono ?_;simp_all[Below.refl]
  ·have ki:=List.length_pos_iff.2 ah;obtain⟨q,rfl⟩:∃ q,p=some q:=by
    cases p<;>grind
   obtain⟨d1,d2,d3⟩:=c5 q rfl (by omega);obtain⟨aCB,o,sp⟩:=q;obtain rfl:=d2;have hlen:(l.map λx:List UInt8=>ByteArray.mk x.toArray).length=l.length:=aPJ ..;have sG:(l.map λx=>ByteArray.mk x.toArray).map (·.data.toList)=l:=by simp_all[aPF]
   have:=Any.strings_Join Tryz.ahM Tryz.ahN aCB o cap (l.map λx:List UInt8=>ByteArray.mk x.toArray) ⟨sep.toArray⟩ w (λj x ao=>by
    rw[aQW]at ao;obtain⟨y,a_,rfl⟩:=Option.map_eq_some_iff.1 ao;obtain⟨Hj,rfl⟩:=List.getElem?_eq_some_iff.1 a_;obtain⟨bB,⟨_,_,cT⟩,bW⟩:=d3 j Hj;obtain⟨rfl,_⟩:=bW;simp_all[V.size]) (bm _ d1) (by omega) (by omega) (by grind)
   rw[hlen,ahW]at this;refine this.mono ?_;simp_all
end Go.Fer.Sk
namespace Go.Proofs
open Go.RowKit
theorem Tryz.aCC{P:Program}{w w':World}{n:String}{k:IntKind}{zs:z1'}(h:Lib.TabIs P w n k zs)(U:Below w.heap.size w w'):Lib.TabIs P w' n k zs:=by
 unfold Lib.TabIs World.var? at *
 cases aD:P.globalNamed n with
 | none=>rw[aD]at h;cases h
 | some g=>
  rw[aD]at h;simp only[Option.bind_some]at h ⊢;by_cases dk:g<w.heap.size
  ·rw[U.block g dk];exact h
  ·rw[Array.getElem?_eq_none (by omega)]at h;cases h
set_option maxHeartbeats 4000000 in
set_option maxRecDepth 1000000 in
theorem Tryz.aCD(s:ByteArray)(w:World)(v:Int)(Aw:s.size<=9223372036854775806)(h:Lib.atoiAll s.data.toList=.ok v)(aV:-9223372036854775808<=v)(E:v<=9223372036854775807)
  (aCE : Lib.TabIs Tryz.prog w "internal/strconv.uint64pow10" .u64 Lib.pow10Tab) :
  Calls Tryz.prog 108 #[.string s] w λe w'=>e=.returned (.tuple #[.int .i64 v,.bool (decide (s.size<=6)&&decide (0<=v)&&decide (Lib.itoa v=s.data.toList))])/\Below w.heap.size w w':=by
 go_enter Tryz.func108,Tryz.ntmps108;go_wp2_with fail;refine (Tryz.strconv_Atoi_ok s Aw v h w).mono ?_;rintro e cf ⟨rfl,n'⟩;have oc:Below w.heap.size w cf:=by
  rcases n' with rfl | ⟨t,rfl⟩
  ·exact Below.refl _ _
  ·exact Lib.bytesWorld_below w 5 t
 have aCF:=Tryz.aCC aCE oc;clear n';by_cases aM:(s.size:Int)<=6
 ·by_cases aS:v>=0
  ·go_wp2_with fail;refine (Any.strconv_Itoa Tryz.ahO v aV E cf aCF).mono ?_;rintro e dL ⟨rfl,k,os,rfl⟩;have w1:Below w.heap.size w (Go.Sort.grow (cf.drewN k) os):=oc.trans ⟨rfl,rfl,rfl,by show _<=(cf.heap++os).size;simp,λj aJ=>by
    have:=oc.size;show (cf.heap++os)[j]?=_;rw[Array.getElem?_append_left (by omega)]⟩
   generalize Go.Sort.grow (cf.drewN k) os=dL at w1;go_wp2;go_returns;refine⟨congrArg Ending.returned (congrArg Value.tuple ?_),w1⟩;show #[Value.int IntKind.i64 v,Value.bool (Lib.itoa v == s.toList)]=_;rw[Go.ByteArray.toList_eq,show decide (s.size<=6)=true from aPR (by omega),show decide (0<=v)=true from aPR aS,aQP,aQP,show (Lib.itoa v == s.data.toList)=decide (Lib.itoa v=s.data.toList) by rw[aQU];simp]
  ·go_wp2;go_returns;refine⟨congrArg Ending.returned (congrArg Value.tuple ?_),oc⟩;show #[Value.int IntKind.i64 v,Value.bool false]=_;rw[show decide (0<=v)=false from aP5 (by omega),Bool.and_false,aRg]
 ·go_wp2;go_returns;refine⟨congrArg Ending.returned (congrArg Value.tuple ?_),oc⟩;show #[Value.int IntKind.i64 v,Value.bool false]=_;rw[show decide (s.size<=6)=false from aP5 (by omega),aRg,aRg]
set_option maxHeartbeats 4000000 in
set_option maxRecDepth 1000000 in
theorem Tryz.aCG(s:ByteArray)(w:World)(vh:s.size<=281474976710656)(h:Lib.atoiAll s.data.toList=Lib.atoiAll [])(j9:Value)(ae:w.cell? ⟨1,0,none⟩=some j9)(r6:j9=.nilIface\/∃ nU oF,j9=.iface nU oF) :
  Calls Tryz.prog 108 #[.string s] w λe w'=>e=.returned (.tuple #[.int .i64 0,.bool false])/\Below w.heap.size w w':=by
 go_enter Tryz.func108,Tryz.ntmps108;go_wp2_with fail;refine (Tryz.strconv_Atoi_syntax s vh h j9 w ae r6).mono ?_;rintro e cf ⟨N,rfl,_,_,oc⟩;go_wp2;go_returns;exact⟨rfl,oc⟩
set_option maxHeartbeats 4000000 in
set_option maxRecDepth 1000000 in
theorem Tryz.aCH(s:ByteArray)(w:World)(vh:s.size<=281474976710656)(h:Lib.atoiAll s.data.toList=.range)(j9:Value)(ae:w.cell? ⟨2,0,none⟩=some j9)(r6:j9=.nilIface\/∃ nU oF,j9=.iface nU oF) :
  Calls Tryz.prog 108 #[.string s] w λe w'=>e=.returned (.tuple #[.int .i64 (Lib.atoiSat s.data.toList),.bool false])/\Below w.heap.size w w':=by
 go_enter Tryz.func108,Tryz.ntmps108;go_wp2_with fail;refine (Tryz.strconv_Atoi_range s vh h j9 w ae r6).mono ?_;rintro e cf ⟨N,rfl,_,_,oc⟩;go_wp2;go_returns;exact⟨rfl,oc⟩
end Go.Proofs
namespace Go.Fer.W
theorem ahZ:∀ (s:bn) (n:Int),0<=n->ie s n≠-1->n<=ie s n
 | [],n,_,_=>aPL _
 | c::s,n,h,E=>by
  unfold ie at E ⊢;split at E
  ·omega
  ·rename_i hc;rw[if_neg hc];simp  at hc;have:=ahZ s _ (by omega) E;omega
theorem V'(d:UInt8):∀ (s:bn) (n:Int),0<=n->ie (s++[d]) n=if ie s n=-1 then -1 else if (decide ((d.toNat:Int)<48)||decide ((d.toNat:Int) > 57))=true then -1 else 10*ie s n+((d.toNat:Int) - 48)
 | [],n,h=>by
  grind [ie]
 | c::s,n,h=>by
  rw[aRl];conv=>lhs;unfold ie
  by_cases hc:(decide ((c.toNat:Int)<48)||decide ((c.toNat:Int) > 57))=true
  ·grind [ie]
  ·rw[if_neg hc,show ie (c::s) n=ie s (10*n+(c.toNat - 48)) from (if_neg hc)];simp  at hc;exact V' d s _ (by omega)
theorem ah0(k:Nat)(h:k<10):((UInt8.ofNat (48+k)).toNat:Int)=48+k:=by
 grind [UInt8.toNat_ofNat']
theorem aCI(u:Nat):ie (Go.Lib.decDigits u) 0=u:=by
 induction u using Nat.strongRecOn with
 | _ u aO=>
  unfold Go.Lib.decDigits;grind [ah0,ie,V']
theorem aCJ(u:Nat):Go.Lib.decDigits u≠[]/\(1<(Go.Lib.decDigits u).length->((Go.Lib.decDigits u).getD 0 0).toNat≠48):=by
 induction u using Nat.strongRecOn with
 | _ u aO=>
  grind [Go.Lib.decDigits,ah0]
theorem aCK:∀ (n:Nat) (s:bn),s.length=n->s≠[]->(1<s.length->(s.getD 0 0).toNat≠48)->ie s 0≠-1->Go.Lib.decDigits (ie s 0).toNat=s:=by
 intro n;induction n with
 | zero=>simp
 | succ n aO=>
  intro s E L ak aZ;obtain⟨a,d,rfl⟩:∃ a d,s=a++[d]:=⟨s.dropLast,s.getLast L,(List.dropLast_concat_getLast L).symm⟩
  rw[V' _ _ _ (aPL _)]at aZ ⊢;split at aZ
  ·omega
  ·rename_i aW;split at aZ
   ·omega
   ·rename_i aw;simp  at aw;have aO_:UInt8.ofNat (48+(d.toNat - 48))=d:=by
     grind [UInt8.toNat_inj,UInt8.toNat_ofNat']
    by_cases aA:a=[]
    ·grind [ie,Go.Lib.decDigits_one]
    ·have df:(a.getD 0 0).toNat≠48:=by
      grind
     have aj:1<=ie a 0:=by
      cases a with
      | nil=>grind
      | cons c r=>
       unfold ie at aW ⊢;split at aW
       ·omega
       ·rename_i hc;rw[if_neg hc];simp  at hc;have aO':c.toNat≠48:=df;have:=ahZ r _ (by omega) aW;omega
     have aB:(10*ie a 0+(d.toNat - 48)).toNat / 10=(ie a 0).toNat:=by omega
     grind [Go.Lib.decDigits]
theorem aCL{s:bn}{v:Int}(h:Go.Lib.atoiAll s=.ok v):(decide (s.length<=6)&&decide (0<=v)&&decide (Go.Lib.itoa v=s))=decide (0<=gG s):=by
 rw[aQU];simp;constructor
 ·grind [Go.Lib.itoa,aCJ,gG,aCI]
 ·intro aA;have e:=V3 aA;obtain rfl:v=gG s:=by grind
  refine⟨⟨?_,aA⟩,?_⟩
  ·grind [gG]
  ·have e:Go.Lib.itoa (gG s)=Go.Lib.decDigits (gG s).toNat:=by grind [Go.Lib.itoa]
   rw[e];unfold gG at aA ⊢;split at aA
   ·omega
   ·rename_i U;rw[if_neg U];simp  at U;exact aCK _ s rfl (λe=>U.1.1 (by grind)) U.2 (by omega)
theorem ah1{s:bn}(h:∀ v,Go.Lib.atoiAll s≠.ok v):decide (0<=gG s)=false:=aP5 λaA=>h _ (V3 aA)
end Go.Fer.W
namespace Go.Fer.Sk
open Go Go.Proofs Go.RowKit
abbrev aCM:Code:=Tryz.f108.body.getD .skip
theorem aCN:hD Tryz.prog 108 .str (.au (.int .i64) .bool) W.IP.sh where
 enter:=q8 Tryz.func108 (show Tryz.f108.body=some aCM by kernel_rfl) (by kernel_rfl)
 ik:=λF w args x bm fq aW ay=>by
  change List UInt8 at x;have ay:x.length<=10000:=ay;obtain⟨rfl,ah⟩:=N7 aW;have U:=ahW x;have bA:=tB x;have fin:∀ (n:Int) (b:Bool) (w':World),gQ .i64 n->W.ui x=(n,b)->Below w.heap.size w w'->∃ v y,Ending.returned (.tuple #[.int .i64 n,.bool b])=.returned v/\(W.IP.sh x).a7 y/\tH Tryz.prog (.au (.int .i64) .bool) (wN F w w') w' v y/\Below w.heap.size w w':=λn b w' D he wm=>
   ⟨_,(n,b),rfl,he.symm,⟨[.int .i64 n,.bool b],rfl,z6.2 ⟨hO.2 ⟨rfl,D⟩,(pe rfl).2 ⟨_,rfl,gC.2 rfl⟩⟩⟩,wm⟩
  cases he:Lib.atoiAll x with
  | ok v=>
   have ae:=Lib.atoiAll_bounds he;refine (Tryz.aCD ⟨x.toArray⟩ w v (by rw[bA];omega) (by rw[U];exact he) ae.1 ae.2 (ahY fq)).mono ?_;rintro e w' ⟨rfl,wm⟩;refine fin v _ w' ae ?_ wm;rw[U,bA,W.aCL he];unfold W.ui W.wg;rw[he]
  | range=>
   obtain⟨_,j9,ae,r6⟩:=E2 fq (b:=2) (by decide);refine (Tryz.aCH ⟨x.toArray⟩ w (by rw[bA];omega) (by rw[U];exact he) j9 ae r6).mono ?_;rintro e w' ⟨rfl,wm⟩;rw[U]at *
   refine fin _ _ w' (Lib.atoiSat_bounds x) ?_ wm;unfold W.ui W.wg;rw[he,W.ah1 λv h=>by rw[he]at h;cases h]
  | _=>
   obtain⟨_,j9,ae,r6⟩:=E2 fq (b:=1) (by decide);refine (Tryz.aCG ⟨x.toArray⟩ w (by rw[bA];omega) (by rw[U];exact he) j9 ae r6).mono ?_;rintro e w' ⟨rfl,wm⟩;refine fin 0 _ w' (by decide) ?_ wm;unfold W.ui W.wg;rw[he,W.ah1 λv h=>by rw[he]at h;cases h]
end Go.Fer.Sk
namespace Go.Fer
open Go.RowKit
abbrev oA:V:=.int .i64
def Wa(x:z14'):M (z14'):=eF (x.1.length<4611686018427387904) (x.1.mergeSort (λa b=>decide (a<=b)),())
def si:cL:=⟨⟨[(0,.own 200001)],[(200001,.bl oA)]⟩,⟨[],[(200001,.bl oA)]⟩,[],1,Wa⟩
section
variable {P:Program} {F:Nat->Prop} {w:World}
variable {cs:Array Value}{off:Nat}{xs:z1'}
theorem ah2(h:nm P oA F w cs off xs){i:Nat}(G:i<xs.length):cs[off+i]?=some (.int .i64 xs[i])/\gQ .i64 xs[i]:=by
 obtain⟨bB,E,L,ak⟩:=h i G;subst L;have:=E 0 (by simp);refine⟨?_,ak⟩;have e:off+i*V.size oA+0=off+i:=by show off+i*1+0=off+i;omega
 rw[e]at this;exact this
theorem aCO(h:∀ i (h:i<xs.length),cs[off+i]?=some (.int .i64 xs[i])/\gQ .i64 xs[i]):nm P oA F w cs off xs:=λi G=>by
 obtain⟨E,L⟩:=h i G;refine⟨[.int .i64 xs[i]],λj aJ=>?_,rfl,L⟩;have aJ:j=0:=by simpa using aJ
 subst aJ;have e:off+i*V.size oA+0=off+i:=by show off+i*1+0=off+i;omega
 rw[e];exact E
theorem aCP{T:TypeId}{b:Nat}(U:w.heap[b]?=some (.cells cs T (0,0)))(h:nm P oA F w cs off xs):Go.Sort.Holds (Value.int .i64) w b off xs.toArray:=λj aJ=>by
 have gD:j<xs.length:=by simpa using aJ
 obtain⟨E,_⟩:=ah2 h gD;refine⟨?_,by simp[World.frozen?,U]⟩;simp only[World.cell?,U];simp only[Option.isSome_none,aml,aPA];rw[E];simp[gD]
theorem aCQ{br:z1'}(ah:br.length=xs.length)(a8:∀ y∈br,gQ .i64 y)(cI:off+xs.length<=cs.size):nm P oA F w (Go.Sort.putCells (Value.int .i64) off br.toArray cs) off br:=by
 refine aCO λi G=>⟨?_,a8 _ (amm G)⟩
 have E:off+i<cs.size:=by omega
 simp[Go.Sort.putCells,E,G]
end
section
variable {P:Program} {aP:dV}
theorem aCR{k:FuncId}(he:∀ args w,(callFunc k args).run P w=.ok (.enter k args) w)
    (E:∀ (aa off cap:Nat) (zs:z1') (w:World),Go.Sort.Holds (Value.int .i64) w aa off zs.toArray->aa<w.heap.size->zs.length<4611686018427387904->Calls P k #[.slice (some ⟨aa,off,none⟩) zs.length cap] w λe w'=>
      e=.returned (.tuple #[])/\∃ n os,w'=Go.Sort.grow (Go.Sort.putRow (Value.int .i64) (Go.Sort.ahead w n) aa off (zs.mergeSort λx y=>decide (x<=y)).toArray) os)
    (aV:∀ (p:Option Addr) (cap:Nat) (w:World),Calls P k #[.slice p 0 cap] w λe w'=>e=.returned (.tuple #[])/\w'=w):cW P aP k si where
  enter:=he
  ik C a w kap F A jU xr D aw rQ ve h ay:=by
    obtain⟨xs,u⟩:=A;have hlen:xs.length<4611686018427387904:=ay;have cI:a.tmps.size=1:=h.dX.trans rQ;have q1:=h.bX 0;have U:=h.bC 200001;change mu C.P _ kap F w (kap 200001) (.bl oA xs) at U;have ae:a.tmps.getD 0 undef=(kap 200001).slice xs.length:=q1.2 rfl rfl;have aW:a.tmps=#[(kap 200001).slice xs.length]:=by
      apply Array.ext (by simp[cI]);intro i G dR;have:i=0:=by omega
      subst this;rw[<-ae];simp[Array.getD,cI]
    have q7:∀ bk,bk=((xs.mergeSort (λx y=>decide (x<=y)),()):z14')->(si.sh (xs,u)).a7 bk:=λbk e=>e;have qi:∀ {w':World} {F':Nat->Prop} {br:z1'},bw C (aC.mk (si.cA.ad (xs,u)).az λi=>if i=200001 then ⟨0,.bl oA br⟩ else (si.cA.ad (xs,u)).aa i) a w' kap F'->bw { C with bV:=0 } (si.a7.ad (br,())) { tmps:=#[],defers:=[] } w' kap F':=λ{w' F' br} fs=>by
      have e:(si.a7.ad (br,())).aa=λi=>if i=200001 then (⟨0,.bl oA br⟩:b7) else (si.cA.ad (xs,u)).aa i:=by
        funext i;show eQ [(200001,b8.bl oA br)] i=if i=200001 then _ else eQ [(200001,b8.bl oA xs)] i
        simp only[eQ];by_cases G:i=200001
        · rw[if_pos G,if_pos G]
        · rw[if_neg G,if_neg G,if_neg G]
      refine { dX := rfl, dj := aw.symm, bX := λi => trivial, bC := λb => ?_, own := λb => ?_, inj := λb bf => ?_, dr := fs.dr, hQ := fs.hQ, iq := fs.iq, ir := fs.ir, e2 := fs.e2, size := fs.size, eN := fs.eN, hE := aPK _, k8 := fs.k8, iY := λb r => ?_, k9 := fs.k9, jB := λb k => ?_, e7 := λl aI ab n ad e => (by cases e), bQ := λaY m hm => (by
        have hm:(eQ [(200001,b8.bl oA br)] 140000).body=.bQ aY m:=hm;simp[eQ]at hm),j2:=fs.j2,hW:=fs.hW }
      · rw[e];exact fs.bC b
      · rw[e];exact fs.own b
      · rw[e];exact fs.inj b bf
      · rw[e];exact fs.iY b r
      · rw[e];exact fs.jB b k
    subst jU;rw[aW];by_cases aA:(kap 200001).fT=true
    · have ao:xs=[]:=U.1 aA
      subst ao
      have jR:(kap 200001).slice 0=.slice none 0 0:=by simp[bI.slice,aA]
      rw[show ([]:z1').length=0 from rfl,jR]
      refine (aV none 0 w).mono ?_
      rintro e w' ⟨rfl,rfl⟩
      refine⟨_,([],()),[],kap,F,rfl,q7 _ (congrArg (λl=>(l,())) List.mergeSort_nil.symm),⟨[],rfl,rfl,rfl⟩,qi ?_⟩
      have e:(λi=>if i=200001 then (⟨0,.bl oA []⟩:b7) else (si.cA.ad ([],u)).aa i)=(si.cA.ad ([],u)).aa:=by
        funext i;by_cases G:i=200001
        · subst G;rfl
        · rw[if_neg G]
      rw[e]
      exact h
    · have aA:(kap 200001).fT=false:=by simpa using aA
      obtain⟨cs,T,cY,fe,iV,u6,JJ⟩:=U.2 aA
      have eJ:((si.cA.ad (xs,u)).aa 200001).body.cd (kap 200001)=true:=by show (!(kap 200001).fT)=true;rw[aA];rfl
      have ar:=h.own 200001 eJ
      have jR:(kap 200001).slice xs.length=.slice (some ⟨(kap 200001).aa,(kap 200001).off,none⟩) xs.length (kap 200001).cap:=by simp[bI.slice,aA]
      rw[jR]
      refine (E (kap 200001).aa (kap 200001).off (kap 200001).cap xs w (aCP cY JJ) ar.1 hlen).mono ?_
      rintro e w' ⟨rfl,n,os,rfl⟩
      have aj:(xs.mergeSort λx y=>decide (x<=y)).Perm xs:=List.mergeSort_perm _ _
      generalize l7:(xs.mergeSort λx y=>decide (x<=y))=br at aj q7
      have Qc:br.length=xs.length:=aj.length_eq
      have PN:(kap 200001).off+xs.length<=cs.size:=by
        have:(kap 200001).cap*V.size oA=(kap 200001).cap:=Nat.mul_one _;omega
      have a8:∀ y∈br,gQ .i64 y:=λy a_=>by
        have:=aj.mem_iff.1 a_;obtain⟨i,G,rfl⟩:=List.getElem_of_mem this;exact (ah2 JJ G).2
      have aCS:(Go.Sort.putRow (Value.int .i64) (Go.Sort.ahead w n) (kap 200001).aa (kap 200001).off br.toArray).heap[(kap 200001).aa]?=some (.cells (Go.Sort.putCells (Value.int .i64) (kap 200001).off br.toArray cs) T (0,0)):=by
        simp[Go.Sort.putRow,Go.Sort.mapBlock,Go.Sort.ahead,Array.getElem?_modify,cY,Go.Sort.onCells]
      have wJ:bw C ((si.cA.ad (xs,u)).cn 200001 ⟨0,.bl oA br⟩) a (Go.Sort.putRow (Value.int .i64) (Go.Sort.ahead w n) (kap 200001).aa (kap 200001).off br.toArray) kap F:=by
        refine h.qL (b:=200001) (x:=⟨0,.bl oA br⟩) eJ ?_ ?_ nofun nofun (λr D=>?_) (by simp[Go.Sort.putRow,Go.Sort.mapBlock,Go.Sort.ahead]) ⟨rfl,rfl,rfl⟩ (λH po kn my=>⟨λhc=>absurd (aA.symm.trans hc) nofun,λ_=>?_⟩)
        · show (!(kap 200001).fT)=true;rw[aA];rfl
        · intro b
          by_cases U:b=200001
          · subst U
            exact⟨amo _,λ_=>⟨nofun,λ_=>⟨rfl,rfl,Qc,rfl⟩,nofun,nofun⟩⟩
          · show tM _ (if b=200001 then _ else _) _ _
            rw[if_neg U]
            exact tM.refl _ _
        · simp[Go.Sort.putRow,Go.Sort.mapBlock,Go.Sort.ahead,Array.getElem?_modify,Ne.symm D]
        · refine⟨_,T,aCS,?_,?_,u6,aCQ Qc a8 PN⟩
          · simpa [Go.Sort.putCells]using fe
          · show br.length<=_
            omega
      refine⟨_,(br,()),[],kap,_,rfl,q7 _ rfl,⟨[],rfl,rfl,rfl⟩,qi (wJ.grow ?_)⟩
      refine⟨rfl,rfl,rfl,by simp[Go.Sort.grow],λk an=>?_⟩
      simp only[Go.Sort.grow]
      rw[Array.getElem?_append_left an]
end
end Go.Fer
namespace Go.Fer
open Go.RowKit
def aCT(e:V)(x:z22'):M (List e.al×Unit):=eF (0<=x.1/\x.1<60000) ([],())
def x0(e:V):cL:=⟨⟨[(0,.dW),(1,.val (.int .i64))],[]⟩,⟨[(0,.own 50000)],[(50000,.bl e)]⟩,[none],2,aCT e⟩
section
variable {P:Program} {aP:dV} {e:V}
theorem ah3{C:cF}{a:Act}{w w':World}{kap:Nat->bI}{F:Nat->Prop}{A:(x0 e).cA.al}(h:bw C ((x0 e).cA.ad A) a w kap F)(aw:C.dj=[]){kb:bI}{v:Value}
  (ae:v=kb.slice 0) (cI:w.heap.size<=w'.heap.size) (hw:∀ r,r<w.heap.size->w'.heap[r]?=w.heap[r]?) (hc:dM w w') (l_:kb.fT=false->kb.aa=w.heap.size/\w.heap.size<w'.heap.size)
  (aX:kb.fT=false->∃ cs T,w'.heap[kb.aa]?=some (.cells cs T (0,0))/\kb.off+kb.cap*e.size<=cs.size/\kb.cap<2 ^ 63/\wP C.P e T) :
  bw { C with bV:=1 } ((x0 e).a7.ad ([],())) { tmps:=#[v],defers:=[] } w' (λi=>if i=50000 then kb else kap i) F:=by
 have U:∀ b,((x0 e).a7.ad ([],())).aa b=if b=50000 then ⟨0,.bl e []⟩ else ⟨0,.ey⟩:=λb=>rfl
 have aW:∀ b,b≠50000->((x0 e).a7.ad ([],())).aa b=⟨0,.ey⟩:=λb aA=>by rw[U,if_neg aA]
 have bP:((x0 e).a7.ad ([],())).aa 50000=⟨0,.bl e []⟩:=rfl;have eJ:∀ b,(((x0 e).a7.ad ([],())).aa b).body.cd (if b=50000 then kb else kap b)=true->b=50000/\kb.fT=false:=λb ar=>by
  by_cases e:b=50000
  ·subst e;rw[bP,if_pos rfl]at ar;exact⟨rfl,by simpa [b8.cd]using ar⟩
  ·rw[aW b e]at ar;cases ar
 refine { dX:=rfl,dj:=aw.symm,bX:=λi=>?_,bC:=λb=>?_,own:=λb ar=>?_,inj:=λb bf E L _=>?_,dr:=λr D=>aPB (h.dr r D) cI,hQ:=h.hQ,iq:=h.iq,ir:=h.ir,e2:=λr D=>?_,size:=aPG h.size cI,eN:=h.eN.trans hc,hE:=(by unfold fE;exact (by decide:1<=100000)),k8:=h.k8,iY:=λb r D ky=>?_,k9:=h.k9,jB:=λb k an _ G=>?_,e7:=λl aI ab n ad e=>(by cases e),bQ:=λaY m hm=>(by rw[aW cx (by decide)]at hm;cases hm),j2:=h.j2,hW:=h.hW.mono (λ_ h=>h) ⟨cI,λr D=>hw r (h.dr r D)⟩ }
 ·by_cases G:i=0
  ·subst G;refine⟨⟨amo _,?_⟩,λ_ _=>?_⟩
   ·show v.oneCell'=true;rw[ae];unfold bI.slice;split<;>rfl
   ·show v=_;rw[ae];show kb.slice 0=(if (50000:Nat)=50000 then kb else kap 50000).slice 0;rw[if_pos rfl]
  ·have:((x0 e).a7.ad ([],())).az i=.undef:=by
    show fi [(0,aL.own 50000 0)] i=.undef;simp[fi,G]
   rw[this];trivial
 ·unfold c7;by_cases aB:b=50000
  ·subst aB;rw[bP];show mu _ _ _ _ _ (if (50000:Nat)=50000 then kb else kap 50000) (.bl e []);rw[if_pos rfl];refine⟨λ_=>rfl,λaA=>?_⟩;obtain⟨cs,T,E,L,ak,aZ⟩:=aX aA;exact⟨cs,T,E,L,aPK _,⟨ak,aZ⟩,λi G=>absurd G (Nat.not_lt_zero _)⟩
  ·rw[aW b aB];trivial
 ·obtain⟨rfl,aA⟩:=eJ b ar;obtain⟨E,L⟩:=l_ aA;rw[if_pos rfl,E];refine⟨L,λax=>?_,λan=>?_⟩
  ·have:=h.dr _ ax;omega
  ·have:=h.ir _ an;have:=h.size;omega
 ·rw[(eJ b E).1,(eJ bf L).1]
 ·have E:=h.ir r D;rw[hw r (aPB E h.size)];exact h.e2 r D
 ·by_cases aB:b=50000
  ·subst aB;rw[bP]at ky;rcases ky with h | h<;>cases h
  ·rw[aW b aB]at ky;rcases ky with h | h<;>cases h
 ·by_cases aB:b=50000
  ·subst aB;have:=h.k9 _ _ an;unfold yh at this;omega
  ·rw[aW b aB]at G;cases G
theorem ah4{k:FuncId}(he:∀ args w,(callFunc k args).run P w=.ok (.enter k args) w)
  (aV:∀ w:World,Calls P k #[.slice none 0 0,.int .i64 0] w λe w'=>e=.returned (.slice none 0 0)/\w'=w)
  (E:∀ (n:Nat) (w:World),0<n->n<60000->Calls P k #[.slice none 0 0,.int .i64 (n:Int)] w λy w'=>∃ (cq:Nat) (T:TypeId) (cs:Array Value),y=.returned (.slice (some ⟨w.heap.size,0,none⟩) 0 cq)/\
   w'=w.drew.alloc (.cells cs T)/\cq<2 ^ 63/\cq*e.size<=cs.size/\wP P e T):cW P aP k (x0 e) where
 enter:=he
 ik C a w kap F A jU xr D aw rQ ve h ay:=by
  obtain⟨n,u⟩:=A;change Int at n;obtain⟨yw,w0⟩:0<=n/\n<60000:=ay;have cI:a.tmps.size=2:=h.dX.trans rQ;have aCU:a.tmps.getD 0 undef=.slice none 0 0:=h.bX 0;have rA:a.tmps.getD 1 undef=.int .i64 n:=(hO.1 (h.bX 1)).1;have aW:a.tmps=#[.slice none 0 0,.int .i64 n]:=by
   apply Array.ext (by simp[cI]);intro i G dR;have:i=0\/i=1:=by omega
   rcases this with rfl | rfl
   ·rw[<-aCU];simp[Array.getD,cI]
   ·rw[<-rA];simp[Array.getD,cI]
  subst jU;rw[aW];by_cases bA:n=0
  ·subst bA;refine (aV w).mono ?_;rintro y w' ⟨rfl,rfl⟩;refine⟨_,([],()),[.slice none 0 0],_,F,rfl,rfl,⟨[.slice none 0 0],rfl,rfl,[],rfl,rfl⟩,ah3 h aw (kb:=⟨0,0,0,true⟩) rfl (amo _) (λ_ _=>rfl) (dM.refl _) nofun nofun⟩
  ·obtain⟨m,rfl⟩:∃ m:Nat,n=m:=⟨n.toNat,by omega⟩
   refine (E m w (by omega) (by omega)).mono ?_;rintro y w' ⟨cq,T,cs,rfl,rfl,fq,qO,aT⟩;refine⟨_,([],()),[.slice (some ⟨w.heap.size,0,none⟩) 0 cq],_,F,rfl,rfl,⟨[_],rfl,rfl,[],rfl,rfl⟩,ah3 h aw (kb:=⟨w.heap.size,0,cq,false⟩) rfl (by simp) (λr D=>?_) ⟨rfl,rfl,rfl⟩ (λ_=>⟨rfl,by simp⟩) (λ_=>⟨cs,T,?_,by simpa using qO,fq,aT⟩)⟩
   ·exact rz w.drew _ D
   ·show (w.drew.heap.push _)[w.heap.size]?=_;exact Array.getElem?_push_size
theorem ah5{rho:Go.Shelf.Ren}(ab:Go.Proofs.Lays8.n4 P rho)(w:World):Calls P (rho.f 4) #[.slice none 0 0,.int .i64 0] w λe w'=>e=.returned (.slice none 0 0)/\w'=w:=
 Go.Proofs.Any8.slices_Grow_room ab none 0 0 0 w (amo _) (by decide) (by decide) (amo _)
theorem ah6{rho:Go.Shelf.Ren}(ab:Go.Proofs.Lays8.n4 P rho)(aG:cv P e (rho.t 25))(ay:e.size≠0)(n:Nat)(w:World)(aV:0<n)(E:n<60000) :
  Calls P (rho.f 4) #[.slice none 0 0,.int .i64 (n:Int)] w λy w'=>∃ (cq:Nat) (T:TypeId) (cs:Array Value),y=.returned (.slice (some ⟨w.heap.size,0,none⟩) 0 cq)/\w'=w.drew.alloc (.cells cs T)/\cq<2 ^ 63/\cq*e.size<=cs.size/\wP P e T:=by
 obtain⟨i0,z,sL,cI,U,ag4,aCV,_⟩:=nq aG.np;have oW:0<i0.size:=by omega
 have w6:=(F6 (P:=P) e aCV).2;refine (Go.Proofs.Any8.slices_Grow_grow ab i0 z sL ag4 oW none 0 0 n [] w (amo _) (by omega) ?_ (by omega) (by simp) (λ_=>rfl) nofun).mono ?_
 ·have:(0+n)*i0.bytes<=(0+n)*1024:=Nat.mul_le_mul_left _ U;omega
 ·rintro y w' ⟨rfl,rfl⟩;refine⟨_,_,_,rfl,rfl,?_,?_,aG.J'⟩
  ·have:=grownCap_le_maxLen w (0+n) 0 (rho.t 25) (by unfold maxLen;omega);unfold maxLen at this;omega
  ·have:=grownCap_ge w (0+n) 0 (rho.t 25);generalize grownCap w (0+n) 0 (rho.t 25)=cq at this;simp only[Array.size_append,size_zeroCells,w6];have aB:(0+n - 0)*e.size+(cq - (0+n))*e.size=cq*e.size:=by rw[<-aP'];congr 1;omega
   have bt:(#[]:Array Value).size=0:=rfl;omega
end
end Go.Fer
namespace Go.Fer.Sk
open Go.Proofs
def IW(aP:dV)(c:cL)(sh:Nat->c.cA.al->M c.a7.al):List Nat->Prop
 | []=>True
 | k::l=>cW Tryz.prog aP k { c with sh:=sh k }/\IW aP c sh l
theorem IW.mem{aP:dV}{c:cL}{sh:Nat->c.cA.al->M c.a7.al}:∀ {l:List Nat},IW aP c sh l->∀ k∈l,cW Tryz.prog aP k { c with sh:=sh k }
 | [],_,k,h=>by cases h
 | j::l,h,k,an=>by
  rcases List.mem_cons.1 an with rfl | an
  ·exact h.1
  ·exact IW.mem h.2 k an
theorem Ca{k:Nat}{e:V}{f:List e.al×Unit->M (List e.al×Unit)}{sh:(V.slice e).al->M (V.slice e).al}(h:cW Tryz.prog dT k ⟨⟨[(0,.val (.slice e))],[]⟩,⟨[(0,.own 60)],[(60,.bl e)]⟩,[none],1,f⟩)
  (aj:∀ x:List e.al,(sh x).fm->(f (x,())).fm/\∀ bk,(f (x,())).a7 bk->bk.1=(sh x).val (V.slice e).dU):p7 (jH.mB ⟨.slice e,.slice e,sh,true⟩).aR=true/\Gh Tryz.prog k (jH.mB ⟨.slice e,.slice e,sh,true⟩):=
 atB (by simp) h ln (b0:=60) (λx=>(x,())) (λx=>rfl) rfl (by show 1<=fE;decide) rfl (λbk=>bk.1) (λbk=>⟨rfl,rfl⟩) aj
abbrev aCW:Code:=Tryz.f166.body.getD .skip
theorem aCX(aP:dV):cW Tryz.prog aP 166 si:=
 aCR (q8 Tryz.func166 (show Tryz.f166.body=some aCW by kernel_rfl) (by kernel_rfl)) (λaa off cap zs w E L ak=>calls_of_every_depth λcr=>AnyS.slices_Sort_int_in Tryz.ahP cr aa off cap zs w E L ak)
  λp cap w=>Any.slices_Sort_int_none Tryz.ahP p cap w
theorem aCY:Wa=H.D6:=by
 funext x;unfold Wa H.D6;rw[show x.1.mergeSort (λa b=>decide (a<=b))=H.hf H.jq x.1 from (H.D4 ((List.pairwise_mergeSort (le:=λa b:Int=>decide (a<=b)) (λa b c E L=>by simp at E L ⊢;omega) (λa b=>by simp;omega) x.1).imp λh=>by simpa using h) (List.mergeSort_perm _ _).symm).symm]
def Wb:cL:=⟨⟨[(0,.own 200001)],[(200001,.bl cX)]⟩,⟨[],[(200001,.bl cX)]⟩,[],1,H.D6⟩
theorem ah7:cW Tryz.prog dT 166 Wb:=by
 have:=aCX dT;unfold si at this;rw[aCY]at this;exact this
abbrev aCZ:Code:=Tryz.f243.body.getD .skip
abbrev aC0:Code:=Tryz.f242.body.getD .skip
def ah8:cL:=⟨⟨[(0,.dW),(1,.val cX)],[]⟩,⟨[(0,.own 50000)],[(50000,.bl cX)]⟩,[none],2,H.NA⟩
def ah9:cL:=⟨⟨[(0,.dW),(1,.val cX)],[]⟩,⟨[(0,.own 50000)],[(50000,.bl H.ja)]⟩,[none],2,H.NB⟩
theorem aC1:cW Tryz.prog dT 243 ah8:=
 ah4 (e:=cX) (q8 Tryz.func243 (show Tryz.f243.body=some aCZ by kernel_rfl) (by kernel_rfl)) (ah5 Tryz.ahT) (ah6 Tryz.ahT (qq.cB (id:=3) rfl (by decide)) (by decide))
theorem aC2:cW Tryz.prog dT 242 ah9:=
 ah4 (e:=H.ja) (q8 Tryz.func242 (show Tryz.f242.body=some aC0 by kernel_rfl) (by kernel_rfl)) (ah5 Tryz.ahU) (ah6 Tryz.ahU (qq.cB (id:=116) rfl (by decide)) (by decide))
def dx:=atz.cons (n:=107) (c:=W.NT.dI) ⟨aCu,λ_ _=>rW⟩
def ec:=dx.cons (n:=189) (c:=W.NL.dI) ⟨aCy,λ_ _=>rW⟩
def jF:=ec.cons (n:=247) (c:=W.IM.dI) ⟨aCA,λ_ _=>rW⟩
def aC3:=jF.cons (n:=108) (c:=W.IP.dI) ⟨aCN,λ_ _=>rW⟩
end Go.Fer.Sk
namespace Go.Proofs
open Go.RowKit
def Tryz.Cb(b:UInt8):Bool:=decide (32<=b.toNat)&&decide (b.toNat<=126)
def Tryz.uT(s:ByteArray)(pos:Nat):Prop:=∀ i,(h:i<s.size)->pos<=i->Tryz.Cb (s[i]'h)=true
theorem Tryz.aC4(s:ByteArray)(pos:Nat)(h:pos<s.size):Tryz.uT s pos<->Tryz.Cb (s[pos]'h)=true/\Tryz.uT s (pos+1):=by
 constructor
 ·intro k;exact⟨k pos h (amo _),λi G aj=>k i G (by omega)⟩
 ·rintro⟨aM,aS⟩ i G aj;by_cases e:i=pos
  ·subst e;exact aM
  ·exact aS i G (by omega)
theorem Tryz.ah_{w:World}{k:Nat}{s:ByteArray}{p:Nat}(h:w.heap[k]?=some (.stringIter s p)):w.iterPos k=p:=by simp[World.iterPos,h]
open Classical in
set_option maxHeartbeats 4000000 in
set_option maxRecDepth 1000000 in
theorem Tryz.aC5(s:ByteArray)(w:World) :
  Calls Tryz.prog 39 #[.string s] w λe w'=>e=.returned (.bool (decide (Tryz.uT s 0)))/\Below w.heap.size w w':=by
 go_enter Tryz.func39,Tryz.ntmps39;go_wp2;go_loopw [] (λwr=>∃ (pos:Nat),wr.heap[w.heap.size]?=some (.stringIter s pos)/\Below w.heap.size w wr/\(Tryz.uT s pos<->Tryz.uT s 0)) (λwr=>s.size - wr.iterPos w.heap.size);case atStart=>exact⟨0,World.iter_heap w s 0,(Below.refl _ _).alloc (amo _) _,Iff.rfl⟩
 case round=>
  obtain⟨pos,hit,wm,b5⟩:=hrel;have aC6:=Tryz.ah_ hit;by_cases aj:pos<s.size
  ·have bc:∀ ty,(Instr.next (.pointer (some ⟨w.heap.size,0,none⟩)) true ty).run Tryz.prog wr=_:=λty=>Lib.run_next_any_at wr w.heap.size s pos ty hit aj;have N8:=Lib.iterAt_heap wr w.heap.size s pos (pos+(Utf8.decode s pos).2) hit;have E3:=Lib.below_iterAt wm (k:=w.heap.size) (amo _) s (pos+(Utf8.decode s pos).2);have hs:=Tryz.aC4 s pos aj;by_cases aW:(s[pos]'aj).toNat<128
   ·rw[decode_ascii s pos aj aW]at bc N8 E3;simp only at bc N8 E3;obtain⟨n,aA⟩:∃ n,n=(s[pos]'aj).toNat:=⟨_,rfl⟩
    have U:Tryz.Cb (s[pos]'aj)=(decide (32<=n)&&decide (n<=126)):=by rw[aA];rfl
    rw[<-aA]at bc aW;by_cases E:(n:Int)<32
    ·have h_:decide (Tryz.uT s 0)=false:=by
      rw[aPT,<-b5,hs,U];simp;omega
     go_wp2;go_ret;exact⟨rfl,E3⟩
    ·by_cases L:(n:Int) > 126
     ·have h_:decide (Tryz.uT s 0)=false:=by
       rw[aPT,<-b5,hs,U];simp;omega
      go_wp2;go_ret;exact⟨rfl,E3⟩
     ·go_wp2;go_roundw;case rel=>
       refine⟨pos+1,N8,E3,?_⟩;rw[<-b5,hs,U];have:(decide (32<=n)&&decide (n<=126))=true:=by simp;omega
       simp[this]
      case measure=>rw[Tryz.ah_ N8,aC6];omega
   ·obtain⟨d1,d2⟩:=decode_high s pos aj (by omega);obtain⟨n,aA⟩:∃ n,n=(Utf8.decode s pos).1:=⟨_,rfl⟩
    rw[<-aA]at bc d1;have E:¬(n:Int)<32:=by omega
    have L:(n:Int) > 126:=by omega
    have h_:decide (Tryz.uT s 0)=false:=by
     rw[aPT,<-b5,hs];unfold Tryz.Cb;simp;omega
    go_wp2;go_ret;exact⟨rfl,E3⟩
  ·have bc:∀ ty,(Instr.next (.pointer (some ⟨w.heap.size,0,none⟩)) true ty).run Tryz.prog wr=_:=λty=>Lib.run_next_end_at wr w.heap.size s pos ty hit aj;have aC7:decide (Tryz.uT s 0)=true:=by
    rw[aP2,<-b5];intro i G GV;omega
   go_wp2;go_ret;exact⟨by rw[aC7];rfl,wm⟩
end Go.Proofs
namespace Go.Fer
open Go.RowKit Go.Proofs Go.Shelf
abbrev IX(n:Nat):V:=.ad (.au (.bM (.array n .dh)) (.slice (.int .u8)))
def ah'(n:Nat):List (Nat×b'):=[(100001,.cells (IX n) [.hP 100001,.own 100002]),(100002,.bl (.int .u8))]
def N9(n:Nat):cL:=⟨⟨[(0,.eY 100001 0)],ah' n⟩,⟨[],ah' n⟩,[],1,λA=>mpure A⟩
theorem aC8{P:Program}{rho:Ren}(ab:Lays.n240 P rho)(X:Builder.X72 P rho){aP:dV}{n:Nat}(aA:P.underlying n=some (.pointer (rho.t 72)))(he:∀ args w,(callFunc (rho.f 240) args).run P w=.ok (.enter (rho.f 240) args) w):cW P aP (rho.f 240) (N9 n) where
  enter:=he
  ik C a w kap F A jU xr D aw rQ ve h ay:=by
    obtain⟨xs,u⟩:=A;have cI:a.tmps.size=1:=h.dX.trans rQ;have q1:=h.bX 0;have U:=h.bC 100001;let ad:=(N9 n).cA.ad (xs,u);change mu C.P ad.aa kap F w (kap 100001) (.cells (IX n) (hX [.hP 100001 0,.own 100002 0])) at U;have ae:a.tmps.getD 0 undef=.pointer (some ⟨(kap 100001).aa,0,none⟩):=q1.2 rfl rfl;have aW:a.tmps=#[.pointer (some ⟨(kap 100001).aa,0,none⟩)]:=by
      apply Array.ext (by omega);simp_all
    have qi:∀ {w':World},bw C ad a w' kap F->bw { C with bV:=0 } ((N9 n).a7.ad (xs,u)) { tmps:=#[],defers:=[] } w' kap F:=λ{w'} fs=>by
      refine { dX := rfl, dj := aw.symm, bX := λi => trivial, bC := λb => fs.bC b, own := λb => fs.own b, inj := λb bf => fs.inj b bf, dr := fs.dr, hQ := fs.hQ, iq := fs.iq, ir := fs.ir, e2 := fs.e2, size := fs.size, eN := fs.eN, hE := aPK _, k8 := fs.k8, iY := λb r => fs.iY b r, k9 := fs.k9, jB := λb k => fs.jB b k, e7 := λl aI ab n ad e => (by cases e), bQ := λaY m hm => (by
        have hm:(eQ [(100001,b8.cells (IX n) (hX [.hP 100001 0,.own 100002 0])),(100002,b8.bl (.int .u8) xs)] 140000).body=.bQ aY m:=hm;simp[eQ]at hm),j2:=fs.j2,hW:=fs.hW }
    obtain⟨cs,T,bE,⟨c2,c3⟩,c4⟩:=U;have aT:T=rho.t 72:=by
      have E:=c3 n _ rfl;grind
    have c2:cs.size=2:=c2;have oM:w.cell? ⟨(kap 100001).aa,0,none⟩=some (cs.getD 0 undef):=by
      simp[World.cell?,bE,c2]
    have iC:=(c4 0 (by omega)).1;have iC:=iC.2 rfl rfl;rw[aW];rcases iC with iC | iC
    · refine (Any.Builder_copyCheck_fresh ab X _ w (oM.trans (congrArg some iC)) (by grind [World.shape?]) (by grind [World.frozen?])).mono ?_
      rintro e w' ⟨rfl,rfl⟩
      refine⟨_,(xs,u),[],kap,F,rfl,rfl,⟨[],rfl,rfl,rfl⟩,qi ?_⟩
      have hw:=h.qL (b:=100001) (x:=⟨0,.cells (IX n) (hX [.hP 100001 0,.own 100002 0])⟩) (w':=w.setCell ⟨(kap 100001).aa,0,none⟩ (.pointer (some ⟨(kap 100001).aa,0,none⟩))) rfl rfl
        (pf rfl (λ_=>rfl) (λh=>by cases h) (λh=>by cases h) (λh=>by cases h)) (λ_=>rfl) (λh=>by cases h)
        (λr D=>by grind [World.setCell]) (by simp) ⟨rfl,rfl,rfl⟩ (λH po dk he=>?_)
      · have e:(aC.cn ((N9 n).cA.ad (xs,u)) 100001 ⟨0,.cells (IX n) (hX [.hP 100001 0,.own 100002 0])⟩)=ad:=by
          show aC.mk _ _=aC.mk _ _;congr 1;funext i;by_cases G:i=100001
          · subst G;rfl
          · rw[if_neg G];rfl
        grind
      · refine⟨cs.setIfInBounds 0 (.pointer (some ⟨(kap 100001).aa,0,none⟩)),T,?_,⟨by grind,c3⟩,λi G=>?_⟩
        · grind [World.setCell]
        · rcases aQD i 1 with aV | aV
          · obtain rfl:i=0:=by omega
            have bL:(cs.setIfInBounds 0 (.pointer (some ⟨(kap 100001).aa,0,none⟩))).getD 0 undef=.pointer (some ⟨(kap 100001).aa,0,none⟩):=by simp_all
            rw[bL]
            exact⟨⟨⟨aPK _,rfl⟩,λ_ _=>.inr rfl⟩,rfl⟩
          · have bL:(cs.setIfInBounds 0 (.pointer (some ⟨(kap 100001).aa,0,none⟩))).getD 1 undef=cs.getD 1 undef:=by simp
            grind [bJ.later]
    · refine (Any.Builder_copyCheck_used ab X _ w (oM.trans (congrArg some iC))).mono ?_
      rintro e w' ⟨rfl,rfl⟩
      exact⟨_,(xs,u),[],kap,F,rfl,rfl,⟨[],rfl,rfl,rfl⟩,qi h⟩
end Go.Fer
namespace Go.Fer
open Go.RowKit
theorem aC9{P:Program}{aP:dV}{k:FuncId}{ts e:V}(uv:ts≠.dh)(he:e.pure=true){c:cL}(h:cW P aP k c)(iM:qI P aP){sh:ts.al->M (List e.al)}{b0:Nat}(mk:ts.al->c.cA.al)
    (S_:∀ x,c.cA.ad (mk x)=⟨fi ((List.range (jS ts)).map λi=>(i,kc ts x i)),λ_=>⟨0,.ey⟩⟩) (aA:c.kU=jS ts) (jj:c.kU<=fE) (S':c.lh=[none]) (val:c.a7.al->List e.al) (q7:∀ bk,(c.a7.ad bk).az 0=.own b0 0/\(c.a7.ad bk).aa b0=⟨0,.bl e (val bk)⟩)
    (l8:∀ x,(sh x).fm->(c.sh (mk x)).fm/\∀ bk,(c.sh (mk x)).a7 bk->(sh x).a7 (val bk)):hD P k ts (.slice e) sh/\FG P k ts (.slice e) sh:=by
  have key:∀ (F:Nat->Prop) (w:World) (args:List Value) (x:ts.al),(∀ r,F r->r<w.heap.size)->pd P F w->gv P ts F w args x->(sh x).fm->
      Calls P k args.toArray w λaY w'=>∃ (v:Value) (y:(V.slice e).al),aY=.returned v/\(sh x).a7 y/\tH P (.slice e) (λr=>w.heap.size<=r/\r<w'.heap.size) w' v y/\Below w.heap.size w w':=by
    intro F w args x bm fq fA ay;obtain⟨ka,Dz⟩:=vj (H:=λ_=>⟨0,.ey⟩) (kap:=λ_=>⟨0,0,0,false⟩) ts fA uv;let C:cF:={ P:=P,ep:=w,jA:=F,K0:=λr=>r<w.heap.size,bV:=c.kU,r:=none,dj:=[],j':=λ_=>none,cG:=⟨0,.dh,λ_=>False,λ_ _ _ _ _=>False⟩,aU:=aP }
    have uq:∀ i,fi ((List.range (jS ts)).map λi=>(i,kc ts x i)) i=.undef\/(i<jS ts/\fi ((List.range (jS ts)).map λi=>(i,kc ts x i)) i=kc ts x i):=λi=>by
      rcases SH (l:=(List.range (jS ts)).map λi=>(i,kc ts x i)) (i:=i) with e | e
      · exact .inl e
      · refine .inr ?_
        generalize bA:fi ((List.range (jS ts)).map λi=>(i,kc ts x i)) i=z at e
        simp only[aQ5,aRf,aPD]at e
        obtain⟨j,aJ,rfl,rfl⟩:=e
        exact⟨aJ,rfl⟩
    have D:bw C (c.cA.ad (mk x)) { tmps:=args.toArray,defers:=[] } w (λ_=>⟨0,0,0,false⟩) F:=by
      rw[S_];refine { dX := ?_, dj := rfl, bX := λi => ?_, bC := λb => trivial, own := λb U => (by cases U), inj := λb bf U _ _ => (by cases U), dr := bm, hQ := λr D => .inl D, iq := λr D => D, ir := λr D => D, e2 := λr _ => rfl, size := amo _, eN := dM.refl w,hE:=jj,k8:=λb r h=>(by grind),iY:=λb r h=>(by grind),k9:=λb k h=>(by grind),jB:=λb k h=>(by grind),e7:=λl aI ab n ad e=>?_,bQ:=λe m hm=>(by grind),j2:=iM,hW:=fq }
      · grind
      · rcases uq i with e | ⟨G,e⟩
        · grind [bJ]
        · show bJ _ _ _ _ _ (fi _ i) _
          rw[e]
          have:=Dz i G
          simpa  using this
      grind [ca,fE]
    obtain⟨G3,ps⟩:=l8 x ay;refine (h.ik C _ w _ F (mk x) rfl rfl rfl rfl rfl rfl D G3).mono λaY w' ⟨v,bk,aH,bR,F',z1,gN,uu,bj⟩=>?_;obtain⟨Ta,xx⟩:=q7 bk;rw[S']at uu;obtain⟨us,nv,GX,A8⟩:=uu;obtain⟨u,rfl⟩:∃ u,us=[u]:=by
      cases us<;>grind
    obtain⟨tI,L_,aPa⟩:=A8;have ae:v=u:=by grind
    have fH:=bj.bX 0;rw[Ta]at fH;have DV:u=(bR b0).slice ((c.a7.ad bk).aa b0).body.len:=by
      have:=fH.2 (by grind) (by rw[xx];rfl);simp_all
    rw[xx]at DV;have aX:=bj.bC b0;unfold c7 at aX;rw[xx]at aX;have eJ:(bR b0).fT=false->w.heap.size<=(bR b0).aa/\(bR b0).aa<w'.heap.size:=λaA=>by
      have:=bj.own b0 (by grind [b8.cd]);omega
    refine⟨v,val bk,z1,ps bk gN,⟨[v],rfl,(pe rfl).2 ⟨v,rfl,(eb rfl).2 ⟨?_,?_⟩⟩⟩,bj.eN.os,bj.eN.tape,bj.eN.output,bj.size,bj.e2⟩
    · rw[ae,DV];unfold bI.slice;split<;>rfl
    · rw[ae,DV]
      simp  [b8.len]
      obtain⟨E,L⟩:=aX
      simp  [bI.slice]
      cases aA:(bR b0).fT with
      | true=>rw[E aA];exact⟨none,0,rfl,amo _,by decide,λ_=>rfl,λp aj=>by omega⟩
      | false=>
        obtain⟨cs,T,bE,c2,c3,c4,c5⟩:=L aA;refine⟨some ⟨(bR b0).aa,(bR b0).off,none⟩,(bR b0).cap,by simp,c3,c4.1,(by simp),λp aj _=>?_⟩;cases aj;refine⟨eJ aA,rfl,λi G=>?_⟩;obtain⟨bB,d1,d2⟩:=c5 i G;refine⟨bB,⟨eJ aA,rfl,λj aJ=>?_⟩,PD e he d2⟩;grind [World.cell?]
  exact⟨⟨h.enter,λF w args x bm fq aW ay=>(key F w args x bm fq aW ay).mono λaY w' ⟨v,y,E,L,⟨aH,ak,aZ,bP⟩,ej⟩=>⟨v,y,E,L,⟨aH,ak,aZ,fK _ (λr D=>.inr D) (di.refl _ _) bP⟩,ej⟩⟩,⟨key⟩⟩
end Go.Fer
namespace Go.Fer
set_option maxRecDepth 100000
abbrev dK:Type:=List UInt8
def aia(aC_:List dK×(List UInt8->M Bool)->M Bool)(aC':List dK->M dK)(aDa:List UInt8->M Bool)(x:List dK):M (z31'):=
 bg (c' (Int.ofNat (List.length x)) 40) (mpure ([],2)) (aq (aC_ (x,aDa)) (λy=>bg y (mpure ([],1)) (aq (aC' x) (λy=>mpure (y,0)))))
def aib(IY:List UInt8->M (List dK×z1'×Int))(x:List UInt8):M (List dK×z1'×Int):=
 aq (IY x) λy=>bK (λ(A:List dK×Int×z1'×Int×Int×z1'×Unit)=>letI b:=A.2.2;letI a:=b.2.2.1;bg (eV a b.2.1) (cm (ag (0<=a/\a<Int.ofNat (List.length b.1)) (bg (decide (List.getD b.1 (Int.toNat a) (0:Int)≠-1)) (ag (cb (Add.add (List.length A.cu) (Add.add 0 1))) (mpure (aF.next (A.1,A.2.1,b.1,b.2.1,a,A.cu++[a],())))) (mpure (aF.next (A.1,A.2.1,b.1,b.2.1,a,A.cu,()))))) (λ(A:List dK×Int×z1'×Int×Int×z1'×Unit)=>mpure (aF.next (A.1,A.2.1,A.2.2.1,A.2.2.2.1,a8 A.2.2.2.2.1,A.cu,())))) (aq (mpure (aF.next (A.1,A.2.1,A.cu,()))) (λr=>mpure (aF.done r)))) (y.1,y.2.2,y.2.1,Int.ofNat (List.length y.2.1),0,[],()) λ(A:List dK×Int×z1'×Unit)=>mpure (A.1,A.2.2.1,A.2.1)
def aic(IY:List UInt8->M (List dK×z1'×Int))(x:List UInt8):M (z19'):=
 aq (IY x) λy=>mpure y.2
def aid(Wc:List UInt8×z13'->M (Bool×z26'))(Wd:z5'×z13'->M (Int×(Int×Int)×z13'))(x:List UInt8):M (z16'):=
 aq (Wc (x,[],())) λy=>bg (!y.1) (mpure (0,0,140)) (bK (λ(A:Int×Int×Int×z26')=>letI a:=A.2.2;bg (eV a.1 A.2.1) (cm (ag (0<=a.1/\a.1<Int.ofNat (List.length a.2.1)) (aq (Wd (List.getD a.2.1 (Int.toNat a.1) [],a.2.2.1,())) (λy=>bg (eH y.1 0) (mpure (aF.next (a8 A.1,A.2.1,a.1,a.2.1,y.2.2.1,()))) (mpure (aF.next (A.1,A.2.1,a.1,a.2.1,y.2.2.1,())))))) (λ(A:Int×Int×Int×z26')=>mpure (aF.next (A.1,A.2.1,a8 A.2.2.1,A.2.2.2.1,A.2.2.2.2.1,())))) (aq (mpure (aF.next (A.1,a.2.1,a.2.2.1,()))) (λr=>mpure (aF.done r)))) (0,Int.ofNat (List.length y.2.1),0,y.2.1,y.2.2.1,()) (λ(A:Int×z26')=>mpure (Int.ofNat (List.length A.2.1),A.1,0)))
def aDb(aDc:List dK×(List UInt8->M Bool)->M Int)(x:List dK×(List UInt8->M Bool)):M Bool:=
 aq (aDc x) λy=>mpure (decide (y>=0))
def aie(We:List UInt8->M Bool)(x:List UInt8):M Bool:=
 letI a:=c' (Int.ofNat (List.length x)) 60;b_ (!a) (We x) false λy=>mpure (a||!y)
def aif(Wf:List (z1')->M dK)(aDd:List dK×Int->M (List (List dK)->Prop))(Wg:List UInt8×z14'->M (z23'))(aDe:List dK->M (List (z1')))(E4:z14'->M (List UInt8×Unit))(x:List dK):M dK:=
 cm (mpure (aF.next (x,[],()))) λ(A:List dK×z1'×Unit)=>aq (aDd (A.1,8)) λy=>aq (mM y) λab=>aq (kl (λ(A:z14') (y:List dK)=>aq (aq (aDe y) (λy=>aq (Wf y) λy=>aq (Wg (y,A.1,())) λy=>mpure (dS.normal,y.2.1,()))) λp=>mpure (p.1,p.2.1,())) ab (A.2.1,())) λp=>yF (aq (E4 (p.2.1,())) (λy=>mpure y.1)) (λid=>if id=0 then aq (E4 (p.2.1,())) λy=>mpure y.1 else dZ) dZ p.1
def aih(Wc:List UInt8×z13'->M (Bool×z26'))(Wd:z5'×z13'->M (Int×(Int×Int)×z13'))(aDf:List (z1')->Prop)(aDg:List (z1')->List UInt8)(aDh:List (List (z1'))->Prop)(aii:List (List (z1'))->List dK×Bool)(x:List UInt8):M (List dK×z1'×Int):=
 aq (Wc (x,[],())) λy=>bg (!y.1) (mpure ([],[],140)) (bK (λ(A:Int×Int×Int×z1'×z26')=>letI b:=A.2.2;letI c:=b.2.2.1;letI a:=List.getD c (Int.toNat b.1) [];bg (eV b.1 A.2.1) (ag (0<=b.1/\b.1<Int.ofNat (List.length c)) (cm (aq (Wd (a,A.cu,())) (λy=>bg (b3 y.1 2) (aq (aq (aq (mpure ([],[],141)) (λr=>mpure (aF.done r))) (λr=>mpure (aF.done r))) (λr=>mpure (aF.done r))) (bg (b3 y.1 1) (ag ((0:Int)<=0/\0<Int.ofNat (List.length a)) (mpure (aF.next (A.1,a,e0 (e0 A.1 (IntKind.wrap .i64 (y.2.1.1*a8 (Int.ofNat (List.getD a (Int.toNat 0) (0,0,0)).2.2)))) y.2.1.2,A.2.1,b.1,b.2.1,c,y.2.2.1,())))) (mpure (aF.next (A.1,a,-1,A.2.1,b.1,b.2.1,c,y.2.2.1,())))))) (λ(A:Int×z5'×Int×Int×Int×z1'×z26')=>ag (cb (Add.add (List.length A.cu) (Add.add 0 1))) (ag (n3 (V.int .u8) A.h2 (V.slice (V.cN (V.int .u8))) A.2.1/\aDf (gw (V.int .u8) A.h2 (V.slice (V.cN (V.int .u8))) A.2.1)) (mpure (aF.next (e0 A.1 (Int.ofNat (List.length (aDg (gw (V.int .u8) A.h2 (V.slice (V.cN (V.int .u8))) A.2.1)))),A.2.2.2.1,a8 A.2.2.2.2.1,A.cu++[A.2.2.1],A.ft,A.h2,()))))))) (aq (mpure (aF.next (b.2.1,c,A.cu,()))) (λr=>mpure (aF.done r)))) (0,Int.ofNat (List.length y.2.1),0,[],y.2.1,y.2.2.1,()) (λ(A:z1'×z26')=>letI d:=A.2.2.1;ag (n3 (V.int .u8) d (V.slice (V.slice (V.cN (V.int .u8)))) A.2.1/\aDh (gw (V.int .u8) d (V.slice (V.slice (V.cN (V.int .u8)))) A.2.1)) (bg (!(aii (gw (V.int .u8) d (V.slice (V.slice (V.cN (V.int .u8)))) A.2.1)).2) (mpure ([],[],142)) (mpure ((aii (gw (V.int .u8) d (V.slice (V.slice (V.cN (V.int .u8)))) A.2.1)).1,A.1,0)))))
def aij(E4:z14'->M (List UInt8×Unit))(aDi:z1'×z14'->M (z23'))(aik:z23'->M (z14'))(x:List (z1')):M dK:=
 cm (mpure (aF.next (x,[],()))) λ(A:List (z1')×z14')=>bK (λ(A:List (z1')×Int×z23')=>letI a:=A.2.2.1;bg (eV a A.2.1) (ag (0<=a/\a<Int.ofNat (List.length A.1)) (aq (aDi (List.getD A.1 (Int.toNat a) [],A.2.2.2.1,())) (λy=>aq (aik (10,y.2.1,())) λy=>mpure (aF.next (A.1,A.2.1,a8 a,y.1,()))))) (aq (mpure (aF.next (A.2.2.2.1,()))) (λr=>mpure (aF.done r)))) (A.1,Int.ofNat (List.length A.1),0,A.2.1,()) λ(A:z14')=>aq (aik (10,A.1,())) λy=>aq (E4 (y.1,())) λy=>mpure y.1
def ail(IZ:List dK->M (z31'))(Wf:List (z1')->M dK)(Wg:List UInt8×z14'->M (z23'))(E4:z14'->M (List UInt8×Unit))(aDj:List (z1')->M (List dK))(x:List (List (z1'))):M (List dK×Bool):=
 cm (mpure (aF.next (x,[],[],()))) λ(A:List (List (z1'))×List dK×z1'×Unit)=>bK (λ(A:List (List (z1'))×Int×Int×List dK×z1'×Unit)=>letI b:=A.2.2;letI c:=List.getD A.1 (Int.toNat b.1) [];bg (eV b.1 A.2.1) (ag (0<=b.1/\b.1<Int.ofNat (List.length A.1)) (aq (aDj c) (λy=>ag (cb (Add.add (List.length b.2.1) (List.length y))) (aq (Wf c) (λcg=>aq (Wg (cg,b.2.2.1,())) λei=>mpure (aF.next (A.1,A.2.1,a8 b.1,b.2.1++y,ei.2.1,()))))))) (aq (mpure (aF.next (b.2.1,b.2.2.1,()))) (λr=>mpure (aF.done r)))) (A.1,Int.ofNat (List.length A.1),0,A.2.1,A.2.2.1,()) λ(A:List dK×z1'×Unit)=>aq (IZ A.1) λy=>letI a:=b3 y.2 0;letI d:=a=true;bg a (ag True (aq (E4 (A.2.1,())) (λcg=>ag (d->(d/\True)/\True/\True) (mpure (A.1,a&&b3 y.1 cg.1))))) (ag (d->(d/\false=true)/\True/\True) (mpure (A.1,a&&b3 y.1 [])))
def aDk(x:List dK×(List UInt8->M Bool)):M Int:=
 bK (λ(A:List dK×(List UInt8->M Bool)×Int×Int×Unit)=>letI a:=A.2.2.2.1;bg (eV a A.2.2.1) (ag (0<=a/\a<Int.ofNat (List.length A.1)) (aq (A.2.1 (List.getD A.1 (Int.toNat a) [])) (λy=>bg y (aq (aq (mpure a) (λr=>mpure (aF.done r))) (λr=>mpure (aF.done r))) (mpure (aF.next (A.1,A.2.1,A.2.2.1,a8 a,())))))) (aq (mpure (aF.next ())) (λr=>mpure (aF.done r)))) (x.1,x.2,Int.ofNat (List.length x.1),0,()) λ(A:Unit)=>mpure (-1)
def aim(aDl:Option (List dK)×Option Int->List (List dK)->Prop)(x:List dK×Int):M (List (List dK)->Prop):=
 cm (bg (eV x.2 1) (ag False (ag False (mpure (aF.next (x.1,x.2,()))))) (mpure (aF.next (x.1,x.2,())))) λ(A:List dK×Int×Unit)=>mpure (aDl (some A.1,some A.2.1))
def ain(aio:z1'->M Int)(aDm:Int×Int×z25'->M (z1'×z25'))(Wh:Int->M Int)(aDn:z31'->M dK)(x:List dK):M (List (z1')):=
 bK (λ(A:List dK×Int×List dK×Int×Int×List (z1')×Unit)=>letI e:=A.2.2;letI c:=e.2.2.1;bg (eV c e.2.1) (ag (0<=c/\c<Int.ofNat (List.length e.1)) (mpure (aF.next (A.1,sK (Int.ofNat (List.length (List.getD e.1 (Int.toNat c) []))) A.2.1,e.1,e.2.1,a8 c,A.cu,())))) (aq (mpure (aF.next (A.1,A.2.1,A.cu,()))) (λr=>mpure (aF.done r)))) (x,0,x,Int.ofNat (List.length x),0,[],()) λ(A:List dK×Int×List (z1')×Unit)=>bK (λ(A:Int×List dK×Int×Int×List (z1')×Unit)=>letI b:=A.2.2.2;letI a:=List.getD A.2.1 (Int.toNat b.1) [];letI d:=List.length a;bg (eV b.1 A.2.2.1) (ag (0<=b.1/\b.1<Int.ofNat (List.length A.2.1)) (aq (Wh (Int.ofNat d)) (λy=>aq (aDn ([32],cD A.1 (Int.ofNat d))) λcg=>letI f:=a++cg;ag (cb (Add.add d (List.length cg))) (ag (cb (Add.add (Add.add 0 1) (List.length (c_ f)))) (aq (aio ([y]++c_ f)) (λei=>ag (cb (Add.add (Add.add (List.length (c_ f)) 1) (Add.add 0 1))) (ag (cb (Add.add (List.length b.2.1) (Add.add 0 1))) (mpure (aF.next (A.1,A.2.1,A.2.2.1,a8 b.1,b.2.1++[[y]++c_ f++[ei]],())))))))))) (aq (mpure (aF.next (A.1,b.2.1,()))) (λr=>mpure (aF.done r)))) (A.2.1,A.1,Int.ofNat (List.length A.1),0,A.2.2.1,()) λ(A:Int×z25')=>bK (λ(A:Int×Int×List (z1')×z14')=>bg (eV A.2.1 A.1) (aq (aDm (A.2.1,0,A.2.2.1,())) (λy=>aq (aio y.1) λcg=>ag (cb (Add.add (List.length A.2.2.2.1) (Add.add 0 1))) (mpure (aF.next (A.1,a8 A.2.1,y.2.1,A.2.2.2.1++[cg],()))))) (aq (mpure (aF.next (A.2.2.1,A.2.2.2.1,()))) (λr=>mpure (aF.done r)))) (e0 A.1 2,0,A.2.1,[],()) λ(A:List (z1')×z14')=>ag (cb (Add.add (List.length A.1) (Add.add 0 1))) (mpure (A.1++[A.2.1]))
def aip(We:List UInt8->M Bool)(x:z1'×Option Int):M Bool:=
 letI a:=decide (Int.ofNat (List.length x.1)≠Option.getD x.2 0);b_ (!a) (We (fh x.1)) false λy=>mpure (a||!y)
def aDo(aDp:List (z1')×(z1'->M Bool)->M Int)(x:List (z1')×(z1'->M Bool)):M Bool:=
 aq (aDp x) λy=>mpure (decide (y>=0))
def aiq(aDq:z34'->M (z22'))(aDr:Int->M Int)(x:z1'):M Int:=
 bK (λ(A:z1'×Int×z34')=>letI a:=A.2.2.1;bg (eV a A.2.1) (ag (0<=a/\a<Int.ofNat (List.length A.1)) (aq (aDq (List.getD A.1 (Int.toNat a) 0,A.2.2.2.1,())) (λy=>mpure (aF.next (A.1,A.2.1,a8 a,y.1,()))))) (aq (mpure (aF.next (A.2.2.2.1,()))) (λr=>mpure (aF.done r)))) (x,Int.ofNat (List.length x),0,0,()) λ(A:z22')=>aq (aDr A.1) λy=>mpure y
def air(x:List (z1')×z12'):M (z1'):=
 letI d:=Int.ofNat (List.length x.1);letI a:=cD d x.2.2;letI e:=List.take (Int.toNat a) x.1;cm (ag ((0:Int)<=0/\0<=a/\a<=d) (dG (λ(A:Int×List (z1')×Int×z23')=>letI b:=A.2.2.2;letI c:=List.getD A.2.1 (Int.toNat b.1) [];bg (eV b.1 A.2.2.1) (ag (0<=b.1/\b.1<Int.ofNat (List.length A.2.1)) (ag (0<=A.1/\A.1<Int.ofNat (List.length c)) (ag (cb (Add.add (List.length b.2.1) (Add.add 0 1))) (mpure (aF.next (A.1,A.2.1,A.2.2.1,a8 b.1,b.2.1++[List.getD c (Int.toNat A.1) 0],())))))) (aq (mpure (aF.next (b.2.1,()))) (λr=>mpure (aF.done r)))) (x.2.1,e,Int.ofNat (List.length e),0,[],()))) λ(A:z14')=>mpure A.1
def ais(x:Unit):M (z1'):=
 bK (λ(A:z23')=>bg (ht A.1 126) (ag (cb (Add.add (List.length A.2.1) (Add.add 0 1))) (mpure (aF.next (IntKind.wrap .u8 (Add.add A.1 1),A.2.1++[A.1],())))) (aq (mpure (aF.next (A.2.1,()))) (λr=>mpure (aF.done r)))) (32,[],()) λ(A:z14')=>mpure A.1
def ait(x:List (z1')):M (List dK):=
 letI c:=Int.ofNat (List.length x);letI f:=List.take (Int.toNat (cD c 1)) x;cm (ag ((0:Int)<=0/\0<=cD c 1/\cD c 1<=c) (dG (λ(A:List (z1')×Int×Int×List dK×Unit)=>letI g:=A.2.2;letI d:=List.getD A.1 (Int.toNat g.1) [];letI b:=Int.ofNat (List.length d);letI e:=cD b 2;letI a:=IntKind.wrap .i64 (IntKind.wrap .u8 (List.getD d (Int.toNat 0) 0-32));bg (eV g.1 A.2.1) (ag (0<=g.1/\g.1<Int.ofNat (List.length A.1)) (ag ((0:Int)<=0/\0<b) (ag ((0:Int)<=1/\1<=e0 1 (if e<a then e else a)/\e0 1 (if e<a then e else a)<=b) (ag (cb (Add.add (List.length g.2.1) (Add.add 0 1))) (mpure (aF.next (A.1,A.2.1,e0 g.1 1,g.2.1++[fh (List.drop (Int.toNat 1) (List.take (Int.toNat (e0 1 (if e<a then e else a))) d))],()))))))) (aq (mpure (aF.next (g.2.1,()))) (λr=>mpure (aF.done r)))) (f,Int.ofNat (List.length f),0,[],()))) λ(A:List dK×Unit)=>mpure A.1
def aiu(x:Int):M Int:=
 mpure (IntKind.wrap .u8 (e0 x 32))
def aDs(x:List (z1')×(z1'->M Bool)):M Int:=
 bK (λ(A:List (z1')×(z1'->M Bool)×Int×Int×Unit)=>letI a:=A.2.2.2.1;bg (eV a A.2.2.1) (ag (0<=a/\a<Int.ofNat (List.length A.1)) (aq (A.2.1 (List.getD A.1 (Int.toNat a) [])) (λy=>bg y (aq (aq (mpure a) (λr=>mpure (aF.done r))) (λr=>mpure (aF.done r))) (mpure (aF.next (A.1,A.2.1,A.2.2.1,a8 a,())))))) (aq (mpure (aF.next ())) (λr=>mpure (aF.done r)))) (x.1,x.2,Int.ofNat (List.length x.1),0,()) λ(A:Unit)=>mpure (-1)
def aiv(Wh:Int->M Int)(x:Int):M Int:=
 aq (Wh x) λy=>mpure y
def aiw(x:z34'):M (z22'):=
 ag True (ag ((95:Int)≠0) (ag True (mpure (Int.tmod (cD (e0 x.2.1 (IntKind.wrap .i64 x.1)) 32) 95,()))))
def aix(x:z14'):M (List UInt8×Unit):=
 letI a:=Int.ofNat (List.length x.1);ag True (ag True (ag True (ag (a=a) (mpure (fh x.1,())))))
def aiy(aDt:z1'×z15'->M (Int×z15'))(x:z1'×z15'):M (Bool×z15'):=
 aq (aDt (x.1,x.2.1,x.2.2.1,x.2.2.2.1,())) λy=>mpure (decide (y.1>=0),y.2.1,y.2.2.1,y.2.2.2.1,())
def N_(x:Nat×List dK×Int×(Nat×(List (List dK)->Prop)×List (List dK)×Bool)×Unit):M ((Nat×(List (List dK)->Prop)×List (List dK)×Bool)×Unit):=
 dG (λ(A:Nat×List dK×Int×Int×(Nat×(List (List dK)->Prop)×List (List dK)×Bool)×Unit)=>letI h:=A.2.2.1;letI c:=A.2.2.2;letI g:=c.2.1;letI b:=Int.ofNat (List.length A.2.1);letI e:=Int.ofNat (List.length (List.drop (Int.toNat c.1) (List.take (Int.toNat b) A.2.1)));letI a:=e0 c.1 (if e<h then e else h);letI d:=List.drop (Int.toNat c.1) (List.take (Int.toNat a) A.2.1);bg (eV c.1 b) (ag (0<=c.1/\c.1<=b/\b<=b) (ag (0<=c.1/\c.1<=a/\a=a/\a<=b) (aq (ag (A.1=g.1/\g.2.2.2=false/\(∃ (T:List (List dK)),g.2.1 (g.2.2.1++d::T))) (mM (λx=>True))) (λy=>letI f:=(g.1,g.2.1,g.2.2.1++[d],!y);bg (!y) (aq (mpure (f,())) (λr=>mpure (aF.done r))) (mpure (aF.next (A.1,A.2.1,h,e0 c.1 h,f,()))))))) (aq (mpure (g,())) (λr=>mpure (aF.done r)))) (x.1,x.2.1,x.2.2.1,0,x.2.2.2.1,())
def aiz(x:Int×Int×z25'):M (z1'×z25'):=
 letI d:=Int.ofNat (List.length x.2.2.1);letI a:=cD d x.2.1;cm (ag ((0:Int)<=0/\0<=a/\a<=d) (dG (λ(A:Int×(Nat×Nat)×Int×Int×z1'×z25')=>letI c:=A.2.2.2;letI b:=List.getD A.cu (Add.add A.2.1.1 (Int.toNat c.1)) [];bg (eV c.1 A.2.2.1) (ag (0<=c.1/\c.1<Int.ofNat (A.2.1.2-A.2.1.1)) (ag (0<=A.1/\A.1<Int.ofNat (List.length b)) (ag (cb (Add.add (List.length c.2.1) (Add.add 0 1))) (mpure (aF.next (A.1,A.2.1,A.2.2.1,a8 c.1,c.2.1++[List.getD b (Int.toNat A.1) 0],A.cu,())))))) (aq (mpure (aF.next (c.2.1,A.cu,()))) (λr=>mpure (aF.done r)))) (x.1,(Int.toNat 0,Int.toNat a),Int.ofNat (Int.toNat a-Int.toNat 0),0,[],x.2.2.1,()))) λ(A:z1'×z25')=>mpure (A.1,A.2.1,())
def aiA(aDu:List UInt8×List UInt8->M (List UInt8×List UInt8×Bool))(aDv:List UInt8×List UInt8->M (List dK))(aDw:List (z1')×(z1'->M Bool)->Prop)(aDx:List (z1')×(z1'->M Bool)->Bool)(Wi:z1'×Option Int->M Bool)(x:List UInt8×z13'):M (Bool×z26'):=
 aq (dG (λ(A:List UInt8×z26')=>if decide (A.1≠[])=true then aq (aDu
 (A.1,[10,10])) λy=>if (!y.2.2)=true then aq (aq (mpure (false,[],A.2.2.1,())) λr=>mpure (aF.done r)) λr=>mpure
 (aF.done r) else aq (aq (aDv (y.1,[10])) λcg=>dG (λ(A:List UInt8×List dK×Int×Int×List (z5')×
 z5'×z13')=>if decide (A.2.2.2.1<A.2.2.1)=true then ag (0<=A.2.2.2.1/\A.2.2.2.1<Int.ofNat
 (List.length A.2.1)) (aq (ag (cb (List.length (List.getD A.2.1 (Int.toNat A.2.2.2.1) []))) (mM λid=>¬List.Mem id (List.map (λx
 =>x.1) A.ft))) λy=>ag (cb (Add.add (List.length A.cu) (Add.add 0 1))) (mpure (aF.next (A.1,A.2.1,A.2.2.1,IntKind.wrap .i64 (Add.add
 A.2.2.2.1 1),A.2.2.2.2.1,A.cu++[(y,0,List.length (List.getD A.2.1 (Int.toNat A.2.2.2.1) []))],(y,c_ (List.getD A.2.1 (Int.toNat
 A.2.2.2.1) []))::A.ft,())))) else aq (mpure (aF.next (A.1,A.2.2.2.2.1,A.cu,A.ft,()))) λr=>mpure (aF.done r)) (y.2.1,cg,Int.ofNat (List.length cg),0,A.2.1,[],A.2.2.1,())) (aF.gb λ(A:List UInt8×List (z5')×z5'×List
 (Nat×z1')×Unit)=>ag ((0:Int)<=0/\0<Int.ofNat (List.length A.2.2.1)) (ag ((!(decide (Int.ofNat (List.length A.2.2.1)<2)||
 decide (Int.ofNat (List.length A.2.2.1) > 9)||decide (Int.ofNat (List.getD A.2.2.1 (Int.toNat 0) (0,0,0)).2.2<2)||decide (Int.ofNat
 (List.getD A.2.2.1 (Int.toNat 0) (0,0,0)).2.2 > 62)))=true->((!(decide (Int.ofNat (List.length A.2.2.1)<2)||decide (Int.ofNat (List.length
 A.2.2.1) > 9)||decide (Int.ofNat (List.getD A.2.2.1 (Int.toNat 0) (0,0,0)).2.2<2)||decide (Int.ofNat (List.getD A.2.2.1 (Int.toNat 0) (0,0,0)).2.2 > 62)))=true/\(!(decide (Int.ofNat (List.length A.2.2.1)<2)||decide (Int.ofNat (List.length A.2.2.1) > 9)||decide (Int.ofNat
 (List.getD A.2.2.1 (Int.toNat 0) (0,0,0)).2.2<2)||decide (Int.ofNat (List.getD A.2.2.1 (Int.toNat 0) (0,0,0)).2.2 > 62)))=true/\True)/\
 (n3 (V.int .u8) A.2.2.2.1 (V.au (V.slice (V.cN (V.int .u8))) (V.fn (V.slice (V.int .u8)) V.bool)) (A.2.2.1,λx=>Wi
 (x,some (Int.ofNat (List.getD A.2.2.1 (Int.toNat 0) (0,0,0)).2.2)))/\aDw (gw (V.int .u8) A.2.2.2.1
 (V.au (V.slice (V.cN (V.int .u8))) (V.fn (V.slice (V.int .u8)) V.bool)) (A.2.2.1,λx=>Wi (x,some (Int.ofNat (List.getD
 A.2.2.1 (Int.toNat 0) (0,0,0)).2.2)))))/\True) (if (decide (Int.ofNat (List.length A.2.2.1)<2)||decide (Int.ofNat (List.length A.2.2.1) > 9)
 ||decide (Int.ofNat (List.getD A.2.2.1 (Int.toNat 0) (0,0,0)).2.2<2)||decide (Int.ofNat (List.getD A.2.2.1 (Int.toNat 0) (0,0,0)).2.2 > 62)
 ||aDx (gw (V.int .u8) A.2.2.2.1 (V.au (V.slice (V.cN (V.int .u8))) (V.fn (V.slice (V.int .u8))
 V.bool)) (A.2.2.1,λx=>Wi (x,some (Int.ofNat (List.getD A.2.2.1 (Int.toNat 0) (0,0,0)).2.2)))))=true then aq (aq
 (mpure (false,[],A.2.2.2.1,())) λr=>mpure (aF.done r)) λr=>mpure (aF.done r) else ag (cb (Add.add (List.length A.2.1)
 (Add.add 0 1))) (mpure (aF.next (A.1,A.2.1++[A.2.2.1],A.2.2.2.1,())))))) else aq (mpure (aF.next (A.2.1,A.2.2.1,()))) λr=>
 mpure (aF.done r)) (x.1,[],x.2.1,())) (aF.gb λ(A:z26')=>mpure (true,A.1,A.2.1,()))
def aiB(aDy:Int×z15'->M (Bool×z15'))(x:z1'×z15'):M (Int×z15'):=
 bK (λ(A:z1'×Int×Int×z15')=>letI a:=A.2.2;bg (eV a.1 A.2.1) (ag (0<=a.1/\a.1<Int.ofNat (List.length A.1)) (aq (aDy (List.getD A.1 (Int.toNat a.1) 0,a.2.1,a.2.2.1,A.cu,())) (λy=>bg y.1 (aq (aq (mpure (a.1,y.2.1,y.2.2.1,y.2.2.2.1,())) (λr=>mpure (aF.done r))) (λr=>mpure (aF.done r))) (mpure (aF.next (A.1,A.2.1,a8 a.1,y.2.1,y.2.2.1,y.2.2.2.1,())))))) (aq (mpure (aF.next (a.2.1,a.2.2.1,A.cu,()))) (λr=>mpure (aF.done r)))) (x.1,Int.ofNat (List.length x.1),0,x.2.1,x.2.2.1,x.2.2.2.1,()) λ(A:z15')=>mpure (-1,A.1,A.2.1,A.2.2.1,())
def aiC(I0:z1'->Prop)(I1:z1'->Int)(x:Int×z15'):M (Bool×z15'):=
 letI f:=x.2.2.2.1;letI d:=x.2.2.1;letI e:=Int.ofNat d.2.2;letI b:=cD e 1;letI g:=Add.add d.2.1 (Int.toNat b);letI c:=(d.1,Add.add d.2.1 (Int.toNat 0),Int.toNat b-Int.toNat 0);letI a:=Add.add d.2.1 (Int.toNat x.2.1.2);ag (0<=x.2.1.2/\x.2.1.2<e) (ag (a<List.length (cQ f d.1)) (ag (0<=b/\b<e) (ag (g<List.length (cQ (eS f d.1 a x.1) d.1)) (ag ((0:Int)<=0/\0<=b/\b<=e) (ag (n3 (V.int .u8) (eS f d.1 a x.1) (V.cN (V.int .u8)) c/\I0 (gw (V.int .u8) (eS f d.1 a x.1) (V.cN (V.int .u8)) c)) (mpure (decide (List.getD (cQ (eS f d.1 a x.1) d.1) g 0=I1 (gw (V.int .u8) (eS f d.1 a x.1) (V.cN (V.int .u8)) c)),x.2.1,d,eS f d.1 a x.1,())))))))
def aiD(I0:z1'->Prop)(I1:z1'->Int)(aiE:List (z1')×z12'->Prop)(N':List (z1')×z12'->z1')(aDz:z1'×z15'->M (Bool×z15'))(aiF:Unit->M (z1'))(x:z5'×z13'):M (Int×(Int×Int)×z13'):=
 bK (λ(A:z5'×z27')=>letI bE:=A.h2;letI s:=A.2.2.2;letI a:=List.getD A.2.1 (Int.toNat s.1) (0,0,0);letI v:=Int.ofNat a.2.2;letI f:=cD v 1;letI z:=Add.add a.2.1 (Int.toNat f);letI i:=(a.1,Add.add a.2.1 (Int.toNat 0),Int.toNat f-Int.toNat 0);bg (eV s.1 A.2.2.1) (cm (ag (0<=s.1/\s.1<Int.ofNat (List.length A.2.1)) (ag (0<=f/\f<v) (ag (z<List.length (cQ bE a.1)) (ag ((0:Int)<=0/\0<=f/\f<=v) (ag (n3 (V.int .u8) bE (V.cN (V.int .u8)) i/\I0 (gw (V.int .u8) bE (V.cN (V.int .u8)) i)) (bg (eH (List.getD (cQ bE a.1) z 0) (I1 (gw (V.int .u8) bE (V.cN (V.int .u8)) i))) (ag (cb (Add.add (List.length A.cu) (Add.add 0 1))) (mpure (aF.next (A.1,A.2.1,A.2.2.1,s.1,s.2.1,A.cu++[s.1],A.ft,bE,())))) (mpure (aF.next (A.1,A.2.1,A.2.2.1,s.1,s.2.1,A.cu,A.ft,bE,()))))))))) (λ(A:z5'×z27')=>mpure (aF.next (A.1,A.2.1,A.2.2.1,a8 A.2.2.2.1,A.2.2.2.2.1,A.cu,A.ft,A.h2,())))) (aq (mpure (aF.next (A.1,s.2.1,A.cu,A.ft,bE,()))) (λr=>mpure (aF.done r)))) (x.1,x.1,Int.ofNat (List.length x.1),0,(0,0),[],[],x.2.1,()) λ(A:z5'×(Int×Int)×z1'×z1'×z13')=>cm (ag ((0:Int)<=0/\0<Int.ofNat (List.length A.1)) (dG (λ(A:z27')=>letI cY:=A.ft;letI l:=A.2.2;letI k:=Int.ofNat (List.length A.1);letI d:=List.getD A.1 (Int.toNat (cD k 1)) (0,0,0);letI w:=Add.add d.2.1 (Int.toNat l.1);bg (eV l.1 A.2.1) (cm (ag (0<=cD k 1/\cD k 1<k) (ag (0<=l.1/\l.1<Int.ofNat d.2.2) (ag (w<List.length (cQ cY d.1)) (ag (n3 (V.int .u8) cY (V.au (V.slice (V.cN (V.int .u8))) (V.au (V.int .i64) (V.int .i64))) (A.1,l.1,1)/\aiE (gw (V.int .u8) cY (V.au (V.slice (V.cN (V.int .u8))) (V.au (V.int .i64) (V.int .i64))) (A.1,l.1,1))) (ag (I0 (N' (gw (V.int .u8) cY (V.au (V.slice (V.cN (V.int .u8))) (V.au (V.int .i64) (V.int .i64))) (A.1,l.1,1)))) (bg (eH (List.getD (cQ cY d.1) w 0) (I1 (N' (gw (V.int .u8) cY (V.au (V.slice (V.cN (V.int .u8))) (V.au (V.int .i64) (V.int .i64))) (A.1,l.1,1))))) (ag (cb (Add.add (List.length A.cu) (Add.add 0 1))) (mpure (aF.next (A.1,A.2.1,l.1,l.2.1,l.2.2.1,A.cu++[l.1],cY,())))) (mpure (aF.next (A.1,A.2.1,l.1,l.2.1,l.2.2.1,A.cu,cY,()))))))))) (λ(A:z27')=>mpure (aF.next (A.1,A.2.1,a8 A.2.2.1,A.2.2.2.1,A.2.2.2.2.1,A.cu,A.ft,())))) (aq (mpure (aF.next (A.1,l.2.1,l.2.2.1,A.cu,cY,()))) (λr=>mpure (aF.done r)))) (A.1,Int.ofNat (List.getD A.1 (Int.toNat 0) (0,0,0)).2.2,0,A.2.1,A.2.2.1,A.2.2.2.1,A.2.2.2.2.1,()))) λ(A:z5'×(Int×Int)×z1'×z1'×z13')=>letI t:=A.2.2.2.2.1;letI n:=Int.ofNat (List.length A.2.2.1);letI m:=Int.ofNat (List.length A.2.2.2.1);letI j:=List.getD A.2.2.1 (Int.toNat 0) 0;letI h:=Int.ofNat (List.length A.1);letI g:=List.getD A.2.2.2.1 (Int.toNat 0) 0;letI e:=List.getD A.1 (Int.toNat (cD h 1)) (0,0,0);letI c:=List.getD A.1 (Int.toNat j) (0,0,0);letI cw:=Add.add c.2.1 (Int.toNat g);bg (decide (e0 n m=0)) (mpure (0,(0,0),t,())) (bg (eH n 1||eH m 1) (mpure (2,(0,0),t,())) (ag ((0:Int)<=0/\0<n) (ag ((0:Int)<=0/\0<m) (ag (0<=j/\j<h) (ag (0<=g/\g<Int.ofNat c.2.2) (ag (cw<List.length (cQ t c.1)) (dB (aiF ()) (aq (aDz (M.val (aiF ()) [],(j,g),c,t,())) (λy=>letI q:=y.2.1.2;letI u:=Int.toNat q;letI d1:=Add.add y.2.2.1.2.1 u;letI p:=y.2.2.2.1;letI b:=(!(!y.1))=true;letI o:=b->b/\True/\True;ag o (ag (b->(b/\True)/\True/\True) (ag (b->(b/\b)/\(0<=cD h 1/\cD h 1<h)/\True) (ag o (ag o (ag (b->(b/\b)/\(0<=q/\q<Int.ofNat e.2.2)/\True) (ag (b->b/\Add.add e.2.1 u<List.length (cQ p e.1)/\True) (ag o (ag (b->(b/\b/\True)/\(n3 (V.int .u8) p (V.au (V.slice (V.cN (V.int .u8))) (V.au (V.int .i64) (V.int .i64))) (A.1,q,1)/\aiE (gw (V.int .u8) p (V.au (V.slice (V.cN (V.int .u8))) (V.au (V.int .i64) (V.int .i64))) (A.1,q,1)))/\True) (ag (b->(b/\True)/\I0 (N' (gw (V.int .u8) p (V.au (V.slice (V.cN (V.int .u8))) (V.au (V.int .i64) (V.int .i64))) (A.1,q,1)))/\True) (ag (b->(b/\b)/\True/\True) (ag (True/\((!y.1)=false->b)) (bg (!y.1||eH (List.getD (cQ p e.1) (Add.add e.2.1 u) 0) (I1 (N' (gw (V.int .u8) p (V.au (V.slice (V.cN (V.int .u8))) (V.au (V.int .i64) (V.int .i64))) (A.1,q,1))))) (ag (0<=q/\q<Int.ofNat y.2.2.1.2.2) (ag (d1<List.length (cQ p y.2.2.1.1)) (mpure (2,(0,0),eS p y.2.2.1.1 d1 (List.getD (cQ t c.1) cw 0),())))) (mpure (1,y.2.1,p,())))))))))))))))))))))))
def aiG(I2:z14'->M (z14'))(x:z23'):M (z14'):=
 aq (I2 (x.2.1,())) λy=>ag True (ag (cb (Add.add (List.length y.1) (Add.add 0 1))) (ag True (mpure (y.1++[x.1],()))))
def aiH(I2:z14'->M (z14'))(x:z1'×z14'):M (z23'):=
 aq (I2 (x.2.1,())) λy=>ag True (ag (cb (Add.add (List.length y.1) (List.length x.1))) (ag True (mpure (Int.ofNat (List.length x.1),y.1++x.1,()))))
def aiI(I2:z14'->M (z14'))(x:List UInt8×z14'):M (z23'):=
 aq (I2 (x.2.1,())) λy=>ag True (ag (cb (Add.add (List.length y.1) (List.length (c_ x.1)))) (ag True (mpure (Int.ofNat (List.length x.1),y.1++c_ x.1,()))))
end Go.Fer
namespace Go.Fer
attribute [simp] vH S6 xw ff Fz Pu iE kp rV me lK cK uD dd kV S5 aF.pF
def fk(b:UInt8):Bool:=decide (32<=b.toNat)&&decide (b.toNat<=126)
def Cc(b:UInt8):Int:=(b.toNat:Int) - 32
def aiJ(l:List UInt8):Int:=l.foldl (λn b=>n+Cc b) 0
def E5(n:Int):UInt8:=UInt8.ofNat (n+32).toNat
theorem aDA{b:UInt8}:fk b=true<->0<=Cc b/\Cc b<=94:=by
 unfold fk Cc;simp;omega
theorem EZ{n:Int}(h:0<=n)(L:n<=255):IntKind.wrap .u8 n=n:=by
 show (if (false&&decide (n % 2 ^ 8>=(2 ^ (8 - 1):Int)))=true then n % 2 ^ 8 - 2 ^ 8 else n % 2 ^ 8)=n;simp only[aRg,aml,aPA];omega
def fc(c:Int):Bool:=decide (32<=c)&&decide (c<=126)
variable {c:Int}
theorem oB:fc c=true<->32<=c/\c<=126:=by simp[fc]
def pT(s c:Int):Int:=Int.tmod (s+c - 32) 95
def Oa(l:z1'):Int:=l.foldl pT 0
def lW(l:z1'):Int:=Oa l+32
theorem Wj{s:Int}(h:0<=s)(hc:fc c=true):0<=pT s c/\pT s c<=94:=by
 have:=oB.1 hc;have E:0<=Int.tmod (s+c - 32) 95:=Int.tmod_nonneg _ (by omega);have L:Int.tmod (s+c - 32) 95<95:=Int.tmod_lt_of_pos _ (by decide);exact⟨E,Int.le_of_lt_add_one L⟩
theorem Ob:∀ (l:z1') (s:Int),0<=s->s<=94->l.all fc=true->0<=l.foldl pT s/\l.foldl pT s<=94
 | [],s,h,L,_=>⟨h,L⟩
 | c::l,s,h,L,aW=>by
  simp only[aQq,amn]at aW;obtain⟨aM,aS⟩:=Wj h aW.1;exact Ob l _ aM aS aW.2
theorem Wk{l:z1'}(h:l.all fc=true):fc (lW l)=true:=by
 obtain⟨E,L⟩:=Ob l 0 (aPL _) (by decide) h;grind [oB,lW,Oa]
abbrev wo:aN:=⟨.int .i64,.int .u8,λx=>0<=x/\x<=94,λx=>x+32⟩
theorem aDB(x):a6 (aiu x) (wo.sh x):=bx λh=>by
 grind [aiu,bp,EZ]
theorem aDC(x):a6 (aiv wo.sh x) (wo.sh x):=bx λh=>by
 unfold aiv;rw[show wo.sh x=mpure (x+32) from bN h _,aK]
def Oc(x:z34'):M (z22'):=eF ((32<=x.1/\x.1<=126)/\0<=x.2.1/\x.2.1<=94) (pT x.2.1 x.1,())
theorem aDD(x):a6 (aiw x) (Oc x):=bx λh=>by
 unfold aiw e0 cD;rw[bb trivial,bb (by decide),bb trivial,dd,bp (n:=x.1),bp (n:=x.2.1+x.1),bp   (by omega) (by omega)];rfl
abbrev pU:aN:=⟨.slice (.int .u8),.int .u8,λx=>List.length x<65536/\List.all x fc=true,λx=>lW x⟩
theorem aDE(x):a6 (aiq Oc wo.sh x) (pU.sh x):=bx λh=>by
 obtain⟨E,L⟩:=h;unfold aiq eV bg a8 bK;rw[e6 x (λi n=>(x,(x.length:Int),(i:Int),n,())) (λc n=>.next (pT n c)) (λn=>.next (n,())) (λi n=>0<=n/\n<=94) 0 ?_ ?_ ?_ ?_]
 ·rw[ee,aK,cK];have U:=Ob x 0 (aPL _) (by decide) L;rw[show wo.sh (x.foldl pT 0,()).1=mpure (lW x) from bN U _,aK]
 ·rfl
 ·omega
 ·intro i G n aA;have hw:=bp (n:=i+1);have U:=List.all_eq_true.1 L _ (amm G);refine⟨?_,λkf sM=>?_⟩
  ·simp only[ct,dP G,d_ G,dt G,cj,dd,hw];rw[show Oc (x[i],n,())=mpure (pT n x[i],()) from bN ⟨oB.1 U,aA⟩ _,aK];rfl
  ·simp  at sM;subst sM;simp_all[Wj]
 simp
def gh(l:List (z1'))(uU:Int):z1':=l.map λr=>r.getD uU.toNat 0
def zC(l:List (z1'))(uU w:Int):Prop:=l.length<65536/\(0<=w/\w<=(l.length:Int))/\0<=uU/\∀ r∈l,uU<(r.length:Int)
abbrev Od:V:=.slice (.slice (.int .u8))
abbrev x1:aN:=⟨.au Od (.au (.int .i64) (.int .i64)),.slice (.int .u8),λx=>zC x.1 x.2.1 x.2.2,λx=>gh (List.take (List.length x.1 - x.2.2.toNat) x.1) x.2.1⟩
theorem aDF(x):a6 (air x) (x1.sh x):=bx λh=>by
 obtain⟨l,c,w⟩:=x;obtain⟨E,⟨L,ak⟩,aZ,bP⟩:zC l c w:=h;unfold air eV cm bg a8 cD;have hw:=bp (n:=l.length - w);simp only[ct,hw];have e:(l.length - w).toNat=l.length - w.toNat:=by omega
 rw[bb ⟨aPL _,by omega,by omega⟩,e];generalize an:l.take (l.length - w.toNat)=k;have M5:k.length<65536:=by grind
 have I3:∀ r∈k,c<r.length:=λr D=>bP r (by grind);rw[e6 k (λi o=>(c,k,(k.length:Int),(i:Int),o,())) (λr o=>.next (o++[r.getD c.toNat 0])) (λo=>.next (o,())) (λi o=>o.length=i) [] ?_ ?_ ?_ ?_]
 ·rw[ee,aK,cK];grind [gh,rX]
 ·rfl
 ·rfl
 ·intro i G o ar;have gF:=bp (n:=i+1);have D:=I3 _ (amm G);refine⟨?_,λf' hS=>?_⟩
  ·simp only[dP G,d_ G,dt G,cj,dd,gF];rw[bb ⟨aZ,D⟩,bb (by grind [cb])];rfl
  grind
 simp
def k1:z1':=(List.range 95).map λi:Nat=>(i:Int)+32
abbrev I4:aN:=⟨.dh,.slice (.int .u8),λ_=>True,λ_=>k1⟩
theorem aDG(x):a6 (ais x) (I4.sh x):=bx λ_=>by
 unfold ais ht bg bK;rw[e6 (List.range 95) (λi o=>((i:Int)+32,o,())) (λi o=>.next (o++[(i:Int)+32])) (λo=>.next (o,())) (λi o=>o.length=i) [] ?_ ?_ ?_ ?_]
 ·rw[ee,aK];rfl
 ·rfl
 ·rfl
 ·intro i G o ar;have dR:i<95:=by grind
  have aw:decide ((i:Int)+32<=126)=true:=aPR (by omega);have e:(List.range 95)[i]'G=i:=aPC ..;refine⟨?_,λf' hS=>?_⟩
  ·simp only[aw,dd];rw[bb (by grind [cb]),EZ (by omega) (by omega),e];rfl
  grind
 simp
def Cd(x:z14'):M (z14'):=mpure x
def I5(x:z23'):M (z14'):=eF (cb (x.2.1.length+1)) (x.2.1++[x.1],())
def Oe(x:z1'×z14'):M (z23'):=eF (cb (x.2.1.length+x.1.length)) ((x.1.length:Int),x.2.1++x.1,())
def Ce(x:List UInt8×z14'):M (z23'):=eF (cb (x.2.1.length+x.1.length)) ((x.1.length:Int),x.2.1++c_ x.1,())
def zD(x:z14'):M (List UInt8×Unit):=mpure (fh x.1,())
theorem oC(s:List UInt8):(c_ s).length=s.length:=by simp[c_]
theorem aDH(x):a6 (aiG Cd x) (I5 x):=bx λh=>by
 simp_all[aiG,Cd]
theorem aDI(x):a6 (aiH Cd x) (Oe x):=bx λh=>by
 simp_all[aiH,Cd]
theorem aDJ(x):a6 (aiI Cd x) (Ce x):=bx λh=>by
 simp_all[aiI,Cd,oC]
theorem aDK(x):a6 (aix x) (zD x):=by
 grind [aix,zD,bb,wK]
def sj(l:List (z1')):z1':=l.flatMap λr=>r++[10]
theorem aiK{af bet:Type}(f:af->List bet):∀ (l:List af) (b:List bet),l.foldl (λb x=>b++f x) b=b++l.flatMap f
 | [],b=>by simp
 | x::l,b=>by simp only[aPY];rw[aiK f l];simp
theorem aiL:∀ (l:List (z1')),(∀ r∈l,r.length<65535)->(sj l).length<=l.length*65535
 | [],_=>aPK _
 | r::l,h=>by
  have:=aiL l λr D=>h r (by grind);grind [sj]
def oD(l:List (z1')):z1':=sj l++[10]
abbrev sk:aN:=⟨Od,.str,λx=>List.length x<65536/\∀ r∈(x:List (z1')),r.length<65535,λx=>fh (oD x)⟩
theorem aDL(x):a6 (aij zD Oe I5 x) (sk.sh x):=bx λh=>by
 obtain⟨E,L⟩:=h;unfold aij eV cm bg a8 bK;rw[aK,cK];rw[e6 x (λi o=>(x,(x.length:Int),(i:Int),o,())) (λr o=>.next (o++(r++[10]))) (λo=>.next (o,())) (λi o=>o.length<=i*65535) [] ?_ ?_ ?_ ?_]
 ·rw[ee,aK,cK];have e:x.foldl (λo r=>o++(r++[10])) []=sj x:=by rw[aiK];rfl
  rw[e];have hlen:=aiL x L;rw[show I5 (10,sj x,())=mpure (sj x++[10],()) from bN (by grind [cb]) _,aK];rw[show zD (sj x++[10],())=mpure (fh (sj x++[10]),()) from rfl,aK];rfl
 ·rfl
 ·simp
 ·intro i G o ar;have hw:=bp (n:=i+1);refine⟨?_,λf' hS=>?_⟩
  ·simp only[ct,dP G,d_ G,dt G,dd,hw];rw[show Oe (x[i],o,())=mpure ((x[i].length:Int),o++x[i],()) from bN (by grind [cb]) _,aK];rw[show I5 (10,o++x[i],())=mpure (o++x[i]++[10],()) from bN (by grind [cb]) _];simp
  grind
 simp
def zE(r:z1'):Int:=min (r.getD 0 0 - 32) ((r.length:Int) - 2)
def zF(r:z1'):List UInt8:=fh ((r.take (1+zE r).toNat).drop 1)
def lu(r:z1'):Prop:=2<=r.length/\r.length<65535/\r.all fc=true
abbrev Of:aN:=⟨Od,.slice .str,λx=>(1<=List.length x/\List.length x<65536)/\∀ r∈(x:List (z1')),lu r,λx=>(List.take (List.length x - 1) x).map zF⟩
variable {i:Nat}
theorem aDM{r:z1'}(h:lu r)(G:i<r.length):32<=r.getD i 0/\r.getD i 0<=126:=by
 have:=oB.1 (List.all_eq_true.1 h.2.2 _ (amm G));rw[amp,ams G];exact this
theorem aDN(x):a6 (ait x) (Of.sh x):=bx λh=>by
 change List (z1') at x;obtain⟨⟨E,L⟩,ak⟩:(1<=x.length/\x.length<65536)/\∀ r∈x,lu r:=h;unfold ait e0 eV cm bg cD;show _=mpure ((x.take (x.length - 1)).map zF);have hw:=bp (n:=(x.length:Int) - 1);simp only[ct,hw];have e:((x.length:Int) - 1).toNat=x.length - 1:=by omega
 rw[bb ⟨aPL _,by omega,by omega⟩,e];generalize an:x.take (x.length - 1)=k;have M5:k.length<65536:=by rw[<-an];simp;omega
 have I3:∀ r∈k,lu r:=λr D=>ak r (by rw[<-an]at D;exact aPV D);rw[e6 k (λi (o:List dK)=>(k,(k.length:Int),(i:Int),o,())) (λr o=>.next (o++[zF r])) (λo=>.next (o,())) (λi o=>o.length=i) [] ?_ ?_ ?_ ?_]
 ·rw[ee,aK,cK];congr 1;show (k.foldl (λo r=>o++[zF r]) [])=k.map zF;rw[rX];rfl
 ·rfl
 ·rfl
 ·intro i G o ar;have gF:=bp (n:=(i:Int)+1);have D:=I3 _ (amm G);obtain⟨dx,ec⟩:=aDM D (i:=0) (by have:=D.1;omega);obtain⟨ck,c8,_⟩:=D;have cf:=bp (n:=(k[i].length:Int) - 2);have dL:IntKind.wrap .u8 (k[i].getD 0 0 - 32)=k[i].getD 0 0 - 32:=EZ (by omega) (by omega);have hG:=bp (n:=k[i].getD 0 0 - 32);have hm:(if (k[i].length:Int) - 2<k[i].getD 0 0 - 32 then (k[i].length:Int) - 2 else k[i].getD 0 0 - 32)=zE k[i]:=by
   unfold zE;split<;>omega
  have Kk:0<=zE k[i]/\zE k[i]<=(k[i].length:Int) - 2:=by unfold zE;omega
  have H3:=bp (n:=1+zE k[i]);have z:(0:Int).toNat=0:=rfl;have iy:(1:Int).toNat=1:=rfl;refine⟨?_,λf' hS=>?_⟩
  ·simp only[ct,dP G,if_true,d_ G,dt G,cj,dd,kV,gF,z,iy,cf,dL,hG,hm,H3];rw[bb ⟨aPL _,by omega⟩,bb ⟨by decide,by omega,by omega⟩,bb (by unfold cb;omega)];rfl
  ·simp only[aF.next.injEq]at hS;subst hS;simp[ar]
 ·intro o ar;simp
def Og(x:Int×Int×z25'):M (z1'×z25'):=eF (zC x.2.2.1 x.1 x.2.1) (gh (x.2.2.1.take (x.2.2.1.length - x.2.1.toNat)) x.1,x.2.2.1,())
theorem aDO(x):a6 (aiz x) (Og x):=bx λh=>by
 obtain⟨c,w,l,u⟩:=x;obtain⟨E,⟨L,ak⟩,aZ,bP⟩:zC l c w:=h;unfold aiz eV cm bg a8 cD;have hw:=bp (n:=l.length - w);simp only[ct,hw];have e:(l.length - w).toNat=l.length - w.toNat:=by omega
 have kG:l.length - w.toNat<=l.length:=Nat.sub_le _ _;rw[bb ⟨aPL _,by omega,by omega⟩,e];generalize l.length - w.toNat=K at kG;have M5:(l.take K).length=K:=by grind
 rw[e6 (l.take K) (λi o=>(c,(0,K),(K:Int),(i:Int),o,l,())) (λr o=>.next (o++[r.getD c.toNat 0])) (λo=>.next (o,l,())) (λi o=>o.length=i) [] ?_ ?_ ?_ ?_]
 ·rw[ee,aK,cK];grind [gh,rX]
 ·rfl
 ·rfl
 ·intro i G o ar;have gF:=bp (n:=i+1);have aD:l.getD i []=(l.take K)[i]'G:=by grind
  have D:c<(((l.take K)[i]'G).length):=by grind
  refine⟨?_,λf' hS=>?_⟩
  ·have aw:decide (i<(K:Int))=true:=aPR (by omega);have bA:((i:Int)).toNat=i:=rfl;simp only[aw,dd,kV,gF,bA,aQs,aD];rw[bb ⟨by omega,by omega⟩,bb ⟨aZ,D⟩,bb (by grind [cb])];rfl
  grind
 simp_all
def fu(x:z2'):Nat:=x.foldl (λw t=>max w t.length) 0
def pV(w:Nat)(t:List UInt8):z1':=((t.length:Int)+32)::c_ (t++List.replicate (w - t.length) 32)
def pW(w:Nat)(t:List UInt8):z1':=pV w t++[lW (pV w t)]
def sn(rows:List (z1'))(n:Nat):z1':=(List.range n).map λc:Nat=>lW (gh rows (c:Int))
def ju(x:z2'):List (z1'):=x.map (pW (fu x))++[sn (x.map (pW (fu x))) (fu x+2)]
def gP(t:List UInt8):Prop:=t.length<=60/\t.all fk=true
theorem E6:∀ (x:z2') (w:Nat),(∀ t∈x,t.length<=60)->w<=60->x.foldl (λw t=>max w t.length) w<=60/\w<=x.foldl (λw t=>max w t.length) w/\∀ t∈x,t.length<=x.foldl (λw t=>max w t.length) w
 | [],w,_,h=>⟨h,amo _,by simp⟩
 | t::x,w,h,hw=>by
  have aG:=h t (by simp);obtain⟨aM,aS,b4⟩:=E6 x (max w t.length) (λt aG=>h t (by grind)) (by omega);grind
variable {t:List UInt8}
theorem x2:(c_ t).all fc=t.all fk:=by
 unfold c_;induction t with
 | nil=>rfl
 | cons b t aO=>
  grind [fc,fk]
variable {w:Nat}
theorem Oh(h:gP t):(pV w t).all fc=true:=by
 obtain⟨E,L⟩:=h;unfold pV;rw[aQq,x2,List.all_append];have e:(List.replicate (w - t.length) (32)).all fk=true:=by
  rw[aP4];intro b U;rw[List.eq_of_mem_replicate U];rfl
 grind [oB]
theorem Oi(h:t.length<=w):(pV w t).length=w+1:=by
 grind [pV,oC]
theorem Oj(h:t.length<=w):(pW w t).length=w+2:=by
 grind [pW,Oi]
theorem Ol(h:gP t):(pW w t).all fc=true:=by
 grind [pW,Oh,Wk]
theorem I6{rows:List (z1')}{c:Nat}(h:∀ r∈rows,r.all fc=true/\c<r.length):(gh rows (c:Int)).all fc=true:=by
 unfold gh;grind
def I7(s:List UInt8)(n:Nat):List UInt8:=(List.replicate n s).flatten
abbrev Om:aN:=⟨.au .str (.int .i64),.str,λx=>0<=x.2/\x.1.length*x.2.toNat<65536,λx=>I7 x.1 x.2.toNat⟩
theorem aDP(n:Nat)(c:UInt8):I7 [c] n=List.replicate n c:=by
 unfold I7;simp
abbrev I8:aN:=⟨.slice .str,Od,λx=>List.length x<1000/\∀ t∈(x:z2'),gP t,λx=>ju x⟩
theorem aDQ(x):a6 (ain pU.sh Og wo.sh Om.sh x) (I8.sh x):=bx λh=>by
 obtain⟨E,L⟩:=h;unfold ain e0 eV bg a8 bK sK cD;obtain⟨cY,_,iV⟩:=E6 x 0 (λt aG=>(L t aG).1) (by omega);change fu x<=60 at cY;change ∀ t∈x,t.length<=fu x at iV;rw[e6 x (λi (w:Nat)=>(x,(w:Int),x,(x.length:Int),(i:Int),[],())) (λt w=>.next (max w t.length)) (λw=>.next (x,w,[],())) (λi w=>w<=60) 0 ?_ ?_ ?_ ?_]
 ·rw[ee,aK];change aq (dG _ (((fu x):Int),x,_,0,[],())) _=_;generalize wJ:fu x=W at cY iV;rw[e6 x (λi o=>((W:Int),x,(x.length:Int),(i:Int),o,())) (λt o=>.next (o++[pW W t])) (λo=>.next (W,o,())) (λi o=>o.length=i) [] ?_ ?_ ?_ ?_]
  ·rw[ee,aK,cK];have e:x.foldl (λo t=>o++[pW W t]) []=x.map (pW W):=by grind [rX]
   rw[e];generalize fs:x.map (pW W)=R;have On:∀ r∈R,r.all fc=true/\r.length=W+2:=λr D=>by
    grind [Ol,Oj]
   have gF:IntKind.wrap .i64 (Add.add W 2)=((W+2)):=by grind [bp]
   rw[gF,e6 (List.range (W+2)) (λi o=>(((W+2:Nat):Int),(i:Int),R,o,())) (λi o=>.next (o++[lW (gh R i)])) (λo=>.next (R,o,())) (λi o=>o.length=i) [] ?_ ?_ ?_ ?_]
   ·rw[ee,aK,cK];grind [sn,rX,bb,cb,ju]
   ·rfl
   ·rfl
   ·intro i G o ar;have dR:i<W+2:=by grind
    have bt:(List.range (W+2))[i]'G=i:=aPC ..;have Oo:=bp (n:=i+1);refine⟨?_,λf' hS=>?_⟩
    ·have aw:decide (i<((W+2:Nat):Int))=true:=aPR (by omega);simp only[aw,dd,Oo];rw[show Og (i,0,R,())=mpure (gh R i,R,()) from (bN ⟨by grind,⟨aPL _,by simp⟩,by omega,λr D=>by grind⟩ _).trans (by simp),aK];rw[show pU.sh (gh R i)=mpure (lW (gh R i)) from bN ⟨by grind [gh],I6 λr D=>⟨(On r D).1,by grind⟩⟩ _,aK,bb (by grind [cb]),bt];rfl
    grind
   simp
  ·rfl
  ·rfl
  ·intro i G o ar;have Oo:=bp (n:=i+1);have aG:=L _ (amm G);have Iw:=iV _ (amm G);have cf:=bp (n:=W - (x[i].length));have aj:=Oh (w:=W) aG;have l8:=Oi Iw;refine⟨?_,λf' hS=>?_⟩
   ·simp only[ct,dP G,d_ G,dt G,cj,dd,Oo,cf];rw[show wo.sh (x[i].length)=mpure ((x[i].length:Int)+32) from bN (show (0)<=(x[i].length:Int)/\(x[i].length:Int)<=94 from⟨by omega,by omega⟩) _,aK,show Om.sh ([32],W - (x[i].length))=mpure (List.replicate (W - x[i].length) 32) from (bN ⟨by grind,by grind⟩ _).trans (by grind [aDP]),aK];rw[bb (by grind [cb]),bb (by grind [cb,oC]),show pU.sh ([(x[i].length:Int)+32]++c_ (x[i]++List.replicate (W - x[i].length) 32))=mpure (lW (pV W x[i])) from bN ⟨by grind [pV],aj⟩ _,aK,bb (by grind [cb,oC]),bb (by grind [cb])];rfl
   grind
  simp
 ·rfl
 ·omega
 ·intro i G w hw;have Oo:=bp (n:=i+1);refine⟨?_,λf' hS=>?_⟩
  ·have e:(if (x[i].length) > w then (x[i].length:Int) else w)=((max w x[i].length)):=by omega
   simp_all
  grind
 simp
def so{af:Type}:Nat->List af->List (List af)
 | 0,_=>[]
 | _+1,[]=>[]
 | f+1,l=>l.take 8::so f (l.drop 8)
variable {af:Type}
def gH(l:List af):List (List af):=so l.length l
def x3(x:Option (z2')×Option Int)(ab:List (z2')):Prop:=∃ l,x=(some l,some 8)/\l.length<65536/\ab=gH l
abbrev Oq:aN:=⟨.au (.slice .str) (.int .i64),.cE (.slice .str),λx=>x.2=8/\List.length x.1<65536,λx=>x3 (some x.1,some x.2)⟩
theorem aDR(x):a6 (aim x3 x) (Oq.sh x):=bx λh=>by
 simp_all[aim]
theorem Ot{af:Type}:∀ (f:Nat) (l:List af),∀ c∈so f l,c.length<=8/\1<=c.length/\∀ t∈c,t∈l
 | 0,_,c,h=>by cases h
 | _+1,[],c,h=>by cases h
 | f+1,t::l,c,h=>by
  rcases List.mem_cons.1 h with rfl | h
  ·grind
  ·obtain⟨E,L,ak⟩:=Ot f _ c h;grind
theorem aiM{af:Type}:∀ (f:Nat) (l:List af),(so f l).length<=l.length
 | 0,_=>aPK _
 | _+1,[]=>amo _
 | f+1,t::l=>by
  unfold so;have:=aiM f ((t::l).drop 8);grind
theorem Wl:∀ {z:z1'},(∀ v∈z,0<=v/\v<=255)->c_ (fh z)=z
 | [],_=>rfl
 | v::z,h=>by
  have aO:=Wl λv ae=>h v (amr _ ae);have ae:=h v (by simp);unfold c_ fh at *
  simp  [aO,aQ7];have:(UInt8.ofNat v.toNat).toNat=v.toNat:=by simp;omega
  omega
theorem Cf(s:List UInt8):fh (c_ s)=s:=by
 unfold fh c_;induction s<;>simp_all
theorem Wm{m:Nat}:∀ (l:List (z1')),(∀ r∈l,r.length<=m)->(sj l).length<=l.length*(m+1)
 | [],_=>aPK _
 | r::l,h=>by
  have:=Wm l λr D=>h r (amr _ D);grind [sj,Nat.add_mul]
variable {x:z2'}
theorem aiN(h:∀ t∈x,gP t):∀ r∈ju x,r.length=fu x+2/\r.all fc=true:=by
 obtain⟨cY,_,iV⟩:=E6 x 0 (λt aG=>(h t aG).1) (by omega);grind [fu,Ol,Oj,ju,sn,Wk,I6]
theorem I9(h:∀ t∈x,gP t):fu x<=60:=(E6 x 0 (λt aG=>(h t aG).1) (by omega)).1
theorem aDS{l:List (z1')}(h:∀ r∈l,r.all fc=true):∀ v∈oD l,0<=v/\v<=255:=by
 grind [oD,sj,oB]
def I_(x:z2'):z1':=(gH x).flatMap λl=>oD (ju l)
theorem aiO:∀ (ab:List (z2')) (acc:z1'),(∀ l∈ab,l.length<=8/\∀ t∈l,gP t)->acc.length+600*ab.length<1000000->
  kl (λ(A:z14') (y:List dK)=>aq (aq (I8.sh y) λy=>aq (sk.sh y) λy=>aq (Ce (y,A.1,())) λy=>mpure (dS.normal,y.2.1,())) λp=>mpure (p.1,p.2.1,())) ab (acc,())=mpure (.normal,acc++ab.flatMap (λl=>oD (ju l)),())
 | [],acc,_,_=>by simp[kl]
 | l::ab,acc,h,U=>by
  obtain⟨E,L⟩:=h l (by simp);have hR:=aiN L;have hw:=I9 L;have hlen:(oD (ju l)).length<=600:=by
   have ak:=Wm   (ju l) λr D=>aRi (hR r D).1;have aZ:(ju l).length=l.length+1:=by grind [ju]
   unfold oD;have bP:(l.length+1)*(fu l+2+1)<=9*63:=aRe (by omega) (by omega);grind
  have aPb:=aDS λr D=>(hR r D).2;unfold kl;rw[show I8.sh l=mpure (ju l) from bN (⟨by omega,L⟩) _,aK,show sk.sh (ju l)=mpure (fh (oD (ju l))) from bN (⟨by grind [ju],λr D=>by grind⟩) _,aK];have hp:(fh (oD (ju l))).length=(oD (ju l)).length:=by simp[fh]
  rw[show Ce (fh (oD (ju l)),acc,())=mpure (((fh (oD (ju l))).length:Int),acc++oD (ju l),()) from (bN (by grind [cb]) _).trans (by grind [Wl]),aK,aK,aK];rw[aiO ab (acc++oD (ju l)) (λl ah=>h l (amr _ ah)) (by grind)];simp
abbrev Ou:aN:=⟨.slice .str,.str,λx=>List.length x<=40/\∀ t∈(x:z2'),gP t,λx=>fh (I_ x)⟩
theorem aDT(x):a6 (aif sk.sh Oq.sh Ce I8.sh zD x) (Ou.sh x):=rU λh=>by
 obtain⟨E,L⟩:=h;unfold aif cm;rw[aK,cK];rw[show Oq.sh (x,8)=mpure (x3 (some x,some 8)) from bN (show (8:Int)=8/\x.length<65536 from⟨rfl,by omega⟩) _,aK,fD];refine⟨⟨_,x,rfl,by omega,rfl⟩,λab kn=>?_⟩;obtain⟨l,e,_,rfl⟩:=kn;cases e;have hc:=aiM x.length x;rw[aiO (gH x) [] (λl ah=>⟨(Ot _ _ l ah).1,λt aG=>L t ((Ot _ _ l ah).2.2 t aG)⟩) (by show 0+600*(so x.length x).length<_;omega),aK];show c6 (yF (aq (mpure (fh (I_ x),())) λy=>mpure y.1) _ _ _) _;rw[aK];exact dF.2 rfl
theorem aDU(x):a6 (aDk x) ((kY .str).sh x):=tf .str x
theorem aDV(x):a6 (aDb (kY .str).sh x) ((h4 .str).sh x):=tg .str x
theorem aDW(x):a6 (aDs x) ((kY (.slice (.int .u8))).sh x):=tf (.slice (.int .u8)) x
theorem aDX(x):a6 (aDo (kY (.slice (.int .u8))).sh x) ((h4 (.slice (.int .u8))).sh x):=tg (.slice (.int .u8)) x
abbrev Ov:aN:=⟨.str,.bool,λ_=>True,λs=>List.all s fk⟩
def mJ(t:List UInt8):Bool:=decide (t.length > 60)||!t.all fk
abbrev Cg:aN:=⟨.str,.bool,λ_=>True,λt=>mJ t⟩
theorem aDY(x):a6 (aie Ov.sh x) (Cg.sh x):=bx λ_=>by
 change List UInt8 at x;unfold aie c' b_;show _=mpure (mJ x);have e:decide (Int.ofNat (List.length x) > 60)=decide (x.length > 60):=by rw[aQU];simp[ct];omega
 simp only[e,aN.sh,sy,lK,aK];unfold mJ;congr 1;cases decide (x.length > 60)<;>simp
theorem I':mJ t=false<->gP t:=by
 unfold mJ gP;simp
def Ch(x:z2'):z31':=if x.length > 40 then ([],2) else if x.any mJ=true then ([],1) else (fh (I_ x),0)
abbrev x4:aN:=⟨.slice .str,.au .str (.int .i64),λx=>List.length x<2 ^ 63,λx=>Ch x⟩
theorem aDZ(x):a6 (aia (h4 .str).sh Ou.sh Cg.sh x) (x4.sh x):=bx λh=>by
 change z2' at x;change x.length<2 ^ 63 at h;unfold aia c' bg;show _=mpure (Ch x);have e:decide (Int.ofNat (List.length x) > 40)=decide (x.length > 40):=by rw[aQU];simp[ct];omega
 rw[e];unfold Ch;by_cases E:x.length > 40
 ·rw[if_pos E,aPR E,if_pos rfl]
 ·rw[if_neg E,aP5 E,if_neg (by decide)];have U:∀ t:List UInt8,Cg.sh t=mpure (mJ t):=λt=>bN trivial _;rw[show (h4 .str).sh (x,Cg.sh)=mpure (x.any mJ) from (bN (show x.length<2 ^ 63/\∀ y∈x,∃ b,Cg.sh y=mpure b from⟨h,λy _=>⟨_,U y⟩⟩) _).trans (by
   congr 1;show (x.any λy=>(Cg.sh y).val false)=x.any mJ;congr 1;funext y;rw[U,kp]),aK]
  by_cases L:x.any mJ=true
  ·rw[if_pos L,if_pos L]
  ·rw[if_neg L,if_neg L,show Ou.sh x=mpure (fh (I_ x)) from bN (show x.length<=40/\∀ t∈x,gP t from⟨by omega,λt aG=>I'.1 (by
    cases bq:mJ t with
    | false=>rfl
    | true=>exact absurd (List.any_eq_true.2 ⟨t,aG,bq⟩) L)⟩) _,aK]
theorem Wn{a:Int}(h:0<=a):Int.tmod a 95=a % 95:=Int.tmod_eq_emod_of_nonneg h
theorem Ow(a b:List UInt8):c_ (a++b)=c_ a++c_ b:=by simp[c_]
theorem Ja(r:List UInt8)(i:Nat):(c_ r).getD i 0=((r.getD i 0).toNat:Int):=by
 unfold c_;rw[amp,amp,aQW];cases r[i]?<;>rfl
def x5(t:List UInt8):UInt8:=E5 (Int.tmod (aiJ t) 95)
theorem aiP:∀ (t:List UInt8) (n:Int),0<=n->t.all fk=true->(c_ t).foldl pT (Int.tmod n 95)=Int.tmod (t.foldl (λn b=>n+Cc b) n) 95
 | [],n,_,_=>rfl
 | b::t,n,h,aW=>by
  simp only[aQq,amn]at aW;obtain⟨E,L⟩:=aDA.1 aW.1;have e:pT (Int.tmod n 95) (b.toNat:Int)=Int.tmod (n+Cc b) 95:=by
   unfold pT Cc at *
   rw[Wn h,Wn (by omega),Wn (by omega)];omega
  show (c_ t).foldl pT (pT (Int.tmod n 95) (b.toNat:Int))=_;rw[e];exact aiP t _ (by omega) aW.2
theorem aD0(h:t.all fk=true):Oa (c_ t)=Int.tmod (aiJ t) 95:=aiP t 0 (aPL _) h
theorem Wo{n:Int}(h:0<=n)(L:n<=94):((E5 n).toNat:Int)=n+32:=by
 unfold E5;have:(UInt8.ofNat (n+32).toNat).toNat=(n+32).toNat:=by simp;omega
 rw[this];omega
theorem Ox(h:t.all fk=true):((x5 t).toNat:Int)=lW (c_ t):=by
 have U:=Ob (c_ t) 0 (aPL _) (by decide) (by rw[x2];exact h);unfold x5 lW;rw[<-aD0 h];exact Wo U.1 U.2
def Ci(l:z2')(c:Int):List UInt8:=l.map λr=>r.getD c.toNat 0
theorem Wp(l:z2')(c:Int):c_ (Ci l c)=gh (l.map c_) c:=by
 unfold Ci gh;show List.map _ (List.map _ l)=_;rw[aQE,aQE];apply aPF;intro r _;exact (Ja r c.toNat).symm
def kr(l:z2'):List UInt8:=l.flatMap λr=>r++[10]
def eI(l:z2'):List UInt8:=kr l++[10]
theorem aiQ:∀ (l:z2'),c_ (kr l)=sj (l.map c_)
 | []=>rfl
 | r::l=>by
  have aO:=aiQ l;unfold kr sj at *
  simp only[aQd,aPS,Ow,aO];rfl
theorem Oy(l:z2'):c_ (eI l)=oD (l.map c_):=by
 unfold eI oD;rw[Ow,aiQ];rfl
def Cj(w:Nat)(t:List UInt8):List UInt8:=E5 (t.length:Int)::t++List.replicate (w - t.length) 32
def rs(w:Nat)(t:List UInt8):List UInt8:=Cj w t++[x5 (Cj w t)]
def Wq(rows:z2')(n:Nat):List UInt8:=(List.range n).map λc:Nat=>x5 (Ci rows (c:Int))
def hT(x:z2'):z2':=x.map (rs (fu x))++[Wq (x.map (rs (fu x))) (fu x+2)]
theorem Wr(h:t.length<=60):c_ (Cj w t)=pV w t:=by
 unfold Cj pV;show ((E5 (t.length:Int)).toNat:Int)::c_ (t++List.replicate (w - t.length) 32)=_;rw[Wo (by omega) (by omega)]
theorem aD1(h:gP t):(Cj w t).all fk=true:=by
 rw[<-x2,Wr h.1];exact Oh h
theorem aD2(h:t.all fk=true):c_ [x5 t]=[lW (c_ t)]:=by
 show [((x5 t).toNat:Int)]=_;rw[Ox h]
theorem Ws(h:gP t):c_ (rs w t)=pW w t:=by
 unfold rs pW;rw[Ow,Wr h.1,aD2 (aD1 h),Wr h.1]
theorem aD3(h:gP t)(hw:t.length<=w):(rs w t).length=w+2:=by
 rw[<-oC,Ws h,Oj hw]
theorem aD4(h:gP t):(rs w t).all fk=true:=by
 rw[<-x2,Ws h];exact Ol h
theorem aiR{rows:z2'}{c:Nat}(h:∀ r∈rows,r.all fk=true/\c<r.length):(Ci rows (c:Int)).all fk=true:=by
 rw[<-x2,Wp];refine I6 λr D=>?_;obtain⟨t,aG,rfl⟩:=List.mem_map.1 D;rw[x2,oC];exact h t aG
theorem Wt(h:∀ t∈x,gP t):(hT x).map c_=ju x:=by
 obtain⟨cY,_,iV⟩:=E6 x 0 (λt aG=>(h t aG).1) (by omega);change ∀ t∈x,t.length<=fu x at iV;have aB:(x.map (rs (fu x))).map c_=x.map (pW (fu x)):=by
  rw[aQE];exact aPF λt aG=>Ws (h t aG)
 unfold hT ju;rw[aPZ,aB];congr 1;show [c_ (Wq _ _)]=_;congr 1;unfold Wq sn;show List.map _ (List.map _ _)=_;rw[aQE];refine aPF λc hc=>?_;have hc:=List.mem_range.1 hc;show ((x5 (Ci (x.map (rs (fu x))) (c:Int))).toNat:Int)=_;rw[Ox (aiR λr D=>by
  obtain⟨t,aG,rfl⟩:=List.mem_map.1 D;exact⟨aD4 (h t aG),by rw[aD3 (h t aG) (iV t aG)];exact hc⟩),Wp,aB]
theorem Wu{af:Type}:∀ (f:Nat) (l:List af),l.length<=f->∀ k,(so f l)[k]?=if 8*k<l.length then some ((l.drop (8*k)).take 8) else none
 | 0,l,h,k=>by
  have:l=[]:=aPU (by omega);subst this;simp[so]
 | f+1,[],_,k=>by simp[so]
 | f+1,t::l,h,0=>by simp[so]
 | f+1,t::l,h,k+1=>by
  unfold so;rw[aQw,Wu f _ (by simp at h ⊢;omega) k,List.drop_drop];have e:8+8*k=8*(k+1):=by omega
  rw[e];simp only[aRk];by_cases an:8*(k+1)<(t::l).length
  ·rw[if_pos an,if_pos (by omega)]
  ·rw[if_neg an,if_neg (by omega)]
theorem Oz{l:List af}{k:Nat}:k<(gH l).length<->8*k<l.length:=by
 have h:=Wu l.length l (amo _) k;unfold gH;constructor
 ·intro an;rw[ams an]at h;by_cases hc:8*k<l.length
  ·exact hc
  ·rw[if_neg hc]at h;cases h
 ·intro an;rw[if_pos an]at h;exact (List.getElem?_eq_some_iff.1 h).1
theorem aD5{l:List af}{k:Nat}(an:k<(gH l).length):(gH l)[k]=(l.drop (8*k)).take 8:=by
 have h:=Wu l.length l (amo _) k;rw[if_pos (Oz.1 an)]at h;have L:(gH l)[k]?=some ((l.drop (8*k)).take 8):=h;rw[ams an]at L;exact aQb L
variable {l:z2'}
theorem Jb(h:∀ t∈l,gP t):∀ c∈gH l,c.length<=8/\1<=c.length/\∀ t∈c,gP t:=λc hc=>
 let ⟨E,L,ak⟩:=Ot _ _ c hc;⟨E,L,λt aG=>h t (ak t aG)⟩
theorem aD6(h:∀ t∈x,gP t):∀ r∈hT x,r.length=fu x+2/\r.all fk=true:=λr D=>by
 have:=aiN h (c_ r) (by rw[<-Wt h];exact aQa D);rw[oC,x2]at this;exact this
theorem aD7(x:z2'):(hT x).length=x.length+1:=by unfold hT;simp
def lv(x:z2'):List UInt8:=(gH x).flatMap λl=>eI (hT l)
theorem aiS{bet:Type}{f:bet->List UInt8}{g:bet->z1'}:∀ (l:List bet),(∀ y∈l,c_ (f y)=g y)->c_ (l.flatMap f)=l.flatMap g
 | [],_=>rfl
 | y::l,h=>by
  rw[aQd,aQd,Ow,h y (by simp),aiS l λz bA=>h z (amr _ bA)]
theorem aD8(h:∀ t∈x,gP t):c_ (lv x)=I_ x:=
 aiS _ λl ah=>by rw[Oy,Wt (Jb h l ah).2.2]
def tC(x:z2'):z31':=if x.length > 40 then ([],2) else if x.any mJ=true then ([],1) else (lv x,0)
theorem aiT(x:z2'):Ch x=tC x:=by
 unfold Ch tC;by_cases E:x.length > 40
 ·rw[if_pos E,if_pos E]
 ·rw[if_neg E,if_neg E];by_cases L:x.any mJ=true
  ·rw[if_pos L,if_pos L]
  ·rw[if_neg L,if_neg L,<-aD8 λt aG=>I'.1 (by
    cases bq:mJ t with
    | false=>rfl
    | true=>exact absurd (List.any_eq_true.2 ⟨t,aG,bq⟩) L),Cf]
def Jc(n:Nat)(r:List UInt8):Bool:=decide (r.length≠n)||decide (r.length<2)||decide (r.length > 62)||!r.all fk
def o_(x:z2'):Bool:=decide (2<=x.length)&&decide (x.length<=9)&&x.all λr=>!Jc (x.getD 0 []).length r
abbrev zG:Type:=List UInt8×List (z2')×z2'
def Ck(b:UInt8)(s:zG):aF zG (aF (z35') (Bool×List (z2')×Unit)):=
 if b≠10 then .next (s.1++[b],s.2.1,s.2.2) else if s.1≠[] then .next ([],s.2.1,s.2.2++[s.1]) else if o_ s.2.2=true then .next (s.1,s.2.1++[s.2.2],[]) else .done (.done (false,[],()))
def lX(file:List UInt8)(s:zG):aF (z35') (Bool×List (z2')×Unit):=fb Ck (λs=>.next (s.1,s.2.1,s.2.2,())) file s
def wq(r:aF (z35') (Bool×List (z2')×Unit)):Bool×List (z2'):=
 match r with
 | .next s=>(decide (s.1=[])&&decide (s.2.2.1.length=0),s.2.1)
 | .done r=>(r.1,r.2.1)
def iT(file:List UInt8):Bool×List (z2'):=wq (lX file ([],[],[]))
def fI(W:Nat)(l:z2'):Prop:=2<=l.length/\l.length<=9/\2<=W/\W<=62/\∀ r∈l,r.length=W/\r.all fk=true
theorem aD9(h:o_ l=true):fI (l.getD 0 []).length l:=by
 unfold o_ at h;simp only[amn,amq]at h;obtain⟨⟨E,L⟩,ak⟩:=h;have D:∀ r∈l,r.length=(l.getD 0 []).length/\2<=r.length/\r.length<=62/\r.all fk=true:=λr D=>by
  have:=List.all_eq_true.1 ak r D;unfold Jc at this;simp only[Bool.not_or,amn,aPH,aPT,Bool.not_not,ne_eq]at this;obtain⟨⟨⟨aM,aS⟩,b4⟩,hZ⟩:=this;exact⟨Decidable.not_not.1 aM,by omega,by omega,by simpa using hZ⟩
 have aV:l.getD 0 []∈l:=by
  rw[amp,ams (by omega:0<l.length)];exact amm _
 obtain⟨aM,aS,b4,hZ⟩:=D _ aV;exact⟨E,L,aS,b4,λr h=>⟨(D r h).1,(D r h).2.2.2⟩⟩
def lY(n:Nat):z1':=(List.range n).map λi:Nat=>(i:Int)
theorem Cl(n:Nat):(lY n).length=n:=by simp[lY]
theorem Wv{n:Nat}(h:i<(lY n).length):(lY n)[i]=(i:Int):=by simp[lY]
def Ww(W:Nat)(r:List UInt8):Bool:=decide (x5 (r.take (W - 1))≠r.getD (W - 1) 0)
def Wx(l:z2')(c:Nat):Bool:=decide (x5 (Ci (l.take (l.length - 1)) (c:Int))≠(l.getD (l.length - 1) []).getD c 0)
def Wy(W:Nat)(l:z2'):z1':=(lY l.length).filter λv=>Ww W (l.getD v.toNat [])
def aiU(W:Nat)(l:z2'):z1':=(lY W).filter λv=>Wx l v.toNat
theorem aD_{l:List UInt8}{p:UInt8->Bool}(h:l.all p=true)(n:Nat):(l.take n).all p=true:=List.all_eq_true.2 λx ao=>List.all_eq_true.1 h x (aPV ao)
theorem aiV:∀ (f:List UInt8) (s:zG),(∀ l∈s.2.1,o_ l=true)->(∀ l∈(wq (lX f s)).2,o_ l=true)/\(wq (lX f s)).2.length<=s.2.1.length+f.length
 | [],s,h=>⟨h,amo _⟩
 | b::f,s,h=>by
  have aO:=aiV f;unfold lX at aO ⊢;simp only[fb,Ck];by_cases E:b≠10
  ·simp only[if_pos E];have:=aO (s.1++[b],s.2.1,s.2.2) h;exact⟨this.1,by have:=this.2;simp only[aQn]at *;omega⟩
  ·simp only[if_neg E];by_cases L:s.1≠[]
   ·simp only[if_pos L];have:=aO ([],s.2.1,s.2.2++[s.1]) h;exact⟨this.1,by have:=this.2;simp only[aQn]at *;omega⟩
   ·simp only[if_neg L];by_cases ak:o_ s.2.2=true
    ·simp only[if_pos ak];have:=aO (s.1,s.2.1++[s.2.2],[]) (λl ah=>by
      rcases List.mem_append.1 ah with ah | ah
      ·exact h l ah
      ·rw[aQO]at ah;rw[ah];exact ak)
     exact⟨this.1,by have:=this.2;simp only[aQn,aP1,List.length_nil]at *;omega⟩
    ·simp only[if_neg ak];exact⟨λl ah=>(by cases ah),aPK _⟩
theorem OA(f:List UInt8):(∀ l∈(iT f).2,o_ l=true)/\(iT f).2.length<=f.length:=by
 have:=aiV f ([],[],[]) (by simp);refine⟨this.1,?_⟩;have L:=this.2;simp only[List.length_nil,aQs]at L;exact L
abbrev fv(l:z2'):Nat:=(l.getD 0 []).length
def x6(l:z2'):Bool:=decide (0<(Wy (fv l) l).length+(aiU (fv l) l).length)
def OB(f:List UInt8):z16':=if (iT f).1=true then (((iT f).2.length:Int),(((iT f).2.filter x6).length:Int),0) else (0,0,140)
abbrev OC:aN:=⟨.str,.au (.int .i64) (.au (.int .i64) (.int .i64)),λx=>List.length x<65536,λx=>OB x⟩
theorem aiW(n:Nat)(p:Int->Bool):((lY n).filter p).length<=n:=by
 have:=aP0 p (lY n);rw[Cl]at this;exact this
theorem Wz{af:Type}(p:af->Bool):∀ (l:List af) (n:Nat),l.foldl (λn x=>if p x=true then n+1 else n) n=n+(l.filter p).length
 | [],n=>rfl
 | x::l,n=>by
  rw[aPY,Wz p l];cases h:p x with
  | true=>simp[aRp,h];omega
  | false=>simp[aRp,h]
def sq(r:List UInt8):Option (List UInt8):=if ((r.getD 0 0).toNat:Int) - 32 > (r.length:Int) - 2 then none else some ((r.take (1+(((r.getD 0 0).toNat:Int) - 32)).toNat).drop 1)
def tD:z2'->z2'->Option (z2')
 | [],o=>some o
 | r::l,o=>match sq r with
  | none=>none
  | some t=>tD l (o++[t])
def wu:List (z2')->List UInt8×z2'->Option (List UInt8×z2')
 | [],s=>some s
 | l::x,s=>match tD (l.take (l.length - 1)) s.2 with
  | none=>none
  | some o=>wu x (s.1++eI l,o)
theorem OD{W:Nat}(h:fI W l):(eI l).length<=600:=by
 rw[<-oC,Oy];obtain⟨E,L,ak,aZ,bP⟩:=h;have k:=Wm (m:=62) (l.map c_) λr D=>by
  obtain⟨t,aG,rfl⟩:=List.mem_map.1 D;rw[oC];have:=(bP t aG).1;omega
 rw[aPJ]at k;have aS:l.length*(62+1)<=9*63:=aRe L (amo _);unfold oD;simp only[aP1,aQQ];omega
def uV(x:List (z2')):z2'×Bool:=
 match wu x ([],[]) with
 | none=>([],false)
 | some s=>(s.2,decide ((tC s.2).2=0)&&decide ((tC s.2).1=s.1))
def aiX(aD':List dK->M Bool)(x:List dK):M Bool:=
 bK (λ(A:List dK×Int×Unit)=>letI g:=Int.ofNat (List.length A.1);bg (eV A.2.1 g) (cm (ag (0<=A.2.1/\A.2.1<g) (bg (c' (Int.ofNat (List.length (List.getD A.1 (Int.toNat A.2.1) []))) 60) (aq (aq (aq gp (λr=>mpure (aF.done r))) (λr=>mpure (aF.done r))) (λr=>mpure (aF.done r))) (dG (λ(A:List dK×Int×Int×Unit)=>letI f:=A.2.2.1;letI e:=List.getD A.1 (Int.toNat A.2.1) [];letI c:=0<=A.2.1/\A.2.1<Int.ofNat (List.length A.1);letI b:=Int.ofNat (List.length e);letI a:=Int.ofNat (List.getD e (Int.toNat f) 0).1.1.1;letI d:=(!(eV a 32))=true;ag c (bg (eV f b) (ag c (ag (0<=f/\f<b) (ag (d->(d/\d)/\c/\True) (ag (d->(d/\d)/\(0<=f/\f<b)/\True) (bg (eV a 32||c' a 126) (aq (aq (aq (aq gp (λr=>mpure (aF.done r))) (λr=>mpure (aF.done r))) (λr=>mpure (aF.done r))) (λr=>mpure (aF.done r))) (mpure (aF.next (A.1,A.2.1,a8 f,())))))))) (aq (mpure (aF.next (A.1,A.2.1,()))) (λr=>mpure (aF.done r))))) (A.1,A.2.1,0,())))) (λ(A:List dK×Int×Unit)=>mpure (aF.next (A.1,a8 A.2.1,())))) (aq (mpure (aF.next (A.1,()))) (λr=>mpure (aF.done r)))) (x,0,()) λ(A:List dK×Unit)=>aq (aD' A.1) λy=>mpure (!y&&ht (Int.ofNat (List.length A.1)) 40)
def aiY(IZ:List dK->M (z31'))(aEa:List UInt8->M (List dK×z1'×Int))(aEb:List UInt8->M (z19'))(aEc:List UInt8->M (z16'))(WA:List dK×List dK->M Bool)(aiZ:z1'×z1'->M Bool)(x:Unit):M Bool:=
 aq (IZ [[97,98],[99]]) λy=>aq (aEa [34,97,120,70,10,33,99,32,100,10,35,69,98,43,10,10]) λcg=>aq (aEb [34,97,120,70,10,33,99,32,100,10,35,69,98,43,10,10]) λei=>aq (aEc [34,97,120,70,10,33,120,32,100,10,35,69,98,43,10,10]) λhv=>letI a:=b3 y.2 0&&b3 cg.2.2 0&&b3 ei.2 0&&b3 hv.2.2 0&&b3 y.1 [34,97,98,70,10,33,99,32,100,10,35,69,98,43,10,10];b_ a (WA (cg.1,[[97,98],[99]])) false λkW=>b_ (a&&kW) (aiZ (cg.2.1,[0])) false λtc=>b_ (a&&kW&&tc) (aiZ (ei.1,[2])) false λyY=>mpure (a&&kW&&tc&&yY&&b3 hv.1 1&&b3 hv.2.1 1)
def ai0(aEd:z31'->M (z28'))(x:List UInt8×z4'):M (List UInt8×z1'×Bool):=
 bK (λ(A:List UInt8×z4'×List UInt8×z23')=>letI p:=Int.ofNat (List.length A.2.1);letI n:=A.2.2.2;letI e:=0<=n.1/\n.1<p;letI u:=e/\True;letI a:=List.getD A.2.1 (Int.toNat n.1) (0,0);bg (eV n.1 p) (cm (ag e (aq (aEd (A.1,a.1)) (λy=>letI l:=!y.2||eV a.2 32;letI s:=l||c' a.2 126;letI g:=(!(!y.2))=true;letI v:=g->g/\True/\True;letI d:=(!l)=true;letI w:=d->d/\True/\True;letI b:=(!s)=true;letI i:=b->b/\True/\True;ag (g->(g/\g)/\u) (ag v (ag v (ag (g->(g/\True)/\True/\True) (ag (True/\((!y.2)=false->g)) (ag (d->(d/\d)/\u) (ag w (ag w (ag (d->(d/\True)/\True/\True) (ag (True/\(l=false->d)) (ag (b->(b/\b)/\u) (ag i (ag i (ag (b->(b/\b)/\(0<=a.1/\a.1<Int.ofNat (List.length A.1))/\True) (ag i (ag (b->(b/\b)/\u) (ag i (ag i (ag (b->(b/\b)/\True/\True) (ag (True/\(s=false->b)) (bg (s||b3 (IntKind.wrap .i64 (Int.ofNat (List.getD A.1 (Int.toNat a.1) 0).1.1.1)) a.2) (aq (aq (aq (mpure ([],[],false)) (λr=>mpure (aF.done r))) (λr=>mpure (aF.done r))) (λr=>mpure (aF.done r))) (bK (λ(A:List UInt8×z4'×List UInt8×Int×Int×z23')=>letI q:=Int.ofNat (List.length A.2.1);letI m:=A.2.2.2;bg (eV A.cu m.1) (ag (0<=A.cu/\A.cu<q) (ag (0<=m.1/\m.1<q) (bg (b3 (List.getD A.2.1 (Int.toNat A.cu) (0,0)).1 (List.getD A.2.1 (Int.toNat m.1) (0,0)).1) (aq (aq (aq (aq (aq (mpure ([],[],false)) (λr=>mpure (aF.done r))) (λr=>mpure (aF.done r))) (λr=>mpure (aF.done r))) (λr=>mpure (aF.done r))) (λr=>mpure (aF.done r))) (mpure (aF.next (A.1,A.2.1,A.2.2.1,m.1,m.2.1,a8 A.cu,A.ft,())))))) (aq (mpure (aF.next (A.1,A.2.1,A.2.2.1,m.1,m.2.1,A.ft,()))) (λr=>mpure (aF.done r)))) (A.1,A.2.1,A.2.2.1,n.1,y.1,0,n.2.1,()) (λ(A:List UInt8×z4'×List UInt8×Int×z23')=>letI t:=A.2.2;letI h:=0<=t.2.1/\t.2.1<Int.ofNat (List.length A.2.1);letI f:=Int.ofNat (List.length t.1);letI c:=List.getD A.2.1 (Int.toNat t.2.1) (0,0);letI k:=List.drop (Int.toNat (a8 c.1)) (List.take (Int.toNat f) t.1);letI j:=List.take (Int.toNat c.1) t.1;letI o:=j++fh [IntKind.wrap .u8 c.2];ag h (ag ((0:Int)<=0/\0<=c.1/\c.1<=f) (ag h (ag (cb (Add.add (List.length j) (Add.add 0 1))) (ag h (ag (0<=a8 c.1/\a8 c.1<=f/\f<=f) (ag (cb (Add.add (List.length o) (List.length k))) (ag (cb (Add.add (List.length A.cu) (Add.add 0 1))) (mpure (aF.next (A.1,A.2.1,o++k,t.2.1,A.cu++[t.2.2.1],()))))))))))))))))))))))))))))))))))) (λ(A:List UInt8×z4'×List UInt8×z23')=>mpure (aF.next (A.1,A.2.1,A.2.2.1,a8 A.2.2.2.1,A.2.2.2.2.1,())))) (aq (mpure (aF.next (A.2.2.1,n.2.1,()))) (λr=>mpure (aF.done r)))) (x.1,x.2,x.1,0,[],()) λ(A:List UInt8×z14')=>mpure (A.1,A.2.1,true)
def ai1(x:z1'):M Int:=
 bK (λ(A:z1'×z34')=>bg (eV A.2.2.1 (Int.ofNat (List.length A.1))) (cm (bK (λ(A:z1'×Int×Int×z34')=>letI b:=Int.ofNat (List.length A.1);letI a:=A.2.2;letI c:=a.2.2.1;bg (eV c b) (cm (ag (0<=c/\c<b) (ag (0<=a.1/\a.1<b) (bg (decide (List.getD A.1 (Int.toNat c) 0=List.getD A.1 (Int.toNat a.1) 0)) (mpure (aF.next (A.1,A.2.1,a.1,a8 a.2.1,c,()))) (mpure (aF.next (A.1,A.2.1,a.1,a.2.1,c,())))))) (λ(A:z1'×Int×Int×z34')=>mpure (aF.next (A.1,A.2.1,A.2.2.1,A.2.2.2.1,a8 A.2.2.2.2.1,())))) (aq (mpure (aF.next (A.1,A.2.1,a.1,a.2.1,()))) (λr=>mpure (aF.done r)))) (A.1,A.2.1,A.2.2.1,0,0,()) (λ(A:z1'×Int×z34')=>mpure (aF.next (A.1,sK A.2.2.2.1 A.2.1,A.2.2.1,())))) (λ(A:z1'×z34')=>mpure (aF.next (A.1,A.2.1,a8 A.2.2.1,())))) (aq (mpure (aF.next (A.2.1,()))) (λr=>mpure (aF.done r)))) (x,0,0,()) λ(A:z22')=>mpure A.1
def ai2(x:List dK×List dK):M Bool:=
 bg (eH (Int.ofNat (List.length x.1)) (Int.ofNat (List.length x.2))) gp (bK (λ(A:List dK×List dK×Int×Unit)=>letI a:=A.2.2.1;letI b:=a<Int.ofNat (List.length A.1);bg (decide b) (ag (0<=a/\b) (ag (0<=a/\a<Int.ofNat (List.length A.2.1)) (bg (eH (List.getD A.1 (Int.toNat a) []) (List.getD A.2.1 (Int.toNat a) [])) (aq (aq gp (λr=>mpure (aF.done r))) (λr=>mpure (aF.done r))) (mpure (aF.next (A.1,A.2.1,a8 a,())))))) (aq (mpure (aF.next ())) (λr=>mpure (aF.done r)))) (x.1,x.2,0,()) (λ(A:Unit)=>h0))
def ai3(x:List dK):M Bool:=
 bK (λ(A:List dK×Int×Int×Unit)=>letI b:=A.2.2.1;letI a:=b<Int.ofNat (List.length A.1);bg (decide a) (ag (0<=b/\a) (mpure (aF.next (A.1,e0 A.2.1 (Int.ofNat (List.length (List.getD A.1 (Int.toNat b) []))),e0 b 1,())))) (aq (mpure (aF.next (A.1,A.2.1,()))) (λr=>mpure (aF.done r)))) (x,0,0,()) λ(A:List dK×Int×Unit)=>mpure (c' (Int.ofNat (List.length A.1)) 60||c' A.2.1 4000)
def ai4(x:z1'×z1'):M Bool:=
 bg (eH (Int.ofNat (List.length x.1)) (Int.ofNat (List.length x.2))) gp (bK (λ(A:z1'×z1'×z22')=>letI a:=A.2.2.1;letI b:=a<Int.ofNat (List.length A.1);bg (decide b) (ag (0<=a/\b) (ag (0<=a/\a<Int.ofNat (List.length A.2.1)) (bg (eH (List.getD A.1 (Int.toNat a) 0) (List.getD A.2.1 (Int.toNat a) 0)) (aq (aq gp (λr=>mpure (aF.done r))) (λr=>mpure (aF.done r))) (mpure (aF.next (A.1,A.2.1,a8 a,())))))) (aq (mpure (aF.next ())) (λr=>mpure (aF.done r)))) (x.1,x.2,0,()) (λ(A:Unit)=>h0))
def ai5(x:z31'):M (z28'):=
 letI e:=Int.ofNat (List.length x.1);letI b:=eV x.2 0||decide (x.2>=e);letI f:=(!b)=true;ag (f->(f/\f)/\(0<=x.2/\x.2<e)/\True) (bg (b||b3 (Int.ofNat (List.getD x.1 (Int.toNat x.2) 0).1.1.1) 10) (mpure (0,false)) (bK (λ(A:List UInt8×Int×z34')=>letI d:=Int.ofNat (List.length A.1);letI c:=A.2.2.2.1;letI a:=b3 (Int.ofNat (List.getD A.1 (Int.toNat c) 0).1.1.1) 10;bg (eV c A.2.1) (cm (ag (0<=c/\c<d) (ag (a=true->(a=true/\a=true)/\(0<=cD c 1/\cD c 1<d)/\True) (bg (a&&b3 (Int.ofNat (List.getD A.1 (Int.toNat (cD c 1)) 0).1.1.1) 10) (mpure (aF.next (A.1,A.2.1,a8 A.2.2.1,c,()))) (mpure (aF.next (A.1,A.2.1,A.2.2.1,c,())))))) (λ(A:List UInt8×Int×z34')=>mpure (aF.next (A.1,A.2.1,A.2.2.1,a8 A.2.2.2.1,())))) (aq (mpure (aF.next (A.2.2.1,()))) (λr=>mpure (aF.done r)))) (x.1,x.2,0,1,()) (λ(A:z22')=>mpure (A.1,true))))
theorem aEe[DecidableEq af](a b:List af)(d:af)(h:a.length=b.length):((List.range a.length).all λi=>decide (a.getD i d=b.getD i d))=decide (a=b):=by
 rw[aQU,amq];constructor
 ·intro df;refine aQX h λi E L=>?_;simp_all
 grind
theorem ai6{A rho:Type}[DecidableEq af]{body:A->M (aF A (aF rho Bool))}{s0:A}(a b:List af)(d:af)(ah:a.length=b.length)(mk:Nat->A)(fin:rho)(oW:s0=mk 0)
  (ay:∀ i,i<a.length->body (mk i)=mpure (if (!decide (a.getD i d=b.getD i d))=true then .done (.done false) else .next (mk (i+1))))
  (ax:body (mk a.length)=mpure (.done (.next fin))):dG body s0=mpure (if a=b then .next fin else .done false):=by
 rw[ev (List.range a.length) (λi (_)=>mk i) (λi u=>if (!decide (a.getD i d=b.getD i d))=true then .done (.done false) else .next u) (λ_=>.next fin) () oW ?_ ?_]
 ·rw[mf   _ _ (λ_=>rfl),aEe a b d ah];simp
 ·intro i G u;have G:i<a.length:=by grind
  rw[ay i G,aPC];cases decide (a.getD i d=b.getD i d)<;>rfl
 grind
abbrev OE:aN:=⟨.au (.slice (.int .i64)) (.slice (.int .i64)),.bool,λx=>List.length x.1<2 ^ 63/\List.length x.2<2 ^ 63,λx=>decide (x.1=x.2)⟩
theorem aEf(x):a6 (ai4 x) (OE.sh x):=bx λh=>by
 obtain⟨a,b⟩:=x;obtain⟨E,L⟩:=h;change a.length<2 ^ 63 at E;unfold ai4 eH bg a8 bK gp h0;simp only[ct];by_cases ah:a.length=b.length
 ·rw[ai6 a b 0 ah (λi=>(a,b,(i:Int),())) () ?_ ?_ ?_]
  ·by_cases h:a=b<;>simp[h]
  ·rfl
  ·intro i G;have dH:i<b.length:=by omega
   have hw:=bp (n:=i+1);simp only[dt G,dt dH,cj,dd,aK,decide_not];grind
  simp
 ·rw[if_pos (by grind)];rw[aP5 λe=>ah (by rw[e])]
abbrev Cm:aN:=⟨.au (.slice .str) (.slice .str),.bool,λx=>List.length x.1<2 ^ 63/\List.length x.2<2 ^ 63,λx=>decide (x.1=x.2)⟩
theorem aEg(x):a6 (ai2 x) (Cm.sh x):=bx λh=>by
 obtain⟨a,b⟩:=x;obtain⟨E,L⟩:=h;change a.length<2 ^ 63 at E;unfold ai2 eH bg a8 bK gp h0;simp only[ct];by_cases ah:a.length=b.length
 ·rw[ai6 a b [] ah (λi=>(a,b,(i:Int),())) () ?_ ?_ ?_]
  ·by_cases h:a=b<;>simp[h]
  ·rfl
  ·intro i G;have dH:i<b.length:=by omega
   have hw:=bp (n:=i+1);simp only[dt G,dt dH,cj,dd,aK,decide_not];grind
  simp
 ·rw[if_pos (by grind)];rw[aP5 λe=>ah (by rw[e])]
def ai7(l:z2'):Int:=l.foldl (λn t=>IntKind.wrap .i64 (n+(t.length:Int))) 0
def OF(l:z2'):Bool:=decide (l.length > 60)||decide (ai7 l > 4000)
abbrev OG:aN:=⟨.slice .str,.bool,λx=>List.length x<2 ^ 63,λx=>OF x⟩
theorem aEh(x):a6 (ai3 x) (OG.sh x):=bx λh=>by
 unfold ai3 e0 c' bg bK;rw[e6 x (λi n=>(x,n,(i:Int),())) (λt n=>.next (IntKind.wrap .i64 (n+t.length))) (λn=>.next (x,n,())) (λi n=>True) 0 ?_ ?_ ?_ ?_]
 ·grind [ee,aK,cK,ai7,OF]
 ·rfl
 ·simp
 ·intro i G n aA;have hw:=bp (n:=i+1);simp_all
 simp
def zH(x:z2'):Bool:=(x.all λt=>!mJ t)&&(!OF x&&decide (x.length<=40))
abbrev Jd:aN:=⟨.slice .str,.bool,λx=>List.length x<2 ^ 63,λx=>zH x⟩
theorem aEi(x):a6 (aiX OG.sh x) (Jd.sh x):=bx λh=>by
 have E:=h;unfold aiX c' ht eV cm bg a8 bK gp;show _=mpure (zH x);rw[ev x (λi (_)=>(x,(i:Int),())) (λt u=>if mJ t=true then .done (.done false) else .next u) (λ_=>.next (x,())) () ?_ ?_ ?_]
 ·rw[s_,S7 (q:=λt=>!mJ t) (λt=>by simp)];unfold zH;cases x.all λt=>!mJ t with
  | false=>simp
  | true=>
   simp only[aP9,aml,aPA,aQP];rw[aK,cK];rw[show OG.sh x=mpure (OF x) from bN (E) _,aK,show decide (Int.ofNat x.length<=40)=decide (x.length<=40) from decide_eq_decide.2 (by grind)]
 ·rfl
 ·intro i G u;have hw:=bp (n:=i+1);have a8:(0<=(i:Int)/\i<(x.length:Int)):=⟨by omega,by omega⟩
  have uW:((i:Int)).toNat=i:=rfl;have wb:x.getD i []=x[i]:=by grind
  simp only[ct,uW,wb];have d1:decide ((x[i].length:Int) > 60)=decide (x[i].length > 60):=decide_eq_decide.2 (by omega);rw[d1];by_cases ah:x[i].length > 60
  ·simp_all[mJ]
  ·have U:mJ x[i]=!x[i].all fk:=by grind [mJ]
   rw[U,aP5 ah];rw[ev x[i] (λk (_)=>(x,(i:Int),(k:Int),())) (λb u=>if (!fk b)=true then .done (.done (.done (.done false))) else .next u) (λ_=>.next (x,i,())) () ?_ ?_ ?_]
   ·rw[mf   _ _ (λ_=>rfl)];cases x[i].all fk<;>simp_all
   ·rfl
   ·intro k an u;have lS:=bp (n:=k+1);have aEj:((k:Int)).toNat=k:=rfl;have Ds:x[i].getD k 0=x[i][k]:=by grind
    have WB:(x[i][k]).1.1.1=(x[i][k]).toNat:=rfl;have aw:decide (k<(x[i].length:Int))=true:=aPR (by omega);have ai8:(0<=(k:Int)/\k<(x[i].length:Int)):=⟨by omega,by omega⟩
    have U:(decide (((x[i][k]).toNat:Int)<32)||decide (((x[i][k]).toNat:Int) > 126))=!fk x[i][k]:=by
     grind [fk]
    simp only[uW,wb,aEj,Ds,aw,WB];rw[bb a8,bb a8,bb ai8,bb (λe=>⟨⟨e,e⟩,a8,trivial⟩),bb (λe=>⟨⟨e,e⟩,ai8,trivial⟩),U,dd,lS];cases fk x[i][k]<;>simp
   simp_all
 simp
def nN(x:z1')(v:Int):Nat:=(x.filter λw=>decide (w=v)).length
def Cn(x:z1'):Nat:=x.foldl (λm v=>max m (nN x v)) 0
abbrev E7:aN:=⟨.slice (.int .i64),.int .i64,λx=>List.length x<65536,λx=>(Cn x:Int)⟩
theorem aEk(x):a6 (ai1 x) (E7.sh x):=bx λh=>by
 change z1' at x;change x.length<65536 at h;unfold ai1 eV cm bg a8 bK sK;show _=mpure (Cn x:Int);have hc:∀ v,nN x v<=x.length:=λv=>aP0 _ _;rw[e6 x (λi (m:Nat)=>(x,(m:Int),(i:Int),())) (λv m=>.next (max m (nN x v))) (λm=>.next ((m:Int),())) (λ_ m=>m<=x.length) 0 ?_ ?_ ?_ ?_]
 ·rw[ee,aK,cK];rfl
 ·rfl
 ·exact aPK _
 ·intro i G m hm;have hw:=bp (n:=(i:Int)+1);refine⟨?_,λdp gM=>?_⟩
  ·simp only[ct,dP G,if_true];rw[e6 x (λk (n:Nat)=>(x,(m:Int),(i:Int),(n:Int),(k:Int),())) (λw n=>.next (if decide (w=x[i])=true then n+1 else n)) (λn=>.next (x,(m:Int),(i:Int),(n:Int),())) (λk n=>n<=k) 0 ?_ ?_ ?_ ?_]
   ·rw[ee,Wz,aQs];show aq (aq (mpure (aF.next (x,(m:Int),(i:Int),((nN x x[i]:Nat):Int),()))) _) _=_;rw[aK,cK,aK,cK];dsimp only;have e:(if ((nN x x[i]:Nat):Int) > (m:Int) then ((nN x x[i]:Nat):Int) else (m:Int))=((max m (nN x x[i]):Nat):Int):=by split<;>omega
    rw[e,dd,hw];rfl
   ·rfl
   ·exact amo _
   ·intro k an n aA;have lS:=bp (n:=(k:Int)+1);have zh:=bp (n:=(n:Int)+1);refine⟨?_,λkf sM=>?_⟩
    ·simp only[ct,dP an,if_true,d_ an,dt an,d_ G,dt G,cj,dd,zh];cases decide (x[k]=x[i]) with
     | true=>rw[if_pos rfl,aK,cK];dsimp only;rw[lS,if_pos rfl];rfl
     | false=>rw[if_neg (by decide),aK,cK];dsimp only;rw[lS,if_neg (by decide)];rfl
    ·simp only[aF.next.injEq]at sM;subst sM;split<;>omega
   ·intro n aA;simp
  ·simp only[aF.next.injEq]at gM;subst gM;have:=hc x[i];omega
 ·intro m hm;simp
def E8(f:List UInt8)(p:Nat):Nat:=((List.range (p - 1)).filter λk=>decide (f.getD (k+1) 0=10)&&decide (f.getD k 0=10)).length
def ks(f:List UInt8)(p:Int):z28':=if p<0\/(f.length:Int)<=p\/f.getD p.toNat 0=10 then (0,false) else ((E8 f p.toNat:Int),true)
abbrev OH:aN:=⟨.au .str (.int .i64),.au (.int .i64) .bool,λx=>List.length x.1<65536,λx=>ks x.1 x.2⟩
theorem aEl{b:UInt8}:decide ((b.1.1.1:Int)=10)=decide (b=10):=decide_eq_decide.2 ⟨λh=>UInt8.toNat_inj.1 (by show b.1.1.1=10;omega),λh=>by rw[h];rfl⟩
theorem aEm(x):a6 (ai5 x) (OH.sh x):=bx λh=>by
 change z31' at x;obtain⟨f,p⟩:=x;change f.length<65536 at h;unfold ai5 b3 eV cm bg a8 bK cD;show _=mpure (ks f p);simp only[ct,aEl];by_cases aV:p<0
 ·rw[aPR aV];rw[show ks f p=(0,false) from if_pos (.inl aV)];simp[cj]
 ·by_cases E:(f.length:Int)<=p
  ·grind [ks,cj]
  ·have a8:(0<=p/\p<f.length):=⟨by omega,by omega⟩
   rw[aP5 aV,aP5 (by omega)];simp only[aQu,aQo,forall_const,a8,aQJ,cj];by_cases L:f.getD p.toNat 0=10
   ·grind [ks]
   ·have h_:¬(p<0\/f.length<=p\/f.getD p.toNat 0=10):=λk=>by
     grind
    rw[show ks f p=((E8 f p.toNat:Int),true) from if_neg h_,aP5 L];obtain⟨q,rfl⟩:∃ q:Nat,p=q:=⟨p.toNat,by omega⟩
    rw[e6 (List.range (q - 1)) (λk (n:Nat)=>(f,(q:Int),(n:Int),(k:Int)+1,())) (λk n=>.next (if (decide (f.getD (k+1) 0=10)&&decide (f.getD k 0=10))=true then n+1 else n)) (λn=>.next (n,())) (λk n=>n<=k) 0 ?_ ?_ ?_ ?_]
    ·rw[ee,Wz,aQs,aK];rfl
    ·rfl
    ·omega
    ·intro k an n aA;have OI:k<q - 1:=by grind
     have Eg:(List.range (q - 1))[k]'an=k:=aPC ..;have hw:=bp (n:=k+1+1);have zh:=bp (n:=n+1);have WC:=bp (n:=k+1 - 1);have aw:decide (k+1<(q:Int))=true:=aPR (by omega);have iy:((k:Int)+1).toNat=k+1:=by omega
     have z2:((k:Int)+1 - 1).toNat=k:=by omega
     have i1:(0<=(k:Int)+1/\k+1<(f.length:Int)):=⟨by omega,by omega⟩
     have i2:(0<=k+1 - 1/\k+1 - 1<f.length):=⟨by omega,by omega⟩
     refine⟨?_,λkf sM=>?_⟩
     ·simp only[WC,iy,z2,Eg];cases (decide (f.getD (k+1) 0=10)&&decide (f.getD k 0=10))<;>simp_all
     grind
    ·have ah:(List.range (q - 1)).length=q - 1:=by simp
     rw[ah];have aw:decide (((q - 1:Nat))+1<(q:Int))=false:=aP5 (by omega);simp only[aw];simp
section
variable {af:Type}
theorem zI:∀ (m:List (Nat×List af)) (id i:Nat) (d:af),cQ (eS m id i d) id=(cQ m id).set i d
 | [],id,i,d=>rfl
 | p::m,id,i,d=>by
  have aO:=zI m id i d;grind [cQ,eS]
theorem Je:∀ (m:List (Nat×List af)) (id j i:Nat) (d:af),j≠id->cQ (eS m id i d) j=cQ m j
 | [],id,j,i,d,_=>rfl
 | p::m,id,j,i,d,aJ=>by
  have aO:=Je m id j i d aJ;grind [cQ,eS]
theorem ai9(m:List (Nat×List af))(id i:Nat)(d:af):(eS m id i d).map (·.1)=m.map (·.1):=by
 grind [eS,List.map_congr_left]
theorem WD(m:List (Nat×List af))(id i j:Nat)(d:af):(eS m id i d).any (λp=>p.1 == j)=m.any (λp=>p.1 == j):=by
 have h:∀ l:List (Nat×List af),l.any (λp=>p.1 == j)=(l.map (·.1)).any (λk=>k == j):=λl=>by grind
 grind [ai9]
end
def jv(r:z1')(a:Int)(c:Int):z1':=r.set a.toNat c
def jw(r:z1'):Bool:=decide (r.getD (r.length - 1) 0≠lW (r.take (r.length - 1)))
abbrev ai_:Type:=Int×z15'
def aEn(x:ai_):Prop:=fc x.1=true/\x.2.2.1.2.1=0/\x.2.2.1.2.2=(cQ x.2.2.2.1 x.2.2.1.1).length/\lu (cQ x.2.2.2.1 x.2.2.1.1)/\(0<=x.2.1.2/\x.2.1.2<(x.2.2.1.2.2:Int))/\x.2.2.2.1.any (λp=>p.1 == x.2.2.1.1)=true
def OJ(x:ai_):M (Bool×z15'):=
 eF (aEn x) (!jw (jv (cQ x.2.2.2.1 x.2.2.1.1) x.2.1.2 x.1),x.2.1,x.2.2.1,eS x.2.2.2.1 x.2.2.1.1 x.2.1.2.toNat x.1,())
theorem OK{r:z1'}(h:r.all fc=true)(hc:fc c=true):(r.set i c).all fc=true:=List.all_eq_true.2 λv ae=>by
 grind
theorem aEo(x):a6 (aiC pU.pre pU.g x) (OJ x):=bx λh=>by
 obtain⟨c,⟨tj,a⟩,⟨id,a1,n⟩,m,u⟩:=x;obtain⟨E,L,ak,aZ,bP,ej⟩:=h;change a1=0 at L;change n=(cQ m id).length at ak;change lu (cQ m id) at aZ;change 0<=a/\a<(n:Int) at bP;change m.any (λp=>p.1 == id)=true at ej;subst L;unfold aiC cD;obtain⟨ck,c8,fB⟩:=aZ;have hw:=bp (n:=n - 1);have bA:((n:Int) - 1).toNat=n - 1:=by omega
 have z:(0:Int).toNat=0:=rfl;have D:cQ (eS m id a.toNat c) id=jv (cQ m id) a c:=zI m id a.toNat c;have ah:(jv (cQ m id) a c).length=n:=by unfold jv;grind
 have b5:(jv (cQ m id) a c).all fc=true:=OK fB E;have b3:gw (.int .u8) (eS m id a.toNat c) (.cN (.int .u8)) (id,0,n - 1)=(jv (cQ m id) a c).take (n - 1):=by
  show ((cQ (eS m id a.toNat c) id).drop 0).take (n - 1)=_;grind
 simp only[ct,kV,aQs,Nat.sub_zero,hw,bA,z,D];rw[bb bP,bb (by omega),bb ⟨by omega,by omega⟩,bb (by omega),bb ⟨aPL _,by omega,by omega⟩];rw[b3,bb ⟨⟨rfl,(WD m id a.toNat id c).trans ej,by grind⟩,by
  grind,List.all_eq_true.2 λv ae=>List.all_eq_true.1 b5 v (aPV ae)⟩]
 grind [jw]
end Go.Fer
namespace Go.Fer
theorem WE{A rho:Type}{body:A->M (aF A rho)}{p:rho->Prop}{s0:A}(n:Nat)(I:Nat->A->Prop)(aV:I 0 s0)
  (ay:∀ i,i<n->∀ s,I i s->c6 (body s) λad=>match ad with | .next s'=>I (i+1) s' | .done r=>p r)
  (ax:∀ s,I n s->c6 (body s) λad=>match ad with | .next _=>False | .done r=>p r):c6 (dG body s0) p:=by
 have key:∀ k i s,n - i=k->i<=n->I i s->c6 (dG body s) p:=by
  intro k;induction k with
  | zero=>
   intro i s an G h;have:i=n:=by omega
   subst this;rw[zW,fD];refine (ax s h).mono λy a_=>?_;grind [dF]
  | succ k aO=>
   intro i s an G h;rw[zW,fD];refine (ay i (by omega) s h).mono λy a_=>?_;grind [dF]
 grind
def jf(l:z1'):Int:=(l.map λx=>x - 32).sum
theorem ai':∀ (l:z1') (s:Int),0<=s->s<=94->l.all fc=true->l.foldl pT s=(s+jf l) % 95
 | [],s,h,L,_=>by show s=(s+0) % 95;omega
 | c::l,s,h,L,aW=>by
  simp only[aQq,amn]at aW;obtain⟨aM,aS⟩:=Wj h aW.1;have aO:=ai' l _ aM aS aW.2;grind [pT,jf]
variable {l:z1'}
theorem Co(h:l.all fc=true):lW l=jf l % 95+32:=by
 grind [ai',lW,Oa]
theorem WG:∀ (l:z1') (i:Nat) (c:Int),i<l.length->jf (l.set i c)=jf l - l.getD i 0+c
 | [],i,c,h=>by grind
 | x::l,0,c,h=>by
  grind [jf]
 | x::l,i+1,c,h=>by
  have:=WG l i c (by grind);grind [jf]
variable {i:Nat}
theorem OL(h:l.all fc=true)(G:i<l.length):32<=l.getD i 0/\l.getD i 0<=126:=by
 grind [oB,List.getElem_mem]
theorem aja{p:Int->Bool}(h:l.all p=true)(n:Nat):(l.take n).all p=true:=List.all_eq_true.2 λx ao=>List.all_eq_true.1 h x (aPV ao)
def zJ(r:z1'):Int:=jf (r.take (r.length - 1)) - (r.getD (r.length - 1) 0 - 32)
variable {r:z1'}
theorem E9(h:lu r):jw r=false<->zJ r % 95=0:=by
 obtain⟨E,L,ak⟩:=h;have ah:=OL ak (i:=r.length - 1) (by omega);grind [jw,zJ,Co]
theorem OM(r:z1')(a c:Int):(jv r a c).length=r.length:=by unfold jv;simp
variable {a:Int}{c:Int}
theorem zK(h:lu r)(hc:fc c=true):lu (jv r a c):=⟨by rw[OM];exact h.1,by rw[OM];exact h.2.1,OK h.2.2 hc⟩
theorem ON(h:2<=r.length)(aV:0<=a)(aW:a<(r.length:Int)):zJ (jv r a c)=if a.toNat=r.length - 1 then zJ r+r.getD a.toNat 0 - c else zJ r - r.getD a.toNat 0+c:=by
 grind [zJ,jv,List.take_set,List.set_eq_of_length_le,WG]
theorem aEp(h:lu r)(aV:0<=a)(aW:a<(r.length:Int)):∃ c,fc c=true/\jw (jv r a c)=false:=by
 by_cases e:a.toNat=r.length - 1
 ·have hc:fc (32+(r.getD a.toNat 0 - 32+zJ r) % 95)=true:=oB.2 (by omega);refine⟨_,hc,(E9 (zK h hc)).2 ?_⟩;rw[ON h.1 aV aW];omega
 ·have hc:fc (32+(r.getD a.toNat 0 - 32 - zJ r) % 95)=true:=oB.2 (by omega);grind [E9,zK,ON]
theorem aEq{d:Int}(h:lu r)(aV:0<=a)(aW:a<(r.length:Int))(hc:fc c=true)(aw:fc d=true)(E:jw (jv r a c)=false)(L:jw (jv r a d)=false):c=d:=by
 have aM:=(E9 (zK h hc)).1 E;have aS:=(E9 (zK h aw)).1 L;have bE:=oB.1 hc;have d1:=oB.1 aw;rw[ON h.1 aV aW]at aM aS;omega
theorem WH:c∈k1<->fc c=true:=by
 unfold k1;rw[aQ5,oB];constructor
 ·grind
 ·intro h;exact⟨(c - 32).toNat,List.mem_range.2 (by omega),by omega⟩
def nO(r:z1')(a:Int):Int:=(k1.find? λc=>!jw (jv r a c)).getD 32
theorem ajb(h:lu r)(aV:0<=a)(aW:a<(r.length:Int)):(k1.find? λc=>!jw (jv r a c))=some (nO r a):=by
 unfold nO;cases ax:k1.find? λc=>!jw (jv r a c) with
 | some c=>rfl
 | none=>
  grind [aEp,WH]
theorem Jf(h:lu r)(aV:0<=a)(aW:a<(r.length:Int)):fc (nO r a)=true/\jw (jv r a (nO r a))=false:=by
 grind [ajb,WH]
theorem aEr(h:lu r)(aV:0<=a)(aW:a<(r.length:Int))(hc:fc c=true)(U:jw (jv r a c)=false):nO r a=c:=
 aEq h aV aW (Jf h aV aW).1 hc (Jf h aV aW).2 U
abbrev mo:Type:=Nat×z24'
abbrev h5:Type:=List (Nat×z1')
def qF(m:h5)(h:mo):Prop:=m.any (λp=>p.1 == h.1)=true/\h.2.1=0/\h.2.2=(cQ m h.1).length
def dw(m:h5)(b:List mo):List (z1'):=b.map λh=>cQ m h.1
theorem ajc(m:h5)(id i:Nat)(c d:Int):eS (eS m id i c) id i d=eS m id i d:=by
 unfold eS;rw[aQE];apply aPF;intro p _;by_cases h:p.1=id<;>simp_all
theorem IS{af rho:Type}{qw:af->Bool}{g:af->rho}{fin:Unit->rho}:∀ (l:List af) (u:Unit),fb (λc u=>if qw c=true then (.done (g c):aF Unit rho) else .next u) fin l u=match l.find? qw with | some c=>g c | none=>fin ()
 | [],u=>rfl
 | c::l,u=>by
  simp  [fb,List.find?_cons];cases qw c with
  | true=>rfl
  | false=>exact IS l u
abbrev WI:Type:=z1'×(Int×Int)×mo×h5×Unit
def WJ(x:WI):Prop:=x.1=k1/\qF x.2.2.2.1 x.2.2.1/\lu (cQ x.2.2.2.1 x.2.2.1.1)/\0<=x.2.1.2/\x.2.1.2<(x.2.2.1.2.2:Int)
def OO(x:WI):M (Int×(Int×Int)×mo×h5×Unit):=
 eF (WJ x) (nO (cQ x.2.2.2.1 x.2.2.1.1) x.2.1.2 - 32,x.2.1,x.2.2.1,eS x.2.2.2.1 x.2.2.1.1 x.2.1.2.toNat (nO (cQ x.2.2.2.1 x.2.2.1.1) x.2.1.2),())
def OP(x:WI):M (Bool×(Int×Int)×mo×h5×Unit):=
 eF (WJ x) (true,x.2.1,x.2.2.1,eS x.2.2.2.1 x.2.2.1.1 x.2.1.2.toNat (nO (cQ x.2.2.2.1 x.2.2.1.1) x.2.1.2),())
def zL(m:h5)(id:Nat)(a:Int):Nat->h5
 | 0=>m
 | i+1=>eS m id a.toNat ((i:Int)+32)
theorem aEs(x):a6 (aiB OJ x) (OO x):=bx λh=>by
 obtain⟨l,⟨tj,a⟩,⟨id,a1,n⟩,m,u⟩:=x;obtain⟨E,L,ak,aZ,bP⟩:=h;obtain⟨aM,aS,b4⟩:=L;change n=(cQ m id).length at b4;change lu (cQ m id) at ak;change 0<=a at aZ;change a<n at bP;subst E aS;unfold aiB eV bg a8 bK;have n8:k1.length=95:=by decide
 rw[ev k1 (λi (_)=>(k1,(k1.length:Int),(i:Int),(tj,a),(id,0,n),zL m id a i,())) (λc u=>if (!jw (jv (cQ m id) a c))=true then .done (.done (c - 32,(tj,a),(id,0,n),eS m id a.toNat c,())) else .next u) (λ_=>.next ((tj,a),(id,0,n),zL m id a 95,())) () ?_ ?_ ?_]
 ·rw[IS,ajb ak aZ (by omega),aK,uD]
 ·rfl
 ·intro i G u;have hw:=bp (n:=i+1);have hc:k1[i]=i+32:=by simp[k1]
  have b5:=WH.1 (amm G);have aj:eS (zL m id a i) id a.toNat k1[i]=eS m id a.toNat k1[i]:=by
   cases i with
   | zero=>rfl
   | succ i=>exact ajc m id a.toNat _ _
  have D:jv (cQ (zL m id a i) id) a k1[i]=jv (cQ m id) a k1[i]:=by
   grind [jv,zI]
  have eD:(cQ (zL m id a i) id).length=(cQ m id).length:=by
   grind [zI,List.length_set]
  have rP:lu (cQ (zL m id a i) id):=by
   cases i with
   | zero=>exact ak
   | succ i=>
    show lu (cQ (eS m id a.toNat _) id);rw[zI];exact zK ak (oB.2 ⟨by omega,by omega⟩)
  have aEt:(zL m id a i).any (λp=>p.1 == id)=true:=by
   cases i with
   | zero=>exact aM
   | succ i=>exact (WD m id a.toNat id _).trans aM
  have aEu:OJ (k1[i],(tj,a),(id,0,n),zL m id a i,())=mpure (!jw (jv (cQ m id) a k1[i]),(tj,a),(id,0,n),eS m id a.toNat k1[i],()):=by
   refine (bN (⟨b5,rfl,by grind,rP,⟨aZ,bP⟩,aEt⟩) _).trans ?_;grind
  simp only[ct,dP G,d_ G,dt G,Prod.cu];erw [aEu];cases jw (jv (cQ m id) a k1[i]) with
  | false=>
   simp_all[k1]
  | true=>
   simp  [hw];rw[hc];rfl
 simp_all
theorem aEv(x):a6 (aiy OO x) (OP x):=bx λh=>by
 unfold aiy OO;rw[bN (h),aK];obtain⟨E,L,ak,aZ,bP⟩:=h;have:=oB.1 (Jf ak aZ (by rw[<-L.2.2];omega)).1;grind
def pX(W:Nat)(R:List (z1')):Prop:=2<=R.length/\R.length<=9/\2<=W/\W<=62/\∀ r∈R,r.length=W/\r.all fc=true
def kt(R:List (z1'))(c:Nat):Bool:=decide ((R.getD (R.length - 1) []).getD c 0≠lW (gh (R.take (R.length - 1)) (c:Int)))
def jN(R:List (z1')):z1':=(lY R.length).filter λv=>jw (R.getD v.toNat [])
def kO(W:Nat)(R:List (z1')):z1':=(lY W).filter λv=>kt R v.toNat
def nP(R:List (z1'))(r a:Int):List (z1'):=R.set r.toNat (jv (R.getD r.toNat []) a (nO (R.getD r.toNat []) a))
def k2(W:Nat)(R:List (z1')):z16':=
 if (jN R).length+(kO W R).length=0 then (0,0,0)
 else if (jN R).length≠1\/(kO W R).length≠1 then (2,0,0)
 else if kt (nP R ((jN R).getD 0 0) ((kO W R).getD 0 0)) ((kO W R).getD 0 0).toNat=true then (2,0,0)
 else (1,(jN R).getD 0 0,(kO W R).getD 0 0)
variable {R:List (z1')}
theorem pX.fG{W:Nat}(h:pX W R)(D:r∈R):lu r:=by
 obtain⟨E,L,ak,aZ,bP⟩:=h;obtain⟨aM,aS⟩:=bP r D;exact⟨by omega,by omega,aS⟩
theorem E_{v:Int}:v∈jN R<->∃ i:Nat,i<R.length/\v=(i:Int)/\jw (R.getD i [])=true:=by
 grind [jN,lY]
theorem E'{W:Nat}{v:Int}:v∈kO W R<->∃ i:Nat,i<W/\v=(i:Int)/\kt R i=true:=by
 grind [kO,lY]
theorem WK(m:h5)(b:List mo):(dw m b).length=b.length:=by simp[dw]
variable {m:h5}{b:List mo}{k:Nat}
theorem OQ(h:k<b.length):(dw m b).getD k []=cQ m (b.getD k (0,0,0)).1:=by
 unfold dw;grind
theorem WL(h:k<b.length):b.getD k (0,0,0)∈b:=by
 grind
variable {h:mo}
theorem ajd(an:qF m h)(aA:k<=h.2.2):n3 (.int .u8) m (.cN (.int .u8)) (h.1,0,k)/\gw (.int .u8) m (.cN (.int .u8)) (h.1,0,k)=(cQ m h.1).take k:=by
 obtain⟨aM,aS,b4⟩:=an;refine⟨⟨rfl,aM,by grind⟩,?_⟩;rfl
theorem Fa(an:∀ h∈b,qF m h):n3 (.int .u8) m (.slice (.cN (.int .u8))) b/\gw (.int .u8) m (.slice (.cN (.int .u8))) b=dw m b:=by
 have E:∀ h∈b,n3 (.int .u8) m (.cN (.int .u8)) h/\gw (.int .u8) m (.cN (.int .u8)) h=cQ m h.1:=λh df=>by
  have k:=an _ df;obtain⟨aM,aS,b4⟩:=k;have:=ajd (an _ df)   (amo _);grind
 refine⟨λh df=>(E h df).1,?_⟩;show b.map (gw (.int .u8) m (.cN (.int .u8)))=b.map _;grind [List.map_congr_left]
theorem aje(an:qF m h)(id i:Nat)(c:Int):qF (eS m id i c) h:=by
 obtain⟨aM,aS,b4⟩:=an;refine⟨(WD m id i h.1 c).trans aM,aS,?_⟩;grind [zI,Je]
variable {id:Nat}
theorem ajf(aA:id ∉ b.map (·.1))(i:Nat)(c:Int):dw (eS m id i c) b=dw m b:=by
 grind [dw,List.map_congr_left,Je]
theorem WM{m:h5}:∀ {b:List mo} (_:(b.map (·.1)).Nodup) {k:Nat} (_:k<b.length) (i:Nat) (c:Int),dw (eS m (b.getD k (0,0,0)).1 i c) b=(dw m b).set k (((dw m b).getD k []).set i c)
 | [],_,k,h,_,_=>by rfl
 | h::b,aA,0,_,i,c=>by
  show cQ (eS m h.1 i c) h.1::dw (eS m h.1 i c) b=(cQ m h.1).set i c::dw m b;grind [zI,ajf]
 | h::b,aA,k+1,an,i,c=>by
  simp  at aA;have OI:k<b.length:=by grind
  have aO:=WM (m:=m) aA.2 OI i c;show cQ (eS m (b.getD k (0,0,0)).1 i c) h.1::dw (eS m (b.getD k (0,0,0)).1 i c) b=cQ m h.1::(dw m b).set k (((dw m b).getD k []).set i c);grind [Je]
theorem aEw(aA:(m.map (·.1)).Nodup)(id i:Nat):eS m id i ((cQ m id).getD i 0)=m:=by
 have key:∀ p∈m,(if p.1=id then (p.1,p.2.set i ((cQ m id).getD i 0)) else p)=p:=by
  rintro⟨j,l⟩ aj;by_cases e:j=id
  ·have ah:=Zo aA aj;by_cases G:i<l.length
   ·simp_all
   grind [List.set_eq_of_length_le]
  grind
 unfold eS;rw[aPF key];simp
abbrev OR:Type:=List mo×h5×Unit
def WN(x:OR):Prop:=(x.2.1.map (·.1)).Nodup/\(∀ h∈x.1,qF x.2.1 h)/\(x.1.map (·.1)).Nodup/\∃ W,pX W (dw x.2.1 x.1)
abbrev wv(R:List (z1')):Nat:=(R.getD 0 []).length
def wx(x:OR):z16':=k2 (wv (dw x.2.1 x.1)) (dw x.2.1 x.1)
def x7(x:OR):h5:=if (wx x).1=1 then eS x.2.1 (x.1.getD (wx x).2.1.toNat (0,0,0)).1 (wx x).2.2.toNat (nO ((dw x.2.1 x.1).getD (wx x).2.1.toNat []) (wx x).2.2) else x.2.1
def zM(x:OR):M (Int×(Int×Int)×h5×Unit):=eF (WN x) ((wx x).1,(wx x).2,x7 x,())
theorem pX.wide{W:Nat}(h:pX W R):wv R=W:=by
 obtain⟨E,L,ak,aZ,bP⟩:=h;grind
variable {c:Nat}
theorem ajg{W:Nat}(h:∀ r∈R,r.length=W/\r.all fc=true)(hc:c<W):(gh R (c:Int)).all fc=true:=I6 λr D=>⟨(h r D).2,by grind⟩
theorem aEx(x):a6 (aiD pU.pre pU.g x1.pre x1.g OP I4.sh x) (zM x):=bx λh=>by
 obtain⟨b,m,u⟩:=x;obtain⟨e8,e_,mv,W,ux⟩:=h;change (m.map (·.1)).Nodup at e8;change ∀ h∈b,qF m h at e_;change (b.map (·.1)).Nodup at mv;change pX W (dw m b) at ux;have aEy:=ux.wide;have eD:=WK m b;have Fb:wx (b,m,u)=k2 W (dw m b):=by show k2 (wv (dw m b)) (dw m b)=_;rw[aEy]
 have ajh:x7 (b,m,u)=if (k2 W (dw m b)).1=1 then eS m (b.getD (k2 W (dw m b)).2.1.toNat (0,0,0)).1 (k2 W (dw m b)).2.2.toNat (nO ((dw m b).getD (k2 W (dw m b)).2.1.toNat []) (k2 W (dw m b)).2.2) else m:=by unfold x7;rw[Fb]
 rw[Fb,ajh];clear Fb ajh;have aD:=λk (an:k<b.length)=>OQ (m:=m) an;obtain⟨cO,cJ,gT,ly,cu⟩:=ux;rw[eD]at cO cJ;have an:=λk (an:k<b.length)=>e_ _ (WL an);have hR:=λk (an:k<b.length)=>cu ((dw m b).getD k []) (by
  have o1:k<(dw m b).length:=by rw[eD];exact an
  rw[amp,ams o1];exact amm o1)
 obtain⟨d1,d2⟩:=Fa e_;have aEz:∀ c:Nat,c<W->zC (dw m b) (c:Int) 1:=λc hc=>⟨by rw[eD];omega,⟨by decide,by rw[eD];omega⟩,by omega,λr D=>by have:=(cu r D).1;omega⟩
 have aEA:∀ (R:List (z1')) (c:Nat),(∀ r∈R,r.length=W/\r.all fc=true)->R.length<=9->c<W->pU.pre (gh (R.take (R.length - 1)) (c:Int)):=λR c fs ah hc=>⟨by show (gh _ _).length<65536;unfold gh;simp;omega,ajg (λr D=>fs r (aPV D)) hc⟩
 unfold aiD e0 eH eV cm bg a8 bK dB cD;dsimp only;rw[e6 (lY b.length) (λi (o:z1')=>(b,b,(b.length:Int),(i:Int),(0,0),o,[],m,())) (λv o=>.next (if jw ((dw m b).getD v.toNat [])=true then o++[v] else o)) (λo=>.next (b,(0,0),o,[],m,())) (λi o=>o.length<=i) [] ?_ ?_ ?_ ?_]
 ·rw[ee,HK,aK,cK];dsimp only;have aX:[]++List.filter (λv=>jw ((dw m b).getD v.toNat [])) (lY b.length)=jN (dw m b):=by unfold jN;rw[eD];rfl
  rw[aX,bb (by rw[ct];omega)];have aV:=an 0 (by omega);have i':=hR 0 (by omega);rw[aD 0 (by omega)]at i';have z:(0:Int).toNat=0:=rfl;have iy:(1:Int).toNat=1:=rfl;have aEB:(b.getD (0:Int).toNat (0,0,0)).2.2=W:=by rw[z,aV.2.2,i'.1]
  rw[aEB];have Gm:=bp (n:=(b.length:Int) - 1);have LZ:((b.length:Int) - 1).toNat=b.length - 1:=by omega
  have aji:=an (b.length - 1) (by omega);have ajj:=hR (b.length - 1) (by omega);rw[aD _ (by omega)]at ajj;have ajk:=aji.2.2;rw[ajj.1]at ajk;have ajl:=aji.2.1;rw[e6 (lY W) (λi (o:z1')=>(b,(W:Int),(i:Int),(0,0),jN (dw m b),o,m,())) (λv o=>.next (if kt (dw m b) v.toNat=true then o++[v] else o)) (λo=>.next (b,(0,0),jN (dw m b),o,m,())) (λi o=>o.length<=i) [] ?_ ?_ ?_ ?_]
  ·rw[ee,HK,aK,cK];dsimp only;have kC:[]++List.filter (λv=>kt (dw m b) v.toNat) (lY W)=kO W (dw m b):=rfl;rw[kC];have fx:(jN (dw m b)).length<=9:=aPG (aiW _ _) (by rw[eD];exact cJ);have gB:(kO W (dw m b)).length<=62:=aPG (aiW _ _) ly;have Gt:=bp (n:=((jN (dw m b)).length:Int)+((kO W (dw m b)).length:Int));simp only[ct,dd,Gt];unfold k2;by_cases bE:(jN (dw m b)).length+(kO W (dw m b)).length=0
   ·rw[if_pos bE,if_pos (aPR (by omega)),if_neg (by decide)]
   ·rw[if_neg bE,if_neg (by rw[aP2];omega)];by_cases c2:(jN (dw m b)).length≠1\/(kO W (dw m b)).length≠1
    ·rw[if_pos c2,if_pos (by rw[aPO,aP2,aP2];omega),if_neg (by decide)]
    ·rw[if_neg c2,if_neg (by rw[aPO,aP2,aP2];omega)];obtain⟨v1,aB⟩:=List.length_eq_one_iff.1 (show (jN (dw m b)).length=1 by omega);obtain⟨ai,bt⟩:=List.length_eq_one_iff.1 (show (kO W (dw m b)).length=1 by omega);obtain⟨i,G,rfl,bg⟩:=E_.1 (show v1∈jN (dw m b) by rw[aB];simp);obtain⟨j,aJ,rfl,oI⟩:=E'.1 (show ai∈kO W (dw m b) by rw[bt];simp);rw[eD]at G;rw[aB,bt];have dx:List.getD [(i:Int)] 0 0=(i:Int):=rfl;have ec:List.getD [(j:Int)] 0 0=(j:Int):=rfl;have Cp:((i:Int)).toNat=i:=rfl;have WO:((j:Int)).toNat=j:=rfl;simp only[z,dx,ec,Cp,WO];have Cq:=an i G;have qd:=hR i G;rw[aD i G]at qd;have Jg:=Cq.2.2;rw[qd.1]at Jg;have OS:=Cq.2.1;have uX:lu (cQ m (b.getD i (0,0,0)).1):=⟨by omega,by omega,qd.2⟩
     have j5:=Jf uX (a:=(j:Int)) (by omega) (by omega);have qU:dw (eS m (b.getD i (0,0,0)).1 j (nO (cQ m (b.getD i (0,0,0)).1) (j:Int))) b=nP (dw m b) (i:Int) (j:Int):=by
      rw[WM mv G];unfold nP jv;rw[Cp,WO,aD i G]
     have ajm:∀ h∈b,qF (eS m (b.getD i (0,0,0)).1 j (nO (cQ m (b.getD i (0,0,0)).1) (j:Int))) h:=λh df=>aje (e_ h df) _ _ _;have vo:eS (eS m (b.getD i (0,0,0)).1 j (nO (cQ m (b.getD i (0,0,0)).1) (j:Int))) (b.getD i (0,0,0)).1 j ((cQ m (b.getD i (0,0,0)).1).getD j 0)=m:=by rw[ajc,aEw e8]
     have ajn:(cQ (eS m (b.getD i (0,0,0)).1 j (nO (cQ m (b.getD i (0,0,0)).1) (j:Int))) (b.getD i (0,0,0)).1).length=W:=by rw[zI,aQk,qd.1]
     rw[bb ⟨aPL _,show (0:Int)<1 by decide⟩,bb ⟨aPL _,show (0:Int)<1 by decide⟩,bb ⟨by omega,by omega⟩,OS,bb ⟨by omega,by omega⟩,bb (by rw[qd.1,kV];omega),bb (show (I4.sh ()).fm from trivial)];have Kh:(I4.sh ()).val []=k1:=iE;rw[Kh];rw[show OP (k1,((i:Int),(j:Int)),b.getD i (0,0,0),m,())=mpure (true,((i:Int),(j:Int)),b.getD i (0,0,0),eS m (b.getD i (0,0,0)).1 j (nO (cQ m (b.getD i (0,0,0)).1) (j:Int)),()) from bN (show WJ (k1,((i:Int),(j:Int)),b.getD i (0,0,0),m,()) from⟨rfl,Cq,uX,by show (0:Int)<=(j:Int);omega,by show (j:Int)<(((b.getD i (0,0,0)).2.2:Nat):Int);omega⟩) _,aK];dsimp only;have fq:(cQ (eS m (b.getD i (0,0,0)).1 j (nO (cQ m (b.getD i (0,0,0)).1) (j:Int))) (b.getD (b.length - 1) (0,0,0)).1)=(nP (dw m b) (i:Int) (j:Int)).getD (b.length - 1) []:=by rw[<-qU,OQ (by omega)]
     have OT:∀ r∈nP (dw m b) (i:Int) (j:Int),r.length=W/\r.all fc=true:=λr D=>by
      unfold nP at D;rcases List.mem_or_eq_of_mem_set D with D | D
      ·exact cu r D
      ·rw[D,OM,Cp,aD i G];exact⟨qd.1,(zK uX j5.1).2.2⟩
     have uJ:(nP (dw m b) (i:Int) (j:Int)).length=b.length:=by unfold nP;rw[aQk,eD]
     obtain⟨P2,Aq⟩:=Fa ajm;rw[qU]at Aq;generalize ql:eS m (b.getD i (0,0,0)).1 j (nO (cQ m (b.getD i (0,0,0)).1) (j:Int))=Q at qU ajm vo ajn fq P2 Aq ⊢;generalize aT:nP (dw m b) (i:Int) (j:Int)=T at qU fq OT uJ Aq ⊢;have aEC:=OT (T.getD (b.length - 1) []) (by
      have L:b.length - 1<T.length:=by rw[uJ];omega
      rw[amp,ams L];exact amm L)
     have Jh:gw (.int .u8) Q (.au (.slice (.cN (.int .u8))) (.au (.int .i64) (.int .i64))) (b,(j:Int),(1:Int))=((T,(j:Int),(1:Int)):List (z1')×z12'):=by
      exact congrArg (λz:List (z1')=>(z,(j:Int),(1:Int))) Aq
     have IC:x1.g (T,(j:Int),1)=gh (T.take (T.length - 1)) (j:Int):=rfl;simp only[Jh,IC,Gm,LZ,ajl,fq,WO];rw[bb (λ_=>⟨rfl,trivial,trivial⟩),bb (λ_=>⟨⟨rfl,trivial⟩,trivial,trivial⟩),bb (λ_=>⟨⟨rfl,rfl⟩,⟨by omega,by omega⟩,trivial⟩),bb (λ_=>⟨rfl,trivial,trivial⟩),bb (λ_=>⟨rfl,trivial,trivial⟩),bb (λ_=>⟨⟨rfl,rfl⟩,⟨by omega,by rw[ajk];omega⟩,trivial⟩),bb (λ_=>⟨rfl,by rw[aEC.1,kV];omega,trivial⟩),bb (λ_=>⟨rfl,trivial,trivial⟩),bb (λ_=>⟨⟨rfl,rfl,trivial⟩,⟨⟨P2,trivial,trivial⟩,show zC T (j:Int) 1 from⟨by rw[uJ];omega,⟨by decide,by rw[uJ];omega⟩,by omega,λr D=>by have:=(OT r D).1;omega⟩⟩,trivial⟩),bb (λ_=>⟨⟨rfl,trivial⟩,aEA T j OT (by omega) aJ,trivial⟩),bb (λ_=>⟨⟨rfl,rfl⟩,trivial,trivial⟩),bb ⟨trivial,λ_=>rfl⟩];have Gn:(!true||decide ((T.getD (b.length - 1) []).getD (Add.add 0 j) 0≠pU.g (gh (T.take (T.length - 1)) (j:Int))))=kt T j:=by
      unfold kt;rw[uJ,kV,aQs];rfl
     erw [Gn];by_cases c3:kt T j=true
     ·rw[if_pos c3,if_pos c3,if_neg (by decide),OS,bb ⟨by omega,by rw[Jg];omega⟩,bb (by rw[ajn,kV];omega)];have WQ:Add.add 0 j=j:=aQs j;rw[WQ,vo]
     ·rw[if_neg c3,if_neg c3];rw[if_pos rfl,<-ql,<-aD i G];rfl
  ·rfl
  ·exact amo _
  ·intro c hc o ar;rw[Cl]at hc;have hw:=bp (n:=(c:Int)+1);have aw:decide ((c:Int)<(W:Int))=true:=aPR (by omega);have aED:((c:Int)).toNat=c:=rfl;have Jh:gw (.int .u8) m (.au (.slice (.cN (.int .u8))) (.au (.int .i64) (.int .i64))) (b,(c:Int),(1:Int))=((dw m b,(c:Int),(1:Int)):List (z1')×z12'):=by
    exact congrArg (λz=>(z,(c:Int),(1:Int))) d2
   refine⟨?_,λf' hS=>?_⟩
   ·simp only[Prod.ft,ct,Gm,LZ,ajl,Jh,kV,aQs];rw[bb ⟨by omega,by omega⟩,bb ⟨by omega,by omega⟩,bb (by omega),bb ⟨⟨d1,trivial,trivial⟩,aEz c hc⟩,bb (by grind)];have cT:decide ((cQ m (b.getD (b.length - 1) (0,0,0)).1).getD c 0≠pU.g (gh ((dw m b).take ((dw m b).length - 1)) c))=kt (dw m b) c:=by
     grind [kt]
    erw [cT];rw[Wv (by omega),aED];cases kt (dw m b) c with
    | true=>
     rw[if_pos rfl,bb (by grind [cb]),aK];simp_all
    | false=>
     simp_all
   grind
  simp_all[Cl]
 ·rfl
 ·simp
 ·intro i G o ar;rw[Cl]at G;have hw:=bp (n:=i+1);have uW:((i:Int)).toNat=i:=rfl;have z:(0:Int).toNat=0:=rfl;have Cq:=an i G;have qd:=hR i G;rw[aD i G]at qd;have Jg:=Cq.2.2;rw[qd.1]at Jg;have OS:=Cq.2.1;have aEE:=bp (n:=W - 1);have aEF:((W:Int) - 1).toNat=W - 1:=by omega
  obtain⟨t1,bU⟩:=ajd Cq (k:=W - 1) (by omega);refine⟨?_,λf' hS=>?_⟩
  ·simp only[Prod.h2,ct,uW,z,OS,Jg,aEE,aEF,kV,aQs,Nat.sub_zero,bU];rw[bb ⟨by omega,by omega⟩,bb ⟨by omega,by omega⟩,bb (by omega),bb ⟨aPL _,by omega,by omega⟩,bb ⟨t1,⟨by grind,aja qd.2 _⟩⟩];have cT:decide ((cQ m (b.getD i (0,0,0)).1).getD (W - 1) 0≠pU.g ((cQ m (b.getD i (0,0,0)).1).take (W - 1)))=jw ((dw m b).getD i []):=by
    grind [jw]
   rw[cT,Wv (by omega),uW];cases jw ((dw m b).getD i []) with
   | true=>
    rw[if_pos rfl,bb (by grind [cb]),aK];simp_all
   | false=>
    simp_all
  grind
 simp_all[Cl]
def oE:List UInt8->Option (List UInt8×List UInt8)
 | []=>none
 | b::l=>if b=10/\l.head?=some 10 then some ([],l.drop 1) else match oE l with
  | none=>none
  | some p=>some (b::p.1,p.2)
def jx:List UInt8->z2'
 | []=>[[]]
 | b::l=>if b=10 then []::jx l else match jx l with
  | []=>[[b]]
  | x::xs=>(b::x)::xs
theorem OU:∀ (t:List UInt8),jx t≠[]
 | []=>by simp[jx]
 | b::l=>by
  grind [jx]
theorem WR(l:List UInt8):jx (10::l)=[]::jx l:=by
 rfl
theorem Ji{b:UInt8}(U:b≠10)(l:List UInt8):∃ x xs,jx l=x::xs/\jx (b::l)=(b::x)::xs:=by
 grind [jx,OU]
theorem ajo:∀ (t:List UInt8),(jx t).length<=t.length+1/\∀ x∈jx t,x.length<=t.length
 | []=>by simp[jx]
 | b::l=>by
  obtain⟨E,L⟩:=ajo l;grind [jx]
theorem WS:∀ (f t r:List UInt8),oE f=some (t,r)->f=t++10::10::r/\∀ x∈(jx t).tail,x≠[]
 | [],t,r,h=>by simp[oE]at h
 | b::l,t,r,h=>by
  unfold oE at h;by_cases hc:b=10/\l.head?=some 10
  ·cases l with
   | nil=>grind
   | cons c l=>
    grind [jx]
  ·rw[if_neg hc]at h;cases bq:oE l with
   | none=>grind
   | some p=>
    obtain⟨dN,jO⟩:=p;rw[bq]at h;obtain⟨rfl,rfl⟩:=h;obtain⟨e,aG⟩:=WS l dN jO bq;by_cases U:b=10
    ·subst U;rw[WR];have ah:=λk=>hc ⟨rfl,k⟩;cases dN with
     | nil=>grind
     | cons c aEG=>
      have aEH:c≠10:=λk=>ah (by grind);obtain⟨x,xs,aB,bt⟩:=Ji aEH aEG;grind
    ·obtain⟨x,xs,aB,bt⟩:=Ji U dN;grind
theorem ajp:∀ (f:List UInt8),oE f=none->(∀ l,f=10::l->l.head?≠some 10)/\∀ b l,f=b::l->oE l=none
 | [],_=>⟨λl h=>(by grind),λb l h=>(by grind)⟩
 | b::l,h=>by
  grind [oE]
theorem x8(b:UInt8)(f:List UInt8)(s:zG):lX (b::f) s=match Ck b s with | .next s'=>lX f s' | .done r=>r:=by grind [lX,fb]
theorem OV{b:UInt8}(h:b≠10)(s:zG):Ck b s=.next (s.1++[b],s.2.1,s.2.2):=if_pos h
theorem OW{s:zG}(h:s.1≠[]):Ck 10 s=.next ([],s.2.1,s.2.2++[s.1]):=by
 grind [Ck]
theorem ajq(O ab:List _):Ck 10 (([],O,ab):zG)=if o_ ab=true then .next ([],O++[ab],[]) else .done (.done (false,[],())):=by
 rfl
theorem WT(O:List (z2')):∀ (f cur:List UInt8) (ab:z2'),oE f=none->(cur=[]->ab≠[]/\f.head?≠some 10)->(wq (lX f (cur,O,ab))).1=false
 | [],cur,ab,_,hc=>by
  show (decide (cur=[])&&decide (ab.length=0))=false;grind
 | b::f,cur,ab,aA,hc=>by
  obtain⟨E,OX⟩:=ajp _ aA;have L:=OX b f rfl;rw[x8];by_cases U:b=10
  ·subst U;have aEI:=λk=>(hc k).2 rfl;rw[OW aEI];exact WT O f [] (ab++[cur]) L λ_=>⟨by simp,E f rfl⟩
  ·rw[OV U];exact WT O f (cur++[b]) ab L λk=>by simp at k
variable {O:List (z2')}
theorem aEJ{f:List UInt8}(aV:f≠[])(h:oE f=none):(wq (lX f ([],O,[]))).1=false:=by
 cases f with
 | nil=>grind
 | cons b f=>
  rw[x8];by_cases U:b=10
  ·subst U;rfl
  grind [OV,WT,ajp]
def wy(cur t:List UInt8):z2':=match jx t with
 | []=>[cur]
 | x::xs=>(cur++x)::xs
theorem OY(t:List UInt8):wy [] t=jx t:=by
 grind [wy,OU]
theorem WU(O:List (z2'))(b6:List UInt8):∀ (t cur:List UInt8) (ab:z2'),(∀ x∈wy cur t,x≠[])->lX (t++10::b6) (cur,O,ab)=lX b6 ([],O,ab++wy cur t)
 | [],cur,ab,h=>by
  grind [wy,jx,x8,OW]
 | b::t,cur,ab,h=>by
  show lX (b::(t++10::b6)) (cur,O,ab)=_;rw[x8];by_cases U:b=10
  ·subst U;have e:wy cur (10::t)=cur::jx t:=by grind [wy,WR]
   rw[e]at h ⊢;rw[OW (h cur (by simp))];have aO:=WU O b6 t [] (ab++[cur]) (by grind [OY]);grind [OY]
  ·obtain⟨x,xs,aB,bt⟩:=Ji U t;have e:wy cur (b::t)=wy (cur++[b]) t:=by grind [wy]
   rw[e]at h ⊢;rw[OV U];exact WU O b6 t (cur++[b]) ab h
variable {r:List UInt8}{t:List UInt8}
theorem aEK{f:List UInt8}(h:oE f=some (t,r)):wq (lX f ([],O,[]))=if o_ (jx t)=true then wq (lX r ([],O++[jx t],[])) else (false,[]):=by
 obtain⟨e,aG⟩:=WS f t r h;cases ah:jx t with
 | nil=>grind [OU]
 | cons x xs=>
  by_cases ao:x=[]
  ·subst ao;have U:o_ ([]::xs)=false:=by
    grind [o_,Jc]
   rw[U,e];have Pr:∃ g,t++10::10::r=10::g:=by
    cases t with
    | nil=>simp
    | cons b t=>
     by_cases U:b=10
     ·grind
     ·obtain⟨y,br,aB,bt⟩:=Ji U t;grind
   obtain⟨g,aD⟩:=Pr;rw[aD,x8];rfl
  ·rw[e,WU O (10::r) t [] [] (by
    grind [OY]),OY,ah,x8,aQi,ajq]
   by_cases U:o_ (x::xs)=true
   ·grind
   ·rw[if_neg U,if_neg U];rfl
theorem ajr{n:Nat}:Jc n r=true<->r.length≠n\/r.length<2\/r.length > 62\/r.all fk=false:=by
 grind [Jc]
theorem aEL{ab:z2'}(h:ab≠[]):(decide (ab.length<2)||decide (ab.length > 9)||decide ((ab.getD 0 []).length<2)||decide ((ab.getD 0 []).length > 62)||ab.any λr=>decide (r.length≠(ab.getD 0 []).length)||!r.all fk)=!o_ ab:=by
 have hm:ab.getD 0 []∈ab:=by grind
 grind [o_,ajr]
structure j_(m:h5)(a7:List (List mo))(O:List (z2')):Prop where
 ko:(m.map (·.1)).Nodup
 ok:∀ b∈a7,∀ h∈b,qF m h
 ids:(a7.flatten.map (·.1)).Nodup
 zN:a7.map (dw m)=O.map (List.map c_)
structure sr(m0 m:h5)(a7:List (List mo)):Prop where
 qR:∀ id∈m0.map (·.1),cQ m id=cQ m0 id/\id∈m.map (·.1)
 fr:∀ id∈a7.flatten.map (·.1),id ∉ m0.map (·.1)
theorem OZ:m.any (λp=>p.1 == id)=true<->id∈m.map (·.1):=by
 simp
variable {r:z1'}
theorem WV{j:Nat}(h:j≠id):cQ ((id,r)::m) j=cQ m j:=by
 grind [cQ]
theorem ajs:cQ ((id,r)::m) id=r:=by
 unfold cQ;simp
theorem qF.key(k:qF m h):h.1∈m.map (·.1):=OZ.1 k.1
theorem j_.start{a7 O}(h:j_ m a7 O):j_ m (a7++[[]]) (O++[[]]) where
 ko:=h.ko
 ok:=λb U k an=>by
  rcases List.mem_append.1 U with U | U
  ·exact h.ok b U k an
  grind
 ids:=by simpa using h.ids
 zN:=by rw[aPZ,aPZ,h.zN];rfl
theorem ajt(h:∀ k∈b,qF m k)(aA:id ∉ m.map (·.1)):dw ((id,r)::m) b=dw m b:=by
 refine aPF λk an=>WV λe=>aA ?_;rw[<-e];exact (h k an).key
theorem aju{k:mo}(h:qF m k)(aA:id ∉ m.map (·.1)):qF ((id,r)::m) k:=by
 obtain⟨E,L,ak⟩:=h;refine⟨OZ.2 (amr _ (OZ.1 E)),L,?_⟩;grind [WV]
variable {af:Type}
theorem ajv(a7:List (List af))(b:List af)(x:af):(a7++[b++[x]]).flatten=(a7++[b]).flatten++[x]:=by simp
theorem j_.push{a7 b O ab}(h:j_ m (a7++[b]) (O++[ab]))(aA:id ∉ m.map (·.1))(t:List UInt8) :
  j_ ((id,c_ t)::m) (a7++[b++[(id,0,t.length)]]) (O++[ab++[t]]) where
 ko:=by
  rw[aPS,aQ0];exact⟨aA,h.ko⟩
 ok:=λc hc k an=>by
  rcases List.mem_append.1 hc with hc | hc
  ·exact aju (h.ok c (aQS _ hc) k an) aA
  ·rw[aQO]at hc;subst hc;rcases List.mem_append.1 an with an | an
   ·exact aju (h.ok b (by simp) k an) aA
   ·rw[aQO]at an;subst an;exact⟨OZ.2 (by simp),rfl,by rw[ajs,oC]⟩
 ids:=by
  rw[ajv,aPZ,List.nodup_append];refine⟨h.ids,by simp,λa aW c hc=>?_⟩;rw[aPS,List.map_nil,aQO]at hc;subst hc;intro e;subst e;obtain⟨k,an,e⟩:=List.mem_map.1 aW;obtain⟨c,hc,WW⟩:=List.mem_flatten.1 an;exact aA (by rw[<-e];exact (h.ok c hc k WW).key)
 zN:=by
  have aw:=h.zN;rw[aPZ,aPZ]at aw;have ah:(a7.map (dw m)).length=(O.map (List.map c_)).length:=by
   have:=congrArg List.length aw;simpa using this
  obtain⟨d1,d2⟩:=List.append_inj aw ah;rw[aPZ,aPZ,<-d1];congr 1
  ·exact aPF λc hc=>ajt (λk an=>h.ok c (aQS _ hc) k an) aA
  ·simp only[aPS,List.map_nil,List.cons.injEq,aQ7]at d2 ⊢;rw[aPZ,<-d2];have e:dw ((id,c_ t)::m) (b++[(id,0,t.length)])=dw ((id,c_ t)::m) b++[cQ ((id,c_ t)::m) id]:=by unfold dw;rw[aPZ];rfl
   rw[e,ajs,ajt (λk an=>h.ok b (by simp) k an) aA];rfl
variable {m0:h5}
theorem sr.start{a7}(h:sr m0 m a7):sr m0 m (a7++[[]]):=⟨h.qR,by simpa using h.fr⟩
theorem sr.push{a7 b}(h:sr m0 m (a7++[b]))(aA:id ∉ m.map (·.1))(r:z1')(n:Nat):sr m0 ((id,r)::m) (a7++[b++[(id,0,n)]]) where
 qR:=λj aJ=>by
  obtain⟨E,L⟩:=h.qR j aJ;grind [WV]
 fr:=λj aJ=>by
  rw[ajv,aPZ]at aJ;rcases List.mem_append.1 aJ with aJ | aJ
  ·exact h.fr j aJ
  ·rw[aPS,List.map_nil,aQO]at aJ;subst aJ;exact λk=>aA (h.qR _ k).2
theorem sr.drop{a7}(h:sr m0 m a7):sr m0 m []:=⟨h.qR,by simp⟩
theorem j_.drop{a7 O}(h:j_ m a7 O):j_ m [] []:=⟨h.ko,by simp,by simp,rfl⟩
theorem aEM(l:List Nat):∃ id,¬List.Mem id l:=by
 refine⟨l.foldl (λa b=>max a b) 0+1,λh=>?_⟩;have key:∀ (l:List Nat) (n:Nat),n<=l.foldl (λa b=>max a b) n/\∀ x∈l,x<=l.foldl (λa b=>max a b) n:=by
  intro l;induction l<;>grind
 have:=(key l 0).2 _ h;omega
theorem aEN{q p:af->Prop}:c6 (mM q) p<->(∃ x,q x)/\∀ x,q x->p x:=Iff.rfl
abbrev O0:aN:=⟨.au .str .str,.au .str (.au .str .bool),λx=>x.2=[10,10]/\List.length x.1<4294967281,λx=>match oE x.1 with | some p=>(p.1,p.2,true) | none=>(x.1,[],false)⟩
abbrev O1:aN:=⟨.au .str .str,.slice .str,λx=>x.2=[10]/\List.length x.1<4294967281,λx=>jx x.1⟩
def O2(r:z1')(w:Option Int):Bool:=decide ((r.length:Int)≠w.getD 0)||!(fh r).all fk
abbrev wz:aN:=⟨.au (.slice (.int .u8)) (.bM (.int .i64)),.bool,λx=>∃ w,x.2=some w,λx=>O2 x.1 x.2⟩
theorem aEO(x):a6 (aip Ov.sh x) (wz.sh x):=bx λ_=>by
 grind [aip,O2,aN.sh,sy,lK,aK]
abbrev ajw:Type:=List UInt8×h5×Unit
abbrev ajx:Type:=Bool×List (List mo)×h5×Unit
def ajy(x:ajw)(y:ajx):Prop:=y.1=(iT x.1).1/\j_ y.2.2.1 y.2.1 (if (iT x.1).1=true then (iT x.1).2 else [])/\sr x.2.1 y.2.2.1 y.2.1
def O3(x:ajw):M ajx:=⟨x.1.length<65536/\(x.2.1.map (·.1)).Nodup,ajy x⟩
theorem aEP(x):a6 (aiA O0.sh O1.sh (h4 (.slice (.int .u8))).pre (h4 (.slice (.int .u8))).g wz.sh x) (O3 x):=λh=>by
 obtain⟨f,m0,u⟩:=x;obtain⟨E,L⟩:=h;change f.length<65536 at E;change (m0.map (·.1)).Nodup at L;show c6 _ (ajy (f,m0,u));unfold aiA;dsimp only;rw[fD];refine zX (λs=>∃ O,j_ s.2.2.1 s.2.1 O/\sr m0 s.2.2.1 s.2.1/\wq (lX s.1 ([],O,[]))=iT f/\s.2.1.length+s.1.length<=f.length) (λs=>s.1.length) ?_ _ ?_
 ·rintro⟨file,a7,m,u⟩ ⟨O,dx,ec,jF,g4⟩;change j_ m a7 O at dx;change sr m0 m a7 at ec;change wq (lX file ([],O,[]))=iT f at jF;change a7.length+file.length<=f.length at g4;dsimp only;by_cases ax:file=[]
  ·subst ax;rw[if_neg (by simp),aK];refine dF.2 ?_;show c6 (mpure (true,a7,m,())) _;refine dF.2 ?_;have e:iT f=(true,O):=jF.symm;refine⟨by rw[e],?_,ec⟩;show j_ m a7 (if (iT f).1=true then (iT f).2 else []);rw[e];exact dx
  ·rw[if_pos (aPR ax),show O0.sh (file,[10,10])=mpure (match oE file with | some p=>(p.1,p.2,true) | none=>(file,[],false)) from bN (show ([10,10]:List UInt8)=[10,10]/\file.length<4294967281 from⟨rfl,by omega⟩) _,aK];cases hc:oE file with
   | none=>
    have U:(iT f).1=false:=by grind [aEJ]
    rw[aK,aK];refine dF.2 ?_;refine dF.2 ⟨U.symm,?_,ec.drop⟩;rw[U];exact dx.drop
   | some p=>
    obtain⟨t,r⟩:=p;have Fc:=aEK (O:=O) hc;rw[jF]at Fc;obtain⟨aPc,_⟩:=WS _ _ _ hc;have gX:file.length=t.length+2+r.length:=by grind
    obtain⟨fx,gB⟩:=ajo t;have eM:=OU t;dsimp only;rw[if_neg (by decide),show O1.sh (t,[10])=mpure (jx t) from bN (show ([10]:List UInt8)=[10]/\t.length<4294967281 from⟨rfl,by omega⟩) _,aK];generalize kn:jx t=ab at Fc fx gB eM;rw[fD];refine WE ab.length (λi s=>s.1=r/\s.2.1=ab/\s.2.2.1=ab.length/\s.2.2.2.1=i/\s.2.2.2.2.1=a7/\s.2.2.2.2.2.1.length=i/\j_ s.2.2.2.2.2.2.1 (a7++[s.2.2.2.2.2.1]) (O++[ab.take i])/\sr m0 s.2.2.2.2.2.2.1 (a7++[s.2.2.2.2.2.1])) ⟨rfl,rfl,rfl,rfl,rfl,rfl,dx.start,ec.start⟩ ?_ ?_
    ·rintro i G ⟨s1,s2,e4,kH,mI,b,dp,ns⟩ ⟨aB,bt,cT,bW,ek,l1,aM,aS⟩;change s2=ab at bt;subst aB bt cT bW ek;have hw:=bp (n:=i+1);simp only[ct,dP G,if_true,dt G,cj,dd,hw];rw[fD,h6];refine⟨by grind [cb],aEN.2 ⟨aEM _,λid hid=>?_⟩⟩;rw[h6];refine⟨by grind [cb],dF.2 ?_⟩;refine⟨rfl,rfl,rfl,?_,rfl,by grind,?_,aS.push hid _ _⟩
     ·rfl
     ·have:=aM.push hid s2[i];simp_all
    ·rintro⟨s1,s2,e4,kH,mI,b,dp,ns⟩ ⟨aB,bt,cT,bW,ek,l1,aM,aS⟩;change s2=ab at bt;change b.length=ab.length at l1;subst aB bt cT bW ek;rw[if_neg (by simp),aK];refine dF.2 ?_;show c6 (ag _ _) _;simp only[Prod.cu,ct];have aPd:=List.length_pos_iff.2 eM;have vm:0<b.length:=by omega
     have aEQ:dw dp b=s2.map c_:=by
      have aw:=aM.zN;simp_all
     have b5:=λk an=>aM.ok b (by simp) k an;obtain⟨d1,d2⟩:=Fa b5;have xr:((b.getD 0 (0,0,0)).2.2)=(s2.getD 0 []).length:=by
      rw[(b5 _ (WL vm)).2.2,<-OQ vm];grind [oC]
     have z:(0:Int).toNat=0:=rfl;have Fe:=aEL eM;generalize hw:(s2.getD 0 []).length=w at xr Fe;have bE:decide ((b.length:Int)<2)=decide (s2.length<2):=decide_eq_decide.2 (by omega);have c2:decide ((b.length:Int) > 9)=decide (s2.length > 9):=decide_eq_decide.2 (by omega);have c3:decide ((w:Int)<2)=decide (w<2):=decide_eq_decide.2 (by omega);have c4:decide ((w:Int) > 62)=decide (w > 62):=decide_eq_decide.2 (by omega);have aER:∀ y,wz.sh (y,some (w))=mpure (O2 y (some (w))):=λy=>bN ⟨_,rfl⟩ _;have Jh:gw (.int .u8) dp (.au (.slice (.cN (.int .u8))) (.fn (.slice (.int .u8)) .bool)) (b,λx=>wz.sh (x,some (w)))=((s2.map c_,λx=>wz.sh (x,some (w)))):=by
      rw[<-aEQ];exact congrArg (λz=>((z,λx=>wz.sh (x,some (w))))) d2
     have uu:((s2.map c_).any λy=>(wz.sh (y,some (w))).val false)=s2.any λr=>decide (r.length≠w)||!r.all fk:=by
      grind [List.any_map,kp,O2,Cf,oC]
     simp only[z,xr,bE,c2,c3,c4];erw [Jh];erw [uu];rw[h6];refine⟨⟨aPL _,by omega⟩,?_⟩;rw[h6];refine⟨λe=>⟨⟨e,e,trivial⟩,⟨⟨d1,trivial⟩,⟨by grind,λy _=>⟨_,aER y⟩⟩⟩,trivial⟩,?_⟩;rw[Fe];cases aX:o_ s2 with
     | false=>
      rw[aX]at Fc;rw[aK,aK];refine dF.2 ?_;refine dF.2 ⟨?_,?_,aS.drop⟩
      ·grind
      ·rw[Fc];exact aM.drop
     | true=>
      grind [h6,cb,dF]
 ·exact⟨[],⟨L,by simp,by simp,rfl⟩,⟨λid hid=>⟨rfl,hid⟩,by simp⟩,rfl,by simp⟩
abbrev gi(l:z2'):List (z1'):=l.map c_
theorem ajz(r:List UInt8)(k:Nat):c_ (r.take k)=(c_ r).take k:=by simp_all[c_]
variable {l:z2'}
theorem fI.nL{W:Nat}(h:fI W l):pX W (gi l):=by
 obtain⟨E,L,ak,aZ,bP⟩:=h;refine⟨by grind,by grind,ak,aZ,λr D=>?_⟩;grind [oC,x2]
variable {r:List UInt8}
theorem aES{W:Nat}(h:r.length=W)(ar:r.all fk=true):Ww W r=jw (c_ r):=by
 grind [Ww,jw,oC,Ja,ajz,Ox,UInt8.toNat_inj]
theorem aET{W:Nat}(h:∀ r∈l,r.length=W/\r.all fk=true)(hc:c<W):(Ci l (c:Int)).all fk=true:=aiR λr D=>⟨(h r D).2,by grind⟩
theorem O4:(gi l).getD k []=c_ (l.getD k []):=by
 rw[amp,amp,aQW];cases l[k]?<;>rfl
theorem aEU{W:Nat}(h:fI W l)(hc:c<W):Wx l c=kt (gi l) c:=by
 obtain⟨E,L,ak,aZ,bP⟩:=h;grind [Wx,kt,Ja,List.map_take,Wp,Ox,aET,UInt8.toNat_inj]
theorem aEV{W:Nat}(h:fI W l):Wy W l=jN (gi l):=by
 unfold Wy jN;rw[aPJ];refine aQf λv ae=>?_;obtain⟨i,G,rfl⟩:=List.mem_map.1 ae;rw[O4];have hm:l.getD i []∈l:=by grind
 exact aES (h.2.2.2.2 _ hm).1 (h.2.2.2.2 _ hm).2
theorem aEW{W:Nat}(h:fI W l):aiU W l=kO W (gi l):=by
 refine aQf λv ae=>?_;obtain⟨i,G,rfl⟩:=List.mem_map.1 ae;grind [aEU]
def iU(l:z2'):z16':=k2 (fv l) (gi l)
def uY(R:List (z1')):List (z1'):=if (k2 (wv R) R).1=1 then nP R (k2 (wv R) R).2.1 (k2 (wv R) R).2.2 else R
def iG(l:z2'):z2':=(uY (gi l)).map fh
theorem Jj(W:Nat)(R:List (z1')) :
  (k2 W R=(0,0,0)/\(jN R).length+(kO W R).length=0)\/
  (k2 W R=(2,0,0)/\(jN R).length+(kO W R).length≠0)\/
  (∃ i j:Nat,k2 W R=(1,(i:Int),(j:Int))/\i<R.length/\j<W/\jN R=[(i:Int)]/\kO W R=[(j:Int)]/\kt (nP R (i:Int) (j:Int)) j=false):=by
 unfold k2;by_cases bE:(jN R).length+(kO W R).length=0
 ·grind
 ·by_cases c2:(jN R).length≠1\/(kO W R).length≠1
  ·grind
  ·obtain⟨v1,aB⟩:=List.length_eq_one_iff.1 (show (jN R).length=1 by omega);obtain⟨ai,bt⟩:=List.length_eq_one_iff.1 (show (kO W R).length=1 by omega);obtain⟨i,G,rfl,bg⟩:=E_.1 (show v1∈jN R by grind);obtain⟨j,aJ,rfl,oI⟩:=E'.1 (show ai∈kO W R by grind);grind
theorem zO(h:k<R.length):R.getD k []∈R:=by
 grind
theorem aEX{W:Nat}(h:pX W R){j:Nat}(G:i<R.length)(aJ:j<W):pX W (nP R (i:Int) (j:Int)):=by
 obtain⟨E,L,ak,aZ,bP⟩:=h;have D:=bP _ (zO G);have uX:lu (R.getD i []):=⟨by omega,by omega,D.2⟩
 have j5:=Jf uX (a:=j) (by omega) (by omega);unfold nP;refine⟨by grind,by grind,ak,aZ,λr bj=>?_⟩;rcases List.mem_or_eq_of_mem_set bj with h | h
 ·grind
 ·rw[h,OM];exact⟨D.1,(zK uX j5.1).2.2⟩
theorem ajA{W:Nat}(h:pX W R):pX W (uY R):=by
 have hw:=h.wide;grind [uY,Jj,aEX]
theorem ajB{W:Nat}(h:pX W R):gi (R.map fh)=R:=by
 have:R.map (c_ ∘ fh)=R.map id:=aPF λr D=>Wl λv ae=>by
  have:=oB.1 (List.all_eq_true.1 (h.2.2.2.2 r D).2 v ae);omega
 simp_all
theorem ajC{W:Nat}(h:pX W (gi l)):fI W l:=by
 obtain⟨E,L,ak,aZ,bP⟩:=h;rw[aPJ]at E L;refine⟨E,L,ak,aZ,λr D=>?_⟩;grind [List.mem_map_of_mem,oC,x2]
theorem fI.wide{W:Nat}(h:fI W l):fv l=W:=by
 have aV:0<l.length:=by have:=h.1;omega
 unfold fv;rw[amp,ams aV];exact (h.2.2.2.2 _ (amm aV)).1
theorem WX{W:Nat}(h:fI W l):gi (iG l)=uY (gi l):=ajB (ajA h.nL)
theorem ajD{W:Nat}(h:fI W l):fI W (iG l):=ajC (by rw[WX h];exact ajA h.nL)
theorem WY(l:z2'):(gi l).map fh=l:=by
 have:l.map (fh ∘ c_)=l.map id:=aPF λr _=>Cf r;simp_all
theorem aEY(h:(k2 (wv (gi l)) (gi l)).1≠1):iG l=l:=by
 grind [iG,uY,WY]
theorem WZ{a7:List (List mo)}(h:i<a7.length):a7.getD i []∈a7:=by
 grind
theorem j_.fG{m a7 O}(h:j_ m a7 O)(G:i<a7.length):dw m (a7.getD i [])=gi (O.getD i []):=by
 have aw:=congrArg (λl=>l.getD i []) h.zN;grind
theorem j_.len{m a7 O}(h:j_ m a7 O):a7.length=O.length:=by have:=congrArg List.length h.zN;grind
theorem aEZ{a7:List (List mo)}:∀ (_:(a7.flatten.map (·.1)).Nodup),(∀ b∈a7,(b.map (·.1)).Nodup)/\∀ i j,i<a7.length->j<a7.length->i≠j->∀ id∈(a7.getD i []).map (·.1),id ∉ (a7.getD j []).map (·.1):=by
 induction a7 with
 | nil=>simp
 | cons b a7 aO=>
  intro h;rw[aRc,aPZ,List.nodup_append]at h;obtain⟨E,L,ak⟩:=h;obtain⟨aM,aS⟩:=aO L;refine⟨λc hc=>?_,λi j G aJ AG id hid=>?_⟩
  ·grind
  ·cases i with
   | zero=>
    grind
   | succ i=>
    cases j with
    | zero=>grind
    | succ j=>exact aS i j (by grind) (by grind) (by omega) id hid
theorem j_.fi{m a7 O}(h:j_ m a7 O){W:Nat}(G:i<a7.length)(ay:fI W (O.getD i [])) :
  WN (a7.getD i [],m,())/\wx (a7.getD i [],m,())=iU (O.getD i [])/\j_ (x7 (a7.getD i [],m,())) a7 (O.set i (iG (O.getD i [])))/\∀ id,id ∉ (a7.getD i []).map (·.1)->cQ (x7 (a7.getD i [],m,())) id=cQ m id:=by
 have hR:=h.fG G;have aE0:=ay.nL;have aE1:=aE0.wide;have aPe:=ay.wide;obtain⟨f1,f2⟩:=aEZ h.ids;have U:=WZ G;have wX:=h.len;have Fb:wx (a7.getD i [],m,())=iU (O.getD i []):=by
  show k2 (wv (dw m (a7.getD i []))) (dw m (a7.getD i []))=k2 (fv (O.getD i [])) (gi (O.getD i []));grind
 have hq:WN (a7.getD i [],m,()):=⟨h.ko,h.ok _ U,f1 _ U,W,by grind⟩
 have j5:uY (gi (O.getD i []))=if (iU (O.getD i [])).1=1 then nP (gi (O.getD i [])) (iU (O.getD i [])).2.1 (iU (O.getD i [])).2.2 else gi (O.getD i []):=by
  grind [uY,iU]
 have key:∀ dp,(dp.map (·.1)).Nodup->(∀ b∈a7,∀ k∈b,qF dp k)->dw dp (a7.getD i [])=uY (gi (O.getD i []))->(∀ j,j<a7.length->j≠i->dw dp (a7.getD j [])=dw m (a7.getD j []))->j_ dp a7 (O.set i (iG (O.getD i []))):=λdp eB eC lf n4=>by
  refine⟨eB,eC,h.ids,?_⟩;refine aQX (by grind) λj E L=>?_;have aJ:j<a7.length:=by grind
  have C2:a7[j]=a7.getD j []:=by grind
  have aE2:O[j]=O.getD j []:=by grind
  rw[aQp,aQp,List.getElem_set,C2];by_cases e:i=j
  ·grind [WX]
  ·rw[if_neg e,aE2,n4 j aJ λk=>e k.symm,h.fG aJ]
 refine⟨hq,Fb,?_⟩;unfold x7;rw[Fb];unfold iU at j5 ⊢;rcases Jj (fv (O.getD i [])) (gi (O.getD i [])) with⟨e,_⟩ | ⟨e,_⟩ | ⟨r,a,e,D,aW,_,_,_⟩
 ·rw[e]at j5 ⊢;exact⟨key m h.ko h.ok (by grind) λj _ _=>rfl,λ_ _=>rfl⟩
 ·rw[e]at j5 ⊢;exact⟨key m h.ko h.ok (by grind) λj _ _=>rfl,λ_ _=>rfl⟩
 ·rw[e]at j5 ⊢;rw[if_pos rfl]at j5 ⊢;have eD:r<(a7.getD i []).length:=by grind [WK]
  refine⟨key _ (by rw[ai9];exact h.ko) (λb U k an=>aje (h.ok b U k an) _ _ _) ?_ ?_,?_⟩
  ·grind [WM,nP,jv]
  ·grind [ajf]
  grind [Je]
theorem ajE(O:List (z2'))(b6:List UInt8):∀ (r cur:List UInt8) (ab:z2'),r.all fk=true->cur++r≠[]->lX (r++10::b6) (cur,O,ab)=lX b6 ([],O,ab++[cur++r])
 | [],cur,ab,_,h=>by
  grind [x8,OW]
 | b::r,cur,ab,aW,h=>by
  simp only[aQq,amn]at aW;have U:b≠10:=λe=>by rw[e]at aW;exact absurd aW.1 (by decide)
  rw[aRl,x8,OV U];have:=ajE O b6 r (cur++[b]) ab aW.2 (by simp);grind
theorem ajF(O:List (z2'))(b6:List UInt8):∀ (l ab:z2'),(∀ r∈l,r≠[]/\r.all fk=true)->lX (kr l++b6) ([],O,ab)=lX b6 ([],O,ab++l)
 | [],ab,_=>by simp[kr]
 | r::l,ab,h=>by
  obtain⟨E,L⟩:=h r (by simp);have aO:=ajF O b6 l (ab++[r]) λr D=>h r (amr _ D);grind [kr,ajE]
theorem aE3{W:Nat}(h:fI W l):o_ l=true:=by
 obtain⟨E,L,ak,aZ,bP⟩:=h;grind [o_,ajr]
theorem aE4{W:Nat}(h:fI W l)(O:List (z2'))(b6:List UInt8):lX (eI l++b6) ([],O,[])=lX b6 ([],O++[l],[]):=by
 have e:eI l++b6=kr l++10::b6:=by unfold eI;simp
 rw[e,ajF O (10::b6) l [] λr D=>⟨λk=>by have:=(h.2.2.2.2 r D).1;have:=h.2.2.1;grind,(h.2.2.2.2 r D).2⟩,aQi,x8,ajq,if_pos (aE3 h)]
theorem ajG:∀ (B O:List (z2')),(∀ l∈B,fI (fv l) l)->wq (lX (B.flatMap eI) ([],O,[]))=(true,O++B)
 | [],O,_=>by
  rw[aPN];rfl
 | l::B,O,h=>by
  rw[aQd,aE4 (h l (by simp)),ajG B (O++[l]) λet ah=>h et (amr _ ah)];simp
theorem W0{B:List (z2')}(h:∀ l∈B,fI (fv l) l):iT (B.flatMap eI)=(true,B):=by
 have:=ajG B [] h;exact this
theorem ajH{w:Nat}(h:t.length<=w)(aPf:w<=60):sq (rs w t)=some t:=by
 have ah:(rs w t).length=w+2:=by grind [rs,Cj]
 have aV:(rs w t).getD 0 0=E5 t.length:=by rfl
 have aA:=Wo (n:=t.length) (by omega) (by omega);unfold sq;rw[aV,if_neg (by omega)];have e:(1+((t.length:Int)+32 - 32)).toNat=1+t.length:=by omega
 grind [rs,Cj]
variable {x:z2'}
theorem ajI(h:∀ t∈x,gP t)(E:1<=x.length)(kP:x.length<=8):fI (fu x+2) (hT x):=by
 have hw:=I9 h;have ah:=aD7 x;exact⟨by omega,by omega,by omega,by omega,λr D=>aD6 h r D⟩
theorem ajJ(x:z2'):(hT x).take ((hT x).length - 1)=x.map (rs (fu x)):=by
 grind [hT,List.take_left]
theorem Jk(l:z2'):lv l=((gH l).map hT).flatMap eI:=by
 grind [lv,List.flatMap_map]
theorem Jl(h:∀ t∈l,gP t):∀ b∈(gH l).map hT,fI (fv b) b:=λb U=>by
 obtain⟨c,hc,rfl⟩:=List.mem_map.1 U;obtain⟨bE,c2,c3⟩:=Jb h c hc;have:=ajI c3 c2 bE;rw[this.wide];omega
theorem aE5(h:∀ t∈l,gP t):iT (lv l)=(true,(gH l).map hT):=by
 grind [Jk,W0,Jl]
theorem ajK{af:Type}:∀ (f:Nat) (l:List af),l.length<=f->(so f l).flatten=l
 | 0,l,h=>by
  have:l=[]:=aPU (by omega);subst this;rfl
 | f+1,[],_=>rfl
 | f+1,t::l,h=>by
  unfold so;rw[aRc,ajK f _ (by grind),aQL]
theorem aE6(l:List af):(gH l).flatten=l:=ajK _ _ (amo _)
theorem W1(h:∀ t∈x,gP t):∀ t∈x,t.length<=fu x:=(E6 x 0 (λt aG=>(h t aG).1) (by omega)).2.2
theorem ajL:∀ (l:z2') (ts o:z2'),l.map sq=ts.map some->tD l o=some (o++ts)
 | [],ts,o,h=>by
  simp_all[tD]
 | r::l,[],o,h=>by grind
 | r::l,t::ts,o,h=>by
  simp  at h;unfold tD;rw[h.1];dsimp only;rw[ajL l ts (o++[t]) h.2];simp
theorem aE7(h:∀ t∈x,gP t)(o:z2'):tD ((hT x).take ((hT x).length - 1)) o=some (o++x):=by
 grind [ajJ,ajL,List.map_congr_left,ajH,W1,I9]
theorem ajM:∀ (c:List (z2')) (s:List UInt8×z2'),(∀ x∈c,∀ t∈x,gP t)->wu (c.map hT) s=some (s.1++(c.map hT).flatMap eI,s.2++c.flatten)
 | [],s,_=>by simp[wu]
 | x::c,s,h=>by
  simp  [wu];rw[aE7 (h x (by simp))];dsimp only;rw[ajM c _ λx ao=>h x (amr _ ao)];simp
theorem ajN(h:∀ t∈l,gP t)(nM:l.length<=40):tC l=(lv l,0):=by
 grind [tC,I']
theorem aE8(h:(tC l).2=0):(∀ t∈l,gP t)/\l.length<=40/\tC l=(lv l,0):=by
 grind [tC,I']
theorem aE9(h:∀ t∈l,gP t)(nM:l.length<=40):uV ((gH l).map hT)=(l,true):=by
 unfold uV;rw[ajM _ _ λx ao=>(Jb h x ao).2.2];grind [aE6,ajN,Jk]
def O5(r:List UInt8):List UInt8:=zF (c_ r)
def pY(l:z2'):z2':=(l.take (l.length - 1)).map O5
def wA(O:List (z2')):z2'×Bool:=(O.flatMap pY,decide ((tC (O.flatMap pY)).2=0)&&decide ((tC (O.flatMap pY)).1=O.flatMap eI))
theorem aE_(h:sq r=some t):O5 r=t:=by
 unfold sq at h;have bL:=Ja r 0;by_cases hc:((r.getD 0 0).toNat) - 32 > (r.length:Int) - 2
 ·grind
 ·rw[if_neg hc]at h;cases h;unfold O5 zF zE;rw[bL,oC,<-ajz];have e:min (((r.getD 0 0).toNat:Int) - 32) (r.length - 2)=((r.getD 0 0).toNat) - 32:=by omega
  rw[e];have bt:∀ s,(c_ s).drop 1=c_ (s.drop 1):=λs=>by simp_all[c_]
  rw[bt,Cf]
theorem ajO:∀ (l o:z2'),(∀ r∈l,sq r≠none)->tD l o=some (o++l.map O5)
 | [],o,_=>by simp[tD]
 | r::l,o,h=>by
  unfold tD;cases bq:sq r with
  | none=>grind
  | some t=>
   dsimp only;rw[ajO l _ λr D=>h r (amr _ D),aPS,aE_ bq];simp
theorem ajP:∀ (l o:z2'),(∃ r∈l,sq r=none)->tD l o=none
 | [],o,h=>by grind
 | r::l,o,h=>by
  unfold tD;cases bq:sq r with
  | none=>rfl
  | some t=>
   obtain⟨jO,bj,eX⟩:=h;rcases List.mem_cons.1 bj with rfl | bj
   ·grind
   ·exact ajP l _ ⟨jO,bj,eX⟩
theorem ajQ:∀ (O:List (z2')) (s:List UInt8×z2'),(∀ l∈O,∀ r∈l.take (l.length - 1),sq r≠none)->wu O s=some (s.1++O.flatMap eI,s.2++O.flatMap pY)
 | [],s,_=>by simp[wu]
 | l::O,s,h=>by
  unfold wu;rw[ajO _ _ (h l (by simp))];dsimp only;rw[ajQ O _ λl ah=>h l (amr _ ah)];simp[pY]
theorem ajR:∀ (O:List (z2')) (s:List UInt8×z2'),(∃ l∈O,∃ r∈l.take (l.length - 1),sq r=none)->wu O s=none
 | [],s,h=>by grind
 | l::O,s,h=>by
  unfold wu;cases bq:tD (l.take (l.length - 1)) s.2 with
  | none=>rfl
  | some o=>
   obtain⟨et,rR,eX⟩:=h;rcases List.mem_cons.1 rR with rfl | rR
   ·grind [ajP]
   ·exact ajR O _ ⟨et,rR,eX⟩
theorem aE'(h:∀ l∈O,fI (fv l) l):(wA O).2=(uV O).2/\((uV O).2=true->(wA O).1=(uV O).1):=by
 by_cases U:∃ l∈O,∃ r∈l.take (l.length - 1),sq r=none
 ·have e:uV O=([],false):=by grind [uV,ajR]
  rw[e];refine⟨?_,λk=>by grind⟩;cases hu:(wA O).2 with
  | false=>rfl
  | true=>
   unfold wA at hu;simp  at hu;obtain⟨b5,nM,hw⟩:=aE8 hu.1;rw[hw]at hu;have L:lv (O.flatMap pY)=O.flatMap eI:=hu.2;have cY:=aE5 b5;rw[L,W0 h]at cY;have yR:=(Prod.mk.inj cY).2;obtain⟨l,ah,r,D,aA⟩:=U;rw[yR]at ah;obtain⟨c,hc,rfl⟩:=List.mem_map.1 ah;have aPg:=(Jb b5 c hc).2.2;grind [ajJ,ajH,W1,I9]
 grind [uV,wA,ajQ]
abbrev x9:aN:=⟨.slice (.slice (.slice (.int .u8))),.au (.slice .str) .bool,λx=>List.length x<65536/\∀ l∈(x:List (List (z1'))),pX (wv l) l,λx=>wA (List.map (List.map fh) (x:List (List (z1'))))⟩
theorem ajS(l:z2'):(pY l).length=l.length - 1:=by unfold pY;simp
theorem aFa(x):a6 (ail x4.sh sk.sh Ce zD Of.sh x) (x9.sh x):=bx λh=>by
 obtain⟨E,L⟩:=h;obtain⟨O,yR⟩:∃ O:List (z2'),O=x.map (List.map fh):=⟨_,rfl⟩
 have ao:x=O.map gi:=by
  have:x.map (gi ∘ List.map fh)=x.map id:=aPF λl ah=>ajB (L l ah);simp_all
 have jg:∀ l∈O,fI (fv l) l:=λl ah=>by
  have:=L (gi l) (by grind);have:=ajC this;rw[this.wide];omega
 have aD:x9.g x=wA O:=by grind
 rw[aD];subst ao;rw[aPJ]at E;clear yR aD L;unfold ail b3 eV cm bg a8 bK;rw[aK,cK];rw[e6 O (λi s=>(O.map gi,(O.length:Int),(i:Int),s.1,s.2,())) (λl s=>.next (s.1++pY l,s.2++c_ (eI l))) (λs=>.next (s.1,s.2,())) (λi s=>s.1.length<=8*i/\s.2.length<=600*i) ([],[]) ?_ ?_ ?_ ?_]
 ·rw[ee,aK,cK];have e:∀ (l:List (z2')) (s:z2'×z1'),l.foldl (λs l=>(s.1++pY l,s.2++c_ (eI l))) s=(s.1++l.flatMap pY,s.2++c_ (l.flatMap eI)):=by
   intro l;induction l with
   | nil=>grind [c_]
   | cons b l aO=>grind [c_]
  rw[e];rw[aQi];have uJ:∀ l:List (z2'),(∀ b∈l,fI (fv b) b)->(l.flatMap pY).length<=8*l.length:=by
   intro l;induction l with
   | nil=>simp
   | cons b l aO=>
    intro U;have gK:=(U b (by simp)).2.1;grind [ajS]
  have uJ:=uJ O jg;rw[show x4.sh (O.flatMap pY)=mpure (tC (O.flatMap pY)) from (bN (by omega) _).trans (by rw[<-aiT])];unfold wA;grind [zD,Cf,aK,bb]
 ·simp
 ·simp
 ·intro i G s ay;obtain⟨ts,own⟩:=s;have hw:=bp (n:=i+1);have ah:=jg _ (amm G);have ajT:=ah.nL;have Iw:=OD ah;have wb:(O.map gi).getD i []=gi O[i]:=by grind
  have uW:((i:Int)).toNat=i:=rfl;have hlen:=ah.2.1;have aPh:=ah.1;have aG:Of.sh (gi O[i])=mpure (pY O[i]):=(bN (⟨⟨by grind,by grind⟩,λr D=>ajT.fG D⟩) _).trans (by
   show mpure (((gi O[i]).take ((gi O[i]).length - 1)).map zF)=_;rw[aPJ,<-List.map_take,aQE];rfl)
  have ao:sk.sh (gi O[i])=mpure (eI O[i]):=(bN (⟨by grind,λr D=>(ajT.fG D).2.1⟩) _).trans (by
   grind [Oy,Cf])
  refine⟨?_,λs' vf=>?_⟩
  ·simp only[dP G,uW,ct,aPJ,dt G,cj,dd,kV,hw,wb,aG,ao,aK];have uJ:=ajS O[i];rw[bb (by grind [cb]),show Ce (eI O[i],own,())=mpure (((eI O[i]).length:Int),own++c_ (eI O[i]),()) from bN (by grind [cb]) _,aK];rfl
  grind [pY,oC]
 simp
section
variable {af:Type}
def ss(f:af->af)(B:List af)(i:Nat):List af:=(B.take i).map f++B.drop i
theorem ajU{f:af->af}{B:List af}{d:af}(h:i<B.length):(ss f B i).getD i d=B[i]:=by
 unfold ss;grind
theorem W2{f:af->af}{B:List af}(h:i<B.length):(ss f B i).set i (f B[i])=ss f B (i+1):=by
 unfold ss;grind [List.drop_eq_getElem_cons,List.take_add_one]
theorem aFb{f:af->af}{B:List af}:ss f B B.length=B.map f:=by unfold ss;simp
end
theorem aFc{a7 O}(h:j_ m a7 O):n3 (.int .u8) m (.slice (.slice (.cN (.int .u8)))) a7/\gw (.int .u8) m (.slice (.slice (.cN (.int .u8)))) a7=O.map gi:=by
 refine⟨λb U=>(Fa (h.ok b U)).1,?_⟩;rw[<-h.zN];exact aPF λb U=>(Fa (h.ok b U)).2
theorem ajV{af:Type}{f:af->Nat}{c:Nat}:∀ (l:List af),(∀ x∈l,f x<=c)->(l.map f).sum<=c*l.length
 | [],_=>aPK _
 | x::l,h=>by
  have:=ajV l λy a_=>h y (amr _ a_);grind [Nat.mul_add]
theorem W3:∀ {W:Nat} (l:z2'),(∀ r∈l,r.length=W)->(kr l).length=l.length*(W+1)
 | W,[],_=>by simp[kr]
 | W,r::l,h=>by
  have aO:=W3 l λr D=>h r (amr _ D);grind [kr]
theorem W4{W:Nat}(h:fI W l):(eI l).length=l.length*(W+1)+1:=by
 unfold eI;rw[aP1,W3 l λr D=>(h.2.2.2.2 r D).1];rfl
theorem aFd{W:Nat}(h:fI W l):(iG l).length=l.length:=by
 have E:(gi (iG l)).length=(uY (gi l)).length:=by rw[WX h]
 grind [uY,nP]
def uZ(l:z2'):Bool:=decide ((iU l).1=2)
def Ff(n:Nat)(l:z2'):Int:=if (iU l).1=1 then (n:Int)+(iU l).2.1*((fv l:Int)+1)+(iU l).2.2 else -1
def nQ(B:List (z2'))(i:Nat):Nat:=((B.take i).map λl=>(eI l).length).sum
def W5(B:List (z2')):z1':=(List.range B.length).map λk=>Ff (nQ B k) (B.getD k [])
def hL(f:List UInt8):z2'×z19':=
 if (iT f).1=false then ([],[],140)
 else if (iT f).2.any uZ=true then ([],[],141)
 else if (uV ((iT f).2.map iG)).2=false then ([],[],142)
 else ((uV ((iT f).2.map iG)).1,W5 (iT f).2,0)
theorem aFe{B:List (z2')}(h:∀ l∈B,fI (fv l) l)(i:Nat):nQ B i<=600*i:=by
 unfold nQ;have:=ajV     (B.take i) λl ah=>OD (h l (aPV ah));grind
theorem W6{B:List (z2')}(h:i<B.length):nQ B (i+1)=nQ B i+(eI B[i]).length:=by
 unfold nQ;rw[aQF];grind
theorem ajW(f:List UInt8):∀ l∈(iT f).2,fI (fv l) l:=λl ah=>aD9 ((OA f).1 l ah)
abbrev o3:aN:=⟨.str,.au (.slice .str) (.au (.slice (.int .i64)) (.int .i64)),λx=>List.length x<65536,λx=>hL x⟩
theorem Uj(x):a6 (aih O3 zM sk.pre sk.g x9.pre x9.g x) (o3.sh x):=rU λh=>by
 change List UInt8 at x;generalize x=f at h ⊢;change f.length<65536 at h;unfold aih e0 b3 eV cm bg a8 bK;show c6 _ λy=>y=hL f;unfold hL;rw[fD];refine⟨⟨h,by simp⟩,?_⟩;rintro⟨W7,a7,m,u⟩ ⟨e8,e_,_⟩;change W7=(iT f).1 at e8;change j_ m a7 (if (iT f).1=true then (iT f).2 else []) at e_;subst e8;have gK:=(OA f).2;have jg:=ajW f;dsimp only;cases aX:(iT f).1 with
 | false=>grind [dF]
 | true=>
  rw[aX,if_pos rfl]at e_;generalize (iT f).2=B at e_ gK jg;have wX:=e_.len;rw[if_neg (by decide),if_neg (by decide),fD];refine WE B.length (λi s=>s.1=(nQ B i:Int)/\s.2.1=(B.length:Int)/\s.2.2.1=(i:Int)/\s.2.2.2.1=(List.range i).map (λk=>Ff (nQ B k) (B.getD k []))/\s.2.2.2.2.1=a7/\j_ s.2.2.2.2.2.1 a7 (ss iG B i)/\∀ k,k<i->uZ (B.getD k [])=false) ⟨rfl,by rw[ct,wX],rfl,rfl,rfl,e_,λk an=>absurd an (Nat.not_lt_zero k)⟩ ?_ ?_
  ·rintro i G ⟨s1,s2,e4,kH,mI,dp,ns⟩ ⟨aB,bt,cT,bW,ek,aM,aS⟩;change s1=_ at aB;change s2=_ at bt;change e4=_ at cT;change kH=_ at bW;change mI=a7 at ek;change j_ dp a7 _ at aM;change ∀ k,k<i->_ at aS;subst aB bt cT ek;have dH:i<mI.length:=by omega
   have hw:=bp (n:=(i:Int)+1);have uW:((i:Int)).toNat=i:=rfl;have ah:=jg _ (amm G);have Jm:(ss iG B i).getD i []=B[i]:=ajU G;obtain⟨cO,cJ,gT,_⟩:=aM.fi dH (W:=fv B[i]) (by rw[Jm];exact ah);rw[Jm]at cJ gT;rw[W2 G]at gT;have aFf:B.getD i []=B[i]:=by rw[amp,ams G];rfl
   have uq:zM (mI.getD i [],dp,())=mpure ((iU B[i]).1,(iU B[i]).2,x7 (mI.getD i [],dp,()),()):=by
    unfold zM;rw[cJ];exact bN cO _
   have AH:=aFe jg i;have Iw:=OD ah;generalize ql:x7 (mI.getD i [],dp,())=Q at gT uq;have W8:=gT.fG dH;have aFg:=gT.ok _ (WZ dH);obtain⟨d1,d2⟩:=Fa aFg;have aFh:(ss iG B (i+1)).getD i []=iG B[i]:=by
    rw[<-W2 G,amp,List.getElem?_set_self (by unfold ss;simp;omega)];rfl
   rw[aFh]at W8;rw[W8]at d2;have kx:=ajD ah;have gX:=aFd ah;have h0:sk.pre (gi (iG B[i])):=⟨by rw[aPJ];have:=ah.2.1;omega,λr D=>(kx.nL.fG D).2.1⟩
   have G9:fh (oD (gi (iG B[i])))=eI (iG B[i]):=by
    grind [Oy,Cf]
   have aPi:(eI (iG B[i])).length=(eI B[i]).length:=by grind [W4]
   have aPj:=bp (n:=(nQ B i)+((eI B[i]).length));simp only[ct,dP G,if_true,uW];rw[h6];refine⟨⟨by omega,by omega⟩,?_⟩;erw [uq];rw[aK];by_cases c2:(iU B[i]).1=2
   ·rw[if_pos (aPR c2),aK,aK,aK,aK];refine dF.2 ?_;refine dF.2 ?_;rw[if_pos];exact List.any_eq_true.2 ⟨_,amm G,aPR c2⟩
   ·rw[if_neg (by grind)];have aPk:∀ k,k<i+1->uZ (B.getD k [])=false:=λk an=>by
     by_cases e:k=i
     ·subst e;rw[aFf];exact aP5 c2
     grind
    have aPl:∀ p,p=Ff (nQ B i) B[i]->kH++[p]=(List.range (i+1)).map λk=>Ff (nQ B k) (B.getD k []):=λp aj=>by
     grind [List.range_succ]
    have ajX:=W6 G;by_cases bE:(iU B[i]).1=1
    ·rw[if_pos (aPR bE)];have LY:∃ r a:Nat,iU B[i]=(1,(r:Int),(a:Int))/\r<9/\a<62:=by
      rcases Jj (fv B[i]) (gi B[i]) with⟨e,_⟩ | ⟨e,_⟩ | ⟨r,a,e,D,aW,_,_,_⟩
      ·grind [iU]
      ·grind [iU]
      ·rw[aPJ]at D;have dx:=ah.2.1;have ec:=ah.2.2.2.1;refine⟨r,a,e,?_,by omega⟩;omega
     obtain⟨r,a,aPm,aPn,aPo⟩:=LY;have vm:0<(mI.getD i []).length:=by
      have:=congrArg List.length W8;rw[WK,aPJ]at this;have:=ah.1;omega
     have wJ:((mI.getD i []).getD 0 (0,0,0)).2.2=fv B[i]:=by
      have an:=aM.ok _ (WZ dH) _ (WL vm);rw[an.2.2,<-OQ vm,aM.fG dH,Jm,O4,oC]
     have aPp:=ah.2.2.2.1;rw[bb ⟨aPL _,by omega⟩,aK,cK];rw[h6];refine⟨by grind [cb],?_⟩;rw[h6];refine⟨⟨d1,by grind⟩,dF.2 ?_⟩;have cf:=bp (n:=(fv B[i])+1);have aPq:r*((fv B[i]:Int)+1)<=9*63:=Int.mul_le_mul (by omega) (by omega) (by omega) (by omega);grind [bp,Ff]
    ·rw[if_neg (by grind),aK,cK];rw[h6];refine⟨by grind [cb],?_⟩;simp_all[dF,Ff]
  ·rintro⟨s1,s2,e4,kH,mI,dp,ns⟩ ⟨aB,bt,cT,bW,ek,aM,aS⟩;change kH=_ at bW;subst aB bt cT ek;rw[aFb]at aM;have h_:¬B.any uZ=true:=λk=>by
    grind [List.mem_iff_getElem]
   obtain⟨d1,d2⟩:=aFc aM;have ajY:∀ l∈B.map iG,fI (fv l) l:=λl ah=>by
    obtain⟨b,U,rfl⟩:=List.mem_map.1 ah;have:=ajD (jg b U);rw[this.wide];omega
   have aPr:x9.pre ((B.map iG).map gi):=⟨by grind,λl ah=>by
    obtain⟨b,U,rfl⟩:=List.mem_map.1 ah;have:=(ajY b U).nL;rw[this.wide];omega⟩
   have aFi:wA (((B.map iG).map gi).map (List.map fh))=wA (B.map iG):=by
    grind [List.map_congr_left,WY]
   obtain⟨h',lG⟩:=aE' ajY;rw[if_neg (by simp),aK];refine dF.2 ?_;show c6 (ag _ _) _;simp only[Prod.cu];rw[h6];refine⟨⟨d1,by grind⟩,?_⟩;rw[d2,aFi,h',if_neg h_];cases aG:(uV (B.map iG)).2 with
   | false=>grind [dF]
   | true=>
    rw[lG aG];exact dF.2 (by rw[bW];rfl)
end Go.Fer
