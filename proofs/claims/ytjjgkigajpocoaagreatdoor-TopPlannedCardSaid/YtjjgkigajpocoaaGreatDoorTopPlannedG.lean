/- Part 7 of the proof of TopPlanned: shallow programs of Go functions, and what they compute. No condition. -/
import Derived.Test.YtjjgkigajpocoaaGreatDoorTopPlannedF
import Derived.Shelf.SlGeneric
import Derived.Shelf.Spec.SlicesGrow
import Derived.Shelf.Strings.OnBuilder
import Derived.Shelf.LaysM
import Derived.Shelf.Strconv.Itoa3
import Derived.Shelf.LaysC
import Derived.Shelf.Strconv.AtoiAll
import Derived.Shelf.Strings.Split
import Derived.Shelf.Strings.Cut
import Derived.Shelf.Strings.Repeat
import Derived.Shelf.Slices.In.SortNone
import Derived.Test.YtjjgkigajpocoaaGreatDoorProg
import Derived.WalkKit
import Derived.WalkSpells
import Derived.Handy
import Derived.Shelf.Sort.AssemblyIn
import Derived.Sort.EveryDepth
import Derived.Shelf.Strings.BuilderK
import Derived.Lib.OthersKept
import Derived.Laws.RangeAny
import Derived.Shelf.Strings.Builder1
noncomputable section
set_option linter.unusedVariables false
set_option linter.unusedSimpArgs false
namespace Go.Fer.W
open H (i')
theorem ahy:∀ (s:bd) (n k:Nat),n<10 ^ k->k+s.length<=18->0<=ig s n->Go.Lib.parseUint10 n s=.ok (ig s n).toNat
 | [],n,k,_,_,_=>by rfl
 | c::s,n,k,E,L,an=>by
  unfold ig at an ⊢;split at an
  ·omega
  ·rename_i hc;rw[if_neg hc];simp  at hc;have LY:48<=c.toNat/\c.toNat<=57:=by omega
   have ak:(10) ^ (k+1)<=10 ^ 18:=aQS (by decide) (by grind);have e:10*n+(c.toNat - 48)=((n*10+(c.toNat - 48):Nat):Int):=by omega
   rw[e]at an ⊢;unfold Go.Lib.parseUint10;rw[if_pos LY,if_neg (by omega),if_neg (by omega)];exact ahy s _ (k+1) (by omega) (by grind) an
variable {s:bd}
theorem V1(h:0<=gg s):Go.Lib.atoiAll s=.ok (gg s):=by
 unfold gg at h ⊢;split at h
 ·omega
 ·rename_i U;simp  at U;cases s with
  | nil=>grind
  | cons c r=>
   have ai:=ahy (c::r) 0 0 (by decide) (by omega) h;have ah:=VA (c::r) 0 0 (by decide) (by decide);have hp:(10) ^ (0+(c::r).length)<=10 ^ 6:=by
    have:=aQS (n:=10) (by decide) (show 0+(c::r).length<=6 by omega);grind
   grind [ig,Go.Lib.atoiAll,Go.Lib.parseMag]
theorem aBQ(h:0<=gg s):wm s=gg s:=by
 grind [wm,V1]
abbrev I1:aO:=⟨.str,.ar (.int .i64) .bool,λx=>x.length<=10000,uo⟩
abbrev N2:aO:=⟨.ar .str .str,zo,λx=>x.1.length<=10000/\x.2=[32],λx=>dq x.1⟩
abbrev aBR:V:=.ad (.ar bK (.ar .bool .eW))
def N3:List (bd×Int×Bool)->Nat->List (bd×Ez)
 | [],_=>[]
 | p::l,i=>(p.1,p.2.1,p.2.2,some (87+i))::N3 l (i+1)
def zu:List (bd×Ez):=N3 nm 0
abbrev N4:aO:=⟨.dc,.map .str aBR,λ_=>True,λ_=>zu⟩
theorem aBS(x):a8 (ayc x) (N4.sh x):=bx λ_=>congrArg mpure (show _=zu by rfl)
theorem ahz(w:bd):∀ (l:List (bd×Int×Bool)) (i:Nat),((N3 l i).find? λp=>decide (w=p.1)).map (λx=>x.2)=(qJ w l i).map λr=>(r.1,r.2.1,some (87+r.2.2))
 | [],_=>rfl
 | p::l,i=>by
  unfold N3 qJ;by_cases h:w=p.1
  ·grind
  ·simp[h,ahz w l (i+1)]
theorem ahA{w:bd}:∀ {l:List (bd×Int×Bool)} {i:Nat} {r:Int×Bool×Nat},qJ w l i=some r->i<=r.2.2/\r.2.2<i+l.length/\l[r.2.2 - i]?=some (w,r.1,r.2.1)
 | [],_,_,h=>by simp[qJ]at h
 | p::l,i,r,h=>by
  unfold qJ at h;split at h
  ·grind
  ·have:=ahA h;grind
def N5(j:Nat):Nat:=(nm.getD j ([],0,false)).2.1.toNat
def I2(k:Nat):z1'×bH×Unit->M (bd×bH×Unit):=gL (N5 (k - 87)) (B7 (k - 87))
def N6(x:List (bd×Ez)×bd×bH×Unit):M (bd×bH×Unit):=eE (x.1=zu/\x.2.1.length<=10000/\fV x.2.2.1) ((o5 x.2.2.1 x.2.1).1,(o5 x.2.2.1 x.2.1).2,())
theorem aBT{l:List bd}(h:l.all (λw=>decide (0<=gg w))=true):l.map wm=l.map gg:=aPN λw hw=>aBQ (by grind)
theorem ahB{rho:Type}(r:rho)(fin:z1'->rho):∀ (l:List bd) (b:z1'),fa (λw b=>if (!decide (0<=gg w))=true then .aV r else .aw (b++[wm w])) fin l b=if l.all (λw=>decide (0<=gg w))=true then fin (b++l.map wm) else r
 | [],b=>by simp[fa]
 | w::l,b=>by
  unfold fa;rw[aQn];cases h:decide (0<=gg w) with
  | true=>
   simp only[aQm,aml,aPH];rw[ahB r fin l,aQy];rfl
  | false=>rfl
theorem aBU(x):a8 (afH N2.sh I1.sh I2 x) (N6 x):=bx λh=>by
 obtain⟨aBV,s,d,⟨⟩⟩:=x;obtain⟨af,az,ax⟩:aBV=zu/\s.length<=10000/\fV d:=h;subst af;unfold afH b7 dp hg bw cB gB bD bm bf aR cS bY be eB bU gA cE;rw[show N2.sh (s,[32])=mpure (dq s) from bP ⟨az,rfl⟩ _,aN];have ah:=B4 s;rw[bc ⟨by decide,by grind⟩];have ay:((zu.find? λp=>decide ((dq s).getD (Int.toNat 0) []=p.1)).map λx=>x.2)=(qJ ((dq s).getD 0 []) nm 0).map λr=>(r.1,r.2.1,some (87+r.2.2)):=ahz _ _ _;have hw:=bs (n:=((dq s).length) - 1);simp only[ay,cC,hw];unfold o5 IY;cases Ln:qJ ((dq s).getD 0 []) nm 0 with
 | none=>simp
 | some r=>
  obtain⟨k,m,j⟩:=r;obtain⟨_,aK,ak⟩:=ahA Ln;simp only[aRf,aPS,amx,aQm,aQA];by_cases U:(decide (((dq s).length) - 1<k)||decide (((dq s).length) - 1 > k)&&!m)=true
  ·grind
  ·rw[if_neg U,if_neg U];rw[bc ⟨by decide,by omega,aPP _⟩];simp only[aPV,aQc];have iA:((dq s).drop 1).length=(dq s).length - 1:=by simp
   rw[e2 ((dq s).drop 1) (λi o=>((dq s).drop 1,(((dq s).drop 1).length:Int),(i:Int),(k,m,some (87+j)),o,d,())) (λw o=>if (!decide (0<=gg w))=true then .aV (.aV ([63],d,())) else .aw (o++[wm w])) (λo=>.aw ((k,m,some (87+j)),o,d,())) (λi o=>o.length=i) [] ?_ rfl ?_ ?_]
   ·rw[ahB,aN];unfold IS;by_cases aY:((dq s).drop 1).all (λw=>decide (0<=gg w))=true
    ·rw[if_pos aY,cY,aBT aY];rw[bc]
     ·have dv:N5 j=k.toNat:=by
       grind [N5]
      have b6:ja (N5 j) (((dq s).drop 1).map gg):=by
       refine⟨by grind,by grind,λn aC=>?_⟩;obtain⟨w,hw,rfl⟩:=List.mem_map.1 aC;simp_all[aBb]
      have aPa:I2 (87+j) (((dq s).drop 1).map gg,d,())=mpure ((B7 j d (((dq s).drop 1).map gg)).1,(B7 j d (((dq s).drop 1).map gg)).2,()):=by
       unfold I2;rw[show 87+j - 87=j by omega];exact bP ⟨ax,b6⟩ _
      simp_all
     ·have:j<20:=by simp_all[nm]
      exact⟨87+j,by
       have e:∀ j:Fin 20,(87+j.val)∈[87,88,89,90,91,92,93,94,95,96,97,98,99,100,101,102,103,104,105,106]:=by decide
       exact e ⟨j,this⟩,rfl⟩
    simp_all[if_neg]
   ·rfl
   ·intro i G o au;have hw:=bs (n:=i+1);refine⟨?_,λbj ef=>?_⟩
    ·simp only[dQ G,ed G,dK G,cp,dm,hw];rw[show I1.sh ((dq s).drop 1)[i]=mpure (uo ((dq s).drop 1)[i]) from bP (aPL (ahr s (List.mem_of_mem_drop (amk G))) az) _,aN];unfold uo;by_cases aC:0<=gg ((dq s).drop 1)[i]
     ·simp only[aC,aPH];rw[bc (i' (by grind))];rfl
     simp_all
    grind
   simp
variable {d:bH}
theorem aBW(ax:fV d)(az:s.length<=10000):fV (o5 d s).2:=by
 grind [o5,aBP,IY,IS,B4]
abbrev uW:aO:=⟨x1,.int .i64,λd=>gI d.1/\H.lD d.2,o6⟩
theorem aBX(x):a8 (afF si.sh H.jV.sh x) (uW.sh x):=bx λh=>by
 obtain⟨E,L⟩:=h;unfold afF e6 cf;rw[show si.sh x.1=mpure (lz x.1) from bP E _,aN,show H.jV.sh x.2=mpure (H.dH x.2) from bP L _,oe,aN];grind [o6]
theorem aBY(l:List H.bI):(H.iN l).length<=l.length:=by
 have uj:(H.iN l).map (·.1) ⊆ l.map (·.1):=by
  intro x al;obtain⟨s,az,rfl⟩:=List.mem_map.1 al;grind [H.H2]
 have:=(H.ae8 l).length_le_of_subset uj;grind
theorem aBZ(l:z1'):(H.wk l []).length<=l.length:=by
 have aC:((fM 0 99).filter λid=>l.contains id||List.contains [] id).Nodup:=((H.ahp 0 99).imp λh=>by omega).filter _;refine aC.length_le_of_subset λx al=>?_;grind
theorem ahC{c:H.bg}(h:H.dH c=0):H.qI c [] []=(H.qH c (H.iN c.2.1) (H.wk c.2.2.1 []),0):=by
 have G:=H.NR h;have g:H.lS c=true:=by grind [H.dH]
 have L:H.dH (H.qH c [] [])=0:=by
  have:H.lS (H.qH c [] [])=true:=by
   grind [H.lS,H.vS,H.qH]
  unfold H.dH;rw[if_pos this];rfl
 have fq:=aBY c.2.1;have gD:=aBZ c.2.2.1;have eG:=G.eG;have lk:=G.lk;unfold H.qI;rw[if_neg (by omega),if_neg (by omega),aPT,if_neg (by rw[G.cl];decide)];grind
theorem aB0(h:fV d):mi d=(d.1,H.qH d.2 (H.iN d.2.2.1) (H.wk d.2.2.2.1 [])):=by
 unfold mi;rw[ahC h.B9]
theorem ahD(h:fV d):fV (mi d):=by
 have:=ahx       (by rw[ahC h.B9]);exact⟨h.iT,h.wq,this.2.1,by rw[aB0 h];exact h.EU⟩
def xO(x:bH×Unit):M (bH×Unit):=eE (fV x.1) (mi x.1,())
theorem Ui(x):a8 (afG H.ES.sh NZ.sh x) (xO x):=bx λh=>by
 obtain⟨d,⟨⟩⟩:=x;unfold afG dE;rw[show H.ES.sh (d.2,[],[])=mpure (H.qI d.2 [] []) from bP ⟨h.lD,by simp,by simp⟩ _];rw[show NZ.sh d.1=mpure d.1 from bP h.copy _];simp;rfl
abbrev V2(x:bH×List bd):Prop:=gI x.1.1/\H.jK x.1.2/\x.2.length<2 ^ 63/\∀ s∈x.2,s.length<=10000
theorem ahE(E:gI d.1)(L:H.jK d.2)(h:o6 d=0):fV d:=by
 unfold o6 at h;split at h
 ·omega
 ·rename_i U;simp  at U;exact⟨E,U.1,U.2,L.2 U.2⟩
abbrev Cd:aO:=⟨.ar x1 zo,.ar zo (.ar x1 (.int .i64)),V2,λx=>B8 x.1 x.2⟩
theorem ahF:∀ (l:List bd) (o:List bd) (d:bH),l.foldl (λ(p:List bd×bH) s=>(p.1++[(o5 p.2 s).1],(o5 p.2 s).2)) (o,d)=(o++(tC d l).1,(tC d l).2)
 | [],o,d=>by simp[tC]
 | s::l,o,d=>by
  rw[aP3,ahF l];simp[tC]
theorem aB1(x):a8 (afE uW.sh xO N4.sh N6 x) (Cd.sh x):=bx λh=>by
 obtain⟨d,l⟩:=x;obtain⟨E,L,an,a6⟩:=h;unfold afE bw bm bf aR bQ bY be eB bU;show _=mpure (B8 d l);unfold B8;rw[show uW.sh d=mpure (o6 d) from bP ⟨E,L.iT⟩ _,aN];by_cases e:o6 d=0
 ·have ax:=ahE E L e;by_cases bz:l.length > 40
  ·grind
  ·rw[if_neg (show ¬decide (Int.ofNat l.length > 40)=true by grind),if_neg bz];rw[show xO (d,())=mpure (mi d,()) from bP ax _,aN,show N4.sh ()=mpure zu from rfl,aN];rw[e2 l (λi p=>(zu,l,(l.length:Int),(i:Int),p.1,0,0,0,0,0,0,0,0,0,p.2,())) (λs p=>.aw (p.1++[(o5 p.2 s).1],(o5 p.2 s).2)) (λp=>.aw (p.1,0,0,0,0,0,0,0,0,0,p.2,())) (λi p=>fV p.2/\p.1.length=i) ([],mi d) ?_ ⟨ahD ax,rfl⟩ ?_ ?_]
   ·simp_all[ec,ahF]
   ·rfl
   ·rintro i G ⟨o,Ac⟩ ⟨J1,au⟩;have hw:=bs (n:=i+1);have az:=a6 _ (amk G);refine⟨?_,λbj ef=>?_⟩
    ·simp only[cC,dQ G,ed G,dK G,cp,dm,hw];rw[show N6 (zu,l[i],Ac,())=mpure _ from bP ⟨rfl,az,J1⟩ _,aN,bc (i' (by grind))];rfl
    grind [aBW]
   simp
 grind
end Go.Fer.W
namespace Go.Fer.W
def EW:bH:=(ER,[(0,0)],[],[],[],10,30,100,500,1000,2000,300)
def ahG(agh:Unit->M bJ)(x:Unit):M bH:=aq (agh ()) λy=>mpure (y,[(0,0)],[],[],[],10,30,100,500,1000,2000,300)
abbrev N7:aO:=⟨.dc,x1,λ_=>True,λ_=>EW⟩
theorem aB2(x):a8 (ahG NJ.sh x) (N7.sh x):=bx λ_=>by
 unfold ahG;rw[show NJ.sh ()=mpure ER from rfl,aN];rfl
end Go.Fer.W
namespace Go.Fer.W
open H (i')
theorem aB3(x):a8 (afD H.jV.sh si.sh x) (uW.sh x):=bx λh=>by
 obtain⟨E,L⟩:=h;unfold afD e6 cf;rw[show si.sh x.1=mpure (lz x.1) from bP E _,aN,show H.jV.sh x.2=mpure (H.dH x.2) from bP L _,oe,aN];grind [o6]
theorem ahH(c:UInt8):c.1.1.1=c.toNat:=rfl
theorem Ce{n:Int}(h:0<=n)(L:n<=255):IntKind.wrap .u8 n=n:=by
 show (if (false&&decide (n % 2 ^ 8>=(2 ^ (8 - 1))))=true then n % 2 ^ 8 - 2 ^ 8 else n % 2 ^ 8)=n;grind
theorem V3{ag bet rho:Type}{p:ag->Bool}{r:rho}{g:ag->bet->bet}{fin:bet->rho}:∀ (l:List ag) (b:bet),fa (λx b=>if p x=true then .aV r else .aw (g x b)) fin l b=if l.any p=true then r else fin (l.foldl (λb x=>g x b) b)
 | [],b=>rfl
 | x::l,b=>by
  unfold fa;rw[aQE];cases h:p x with
  | true=>rfl
  | false=>
   exact V3 l (g x b)
def Cf(c:UInt8):Bool:=decide ((c.toNat:Int)<48)||decide ((c.toNat:Int) > 57)
theorem aB4(c:UInt8)(s:bd)(n:Int):ig (c::s) n=if Cf c=true then -1 else ig s (10*n+((c.toNat:Int) - 48)):=rfl
theorem ahI{rho:Type}{r:rho}{fin:Int->rho}:∀ (s:bd) (n:Int),0<=n->fa (λc n=>if Cf c=true then .aV r else .aw (10*n+((c.toNat:Int) - 48))) fin s n=if ig s n=-1 then r else fin (ig s n)
 | [],n,h=>by
  show fin n=if n=-1 then r else fin n
  grind
 | c::s,n,h=>by
  rw[aB4];unfold fa;by_cases hc:Cf c=true
  ·grind
  ·have s5:=hc;unfold Cf at s5;simp  at s5;simp  [hc];exact ahI s _ (by omega)
abbrev N8:aO:=⟨.str,.int .i64,λ_=>True,gg⟩
theorem aB5(x):a8 (agc x) (N8.sh x):=bx λ_=>by
 unfold agc eZ b7 dp fT fw bw gB bD aR bQ cS bY be bU;show _=mpure (gg x);unfold gg;simp only[cC,ahH,show Int.toNat 0=0 from rfl];rw[bc (λU=>⟨⟨U,trivial⟩,⟨aPP _,by grind⟩,trivial⟩)];have e:(decide ((x.length:Int)=0)||decide ((x.length:Int) > 6)||decide ((x.length:Int) > 1)&&decide (((x.getD 0 0).toNat:Int)=48))=(decide (x.length=0)||decide (x.length > 6)||decide (x.length > 1)&&decide ((x.getD 0 0).toNat=48)):=by
  grind
 rw[e];by_cases U:(decide (x.length=0)||decide (x.length > 6)||decide (x.length > 1)&&decide ((x.getD 0 0).toNat=48))=true
 ·grind
 ·rw[if_neg U,if_neg U];have ek:x.length<=6:=by
   grind
  rw[e2 x (λi n=>(x,n,(i:Int),())) (λc n=>if Cf c=true then .aV (.aV (-1)) else .aw (10*n+((c.toNat:Int) - 48))) (λn=>.aw (n,())) (λi n=>0<=n/\n<10 ^ i) 0 ?_ ⟨aPP _,by decide⟩ ?_ ?_]
  ·rw[ahI _ _ (aPP _)];by_cases ax:ig x 0=-1<;>simp_all
  ·rfl
  ·rintro i G n ⟨aW,E⟩;have hw:=bs (n:=i+1);have ai:(10:Int) ^ i<=10 ^ 5:=by
    have:=aQS (n:=10) (by decide) (show i<=5 by omega);grind
   refine⟨?_,λbj ef=>?_⟩
   ·simp only[dQ G,ed G,dK G,cp,dm,hw];rw[bc (λh=>⟨⟨h,h⟩,trivial,trivial⟩)];by_cases hc:Cf x[i]=true
    ·have s5:(decide ((x[i].toNat:Int)<48)||decide ((x[i].toNat:Int) > 57))=true:=hc;simp_all
    ·rw[if_neg hc];have s5:¬(decide ((x[i].toNat:Int)<48)||decide ((x[i].toNat:Int) > 57))=true:=hc;rw[if_neg s5];simp  at s5;rw[Ce (by omega) (by omega),bs (n:=(x[i].toNat) - 48),bs (n:=10*n),bs   (by omega) (by omega)];rfl
   ·grind [Cf]
  simp
def EX(o:List bd)(c:UInt8):List bd:=if c=32 then o++[[]] else o.set (o.length - 1) (o.getD (o.length - 1) []++[c])
theorem V4:∀ (s:bd) (o:List bd) (w:bd),s.foldl EX (o++[w])=o++(match dq s with | []=>[w] | v::l=>(w++v)::l)
 | [],o,w=>by simp[dq]
 | c::s,o,w=>by
  rw[aP3];unfold dq;have ah:=B4 s;by_cases hc:c=32
  ·rw[show EX (o++[w]) c=o++[w]++[[]] from if_pos hc,V4 s (o++[w]) [],if_pos hc];cases az:dq s with
   | nil=>simp[az]at ah
   | cons=>simp
  ·rw[show EX (o++[w]) c=_ from if_neg hc];have e:(o++[w]).set ((o++[w]).length - 1) ((o++[w]).getD ((o++[w]).length - 1) []++[c])=o++[w++[c]]:=by
    simp
   rw[e,V4 s o (w++[c]),if_neg hc];cases az:dq s with
   | nil=>simp
   | cons=>simp
abbrev N9:aO:=⟨.str,zo,λx=>x.length<=10000,dq⟩
theorem aB6(x):a8 (agb x) (N9.sh x):=bx λh=>by
 unfold agb iA bw cB bm bf aR bQ bY be eB bU cE;rw[e2 x (λi o=>(x,(i:Int),o,())) (λc o=>.aw (EX o c)) (λo=>.aw (o,())) (λi o=>1<=o.length/\o.length<=i+1/\∀ w∈o,w.length<=i) [[]] ?_ ⟨by decide,by decide,by simp⟩ ?_ ?_]
 ·rw[ec,aN,cY];have:=V4 x [] [];grind [B4]
 ·rfl
 ·rintro i G o ⟨E,L,an⟩;have hw:=bs (n:=i+1);have gz:=bs (n:=o.length - 1);have aE:((o.length:Int) - 1).toNat=o.length - 1:=by omega
  have bz:((i:Int)+1).toNat=i+1:=by omega
  have aD:o.getD (o.length - 1) []=o[o.length - 1]:=by grind
  have ax:(x.take (i+1)).drop i=[x[i]]:=by grind [List.drop_eq_getElem_cons]
  refine⟨?_,λbj ef=>?_⟩
  ·simp only[cC,ed G,dK G,cp,dm,hw,ahH];unfold EX;by_cases hc:x[i]=32
   ·rw[bc (i' (by grind))];simp_all
   ·have s5:¬decide ((x[i].toNat:Int)=32)=true:=by
     intro h;apply hc;simp  at h;exact UInt8.toNat_inj.1 (show x[i].toNat=32 by omega)
    rw[if_neg s5];rw[bc (by omega),bc (by omega),bz,aPV,bc (i' (by grind)),bc (by omega)];simp_all
  ·grind [EX]
 simp
def sr:List bd×z1'×z1':=(nm.map (·.1),nm.map (·.2.1),nm.map λp=>if p.2.2=true then -1 else p.2.1)
abbrev N_:aO:=⟨.dc,.ar zo (.ar ha ha),λ_=>True,λ_=>sr⟩
theorem aB7(x):a8 (ayd x) (N_.sh x):=bx λ_=>congrArg mpure (show _=sr by rfl)
def N'(k:Int)(m:Bool)(n:Nat):Bool:=decide ((n:Int)>=k)&&(decide ((if m=true then -1 else k)<(0:Int))||decide ((n:Int)<=if m=true then -1 else k))
def x2(s:bd):bd×z1'×Bool:=
 if ((dq s).drop 1).any (λw=>decide (gg w<0))=true then ([],[],false) else
 match qJ ((dq s).getD 0 []) nm 0 with
 | none=>([],[],false)
 | some (k,m,_)=>((dq s).getD 0 [],((dq s).drop 1).map gg,N' k m ((dq s).drop 1).length)
theorem I3{rho:Type}{w:bd}{g:Int->Bool->rho}{r:rho}:∀ (l:List (bd×Int×Bool)) (i:Nat),fa (λp (_:Unit)=>if decide (p.1=w)=true then .aV (g p.2.1 p.2.2) else .aw ()) (λ_=>r) l ()=match qJ w l i with | none=>r | some q=>g q.1 q.2.1
 | [],_=>rfl
 | p::l,i=>by
  unfold fa qJ;by_cases h:p.1=w
  ·grind
  ·have L:¬w=p.1:=λe=>h e.symm;simp only[h,L];exact I3 l (i+1)
abbrev Oa:aO:=⟨.str,.ar .str (.ar ha .bool),λx=>x.length<=10000,x2⟩
theorem aB8(x):a8 (aga N9.sh N8.sh N_.sh x) (Oa.sh x):=bx λh=>by
 unfold aga fw bw gB bm bf aR bQ cS bY be eB bU gA;show _=mpure (x2 x);unfold x2;rw[show N9.sh x=mpure (dq x) from bP h _,aN];have ah:=B4 x;have iA:((dq x).drop 1).length=(dq x).length - 1:=by simp
 rw[e2 ((dq x).drop 1) (λi o=>(dq x,((1+i:Nat):Int),o,())) (λw o=>if decide (gg w<0)=true then .aV (.aV ([],[],false)) else .aw (o++[gg w])) (λo=>.aw (dq x,o,())) (λi o=>o.length=i) [] ?_ rfl ?_ ?_]
 ·rw[V3,aN];by_cases aY:((dq x).drop 1).any (λw=>decide (gg w<0))=true
  ·simp_all
  ·rw[if_neg aY,if_neg aY,cY,r4];rw[show N_.sh ()=mpure sr from rfl,aN];generalize pC:((dq x).drop 1).map gg=nQ;have aC:nQ.length=((dq x).drop 1).length:=by grind
   rw[<-aC];rw[e2 nm (λi (_)=>(dq x,sr.1,sr.2.1,sr.2.2,(i:Int),nQ,())) (λp (_)=>if decide (p.1=(dq x).getD 0 [])=true then .aV (.aV ((dq x).getD 0 [],nQ,N' p.2.1 p.2.2 nQ.length)) else .aw ()) (λ_=>.aw ()) (λ_ _=>True) () ?_ trivial ?_ ?_]
   ·rw[I3 (g:=λk m=>aJ.aV ((dq x).getD 0 [],nQ,N' k m nQ.length)) nm 0,aN];cases qJ ((dq x).getD 0 []) nm 0<;>rfl
   ·rfl
   ·intro i G _ _;have aPb:i<20:=G;have hw:=bs (n:=i+1);have fq:i<sr.1.length:=G;have gD:i<sr.2.1.length:=G;have aB9:i<sr.2.2.length:=G;have dt:sr.1[i]'fq=(nm[i]'G).1:=aQr ..;have ei:sr.2.1[i]'gD=(nm[i]'G).2.1:=aQr ..;have j2:sr.2.2[i]'aB9=if (nm[i]'G).2.2=true then -1 else (nm[i]'G).2.1:=aQr ..
    have ai:((0)<=0/\(0)<((dq x).length))=True:=eq_true ⟨by decide,by omega⟩;by_cases hc:decide ((nm[i]'G).1=(dq x).getD 0 [])=true
    ·simp_all[N']
    simp_all
   simp_all[sr]
 ·rfl
 ·intro i G o au;have dR:1+i<(dq x).length:=by omega
  have hw:=bs (n:=((1+i:Nat))+1);have aD:(dq x)[1+i]=((dq x).drop 1)[i]:=by grind
  refine⟨?_,λbj ef=>?_⟩
  ·simp only[cC,dQ dR,ed dR,dK dR,cp,dm,hw,aD];rw[show N8.sh ((dq x).drop 1)[i]=mpure (gg ((dq x).drop 1)[i]) from rfl,aN];by_cases aC:decide (gg ((dq x).drop 1)[i]<0)=true
   ·simp_all
   ·rw[if_neg aC,if_neg aC,bc (i' (by grind))];rfl
  grind
 simp_all
theorem aB_{s:bd}(h:s.length<=10000):Oa.sh s=mpure (x2 s):=bP h _
abbrev EY:aO:=⟨.ar ha ha,.bool,λx=>x.1=x.2/\x.1.length<2 ^ 63,λ_=>true⟩
theorem aB'(x):a8 (af9 x) (EY.sh x):=bx λh=>by
 obtain⟨a,b⟩:=x;obtain⟨rfl,h⟩:a=b/\a.length<2 ^ 63:=h;unfold af9 fw bw bm bf aR bQ cS bY be h' iX bU;rw[eH a (λi (_)=>(a,a,(i:Int),())) (λ_ b=>.aw b) (λ_=>.aw ()) () ?_ ?_ ?_]
 ·simp_all[ec]
 ·rfl
 ·intro i G _;have hw:=bs (n:=i+1);simp_all
 simp
theorem I4{a:z1'}(h:a.length<2 ^ 63):EY.sh (a,a)=mpure true:=bP ⟨rfl,h⟩ _
abbrev Ob:aO:=⟨.ar H.lv H.lv,.bool,λx=>x.1=x.2/\H.lD x.1,λ_=>true⟩
theorem aCa(x):a8 (af8 EY.sh x) (Ob.sh x):=bx λh=>by
 obtain⟨a,b⟩:=x;obtain⟨rfl,E,L,an,a6⟩:a=b/\H.lD a:=h;unfold af8 b7 e6 fw cf bw bD bf aR bQ cS bY be h' iX bU;rw[I4 an];rw[eH a.1 (λi (_)=>((i:Int),a,a,())) (λ_ b=>.aw b) (λ_=>.aw (a,a,())) () ?_ ?_ ?_]
 ·rw[ec,aN,cY];rw[eH a.2.1 (λi (_)=>((i:Int),a,a,())) (λ_ b=>.aw b) (λ_=>.aw (a,a,())) () ?_ ?_ ?_]
  ·rw[ec,aN,cY];rw[eH a.2.2.2.1 (λi (_)=>((i:Int),a,a,())) (λ_ b=>.aw b) (λ_=>.aw ()) () ?_ ?_ ?_]
   ·simp_all[ec]
   ·rfl
   ·intro i G _;have hw:=bs (n:=i+1);simp_all
   simp
  ·rfl
  ·intro i G _;have hw:=bs (n:=i+1);simp_all
  simp
 ·rfl
 ·intro i G _;have hw:=bs (n:=i+1);simp_all
 simp
abbrev Oc:aO:=⟨.ar mG mG,.bool,λx=>x.1=x.2/\iG x.1,λ_=>true⟩
theorem aCb(x):a8 (af_ EY.sh x) (Oc.sh x):=bx λh=>by
 obtain⟨a,b⟩:=x;obtain⟨rfl,E,L,an,a6⟩:a=b/\iG a:=h;unfold af_ b7 iA e6 fw bw cB bD bm bf aR bQ cS iM bY be h' iX bU pE;rw[eH a.1 (λi (_)=>((i:Int),a,a,())) (λ_ b=>.aw b) (λ_=>.aw (a,a,())) () ?_ ?_ ?_]
 ·rw[ec,aN,cY];rw[eH a.2.2.2 (λi (_)=>((i:Int),a,a,())) (λ_ b=>.aw b) (λ_=>.aw (a,a,())) () ?_ ?_ ?_]
  ·rw[ec,aN,cY];rw[eH a.2.1 (λi (_)=>((i:Int),a,a,())) (λ_ b=>.aw b) (λ_=>.aw ()) () ?_ ?_ ?_]
   ·simp_all[ec]
   ·rfl
   ·intro i G _;have hw:=bs (n:=i+1);obtain⟨hm,az⟩:=a6 _ (amk G);simp only[ed G];rw[eH a.2.1[i] (λj (_)=>((i:Int),a.2.1[i],a.2.1[i],(j:Int),a,a,())) (λ_ b=>.aw b) (λ_=>.aw (i,a,a,())) () ?_ ?_ ?_]
    ·simp_all[ec]
    ·rfl
    ·intro j aK _;have hw:=bs (n:=j+1);have bB:=I4 (az _ (amk aK));simp_all
    simp
   simp
  ·rfl
  ·intro i G _;have hw:=bs (n:=i+1);simp_all
  simp
 ·rfl
 ·intro i G _;have hw:=bs (n:=i+1);simp_all
 simp
abbrev EZ:aO:=⟨.ar x1 x1,.bool,λx=>x.1=x.2/\gI x.1.1/\H.lD x.1.2,λ_=>true⟩
theorem aCc(x):a8 (af7 Ob.sh Oc.sh EY.sh x) (EZ.sh x):=bx λh=>by
 obtain⟨a,b⟩:=x;obtain⟨rfl,⟨E,L,an,a6,bS,ek,iQ⟩,hc⟩:a=b/\gI a.1/\H.lD a.2:=h;unfold af7 b7 e6 fw cf bw bD bf aR bQ cS bY be h' iX bU;rw[show Ob.sh (a.2,a.2)=mpure true from bP ⟨rfl,hc⟩ _,show Oc.sh (a.1.1,a.1.1)=mpure true from bP ⟨rfl,E⟩ _,I4 L];simp;rw[eH a.1.2.2.1 (λi (_)=>((i:Int),a.1,a.1,())) (λ_ b=>.aw b) (λ_=>.aw (a.1,a.1,())) () ?_ ?_ ?_]
 ·rw[ec,aN,cY];rw[eH a.1.2.2.2.1 (λi (_)=>((i:Int),a.1,a.1,())) (λ_ b=>.aw b) (λ_=>.aw (a.1,a.1,())) () ?_ ?_ ?_]
  ·rw[ec,aN,cY];rw[eH a.1.2.2.2.2.1 (λi (_)=>((i:Int),a.1,a.1,())) (λ_ b=>.aw b) (λ_=>.aw ()) () ?_ ?_ ?_]
   ·simp_all[ec]
   ·rfl
   ·intro i G _;have hw:=bs (n:=i+1);simp_all
   simp
  ·rfl
  ·intro i G _;have hw:=bs (n:=i+1);have bB:=I4 (iQ _ (amk G));simp_all
  simp
 ·rfl
 ·intro i G _;have hw:=bs (n:=i+1);have bB:=I4 (ek _ (amk G));simp_all
 simp
abbrev Od:Type:=z28'
def V5(s:bd)(c:Od):Od:=
 if (!(x2 s).2.2)=true then c else if decide ((x2 s).1=[119,105,115,104])=true then (IntKind.wrap .i64 (c.1+1),c.2)
 else if decide ((x2 s).1=[112,105,101,99,101])=true then (c.1,IntKind.wrap .i64 (c.2.1+1),c.2.2.1,IntKind.wrap .i64 (c.2.2.2+IntKind.wrap .i64 (((x2 s).2.1.length:Int) - 4)))
 else if decide ((x2 s).1=[99,111,109,101,115])=true then (c.1,c.2.1,IntKind.wrap .i64 (c.2.2.1+1),c.2.2.2) else c
def ahJ(d:bH):Od:=((d.1.2.2.2.1.length:Int),(d.1.2.2.1.length:Int),(d.1.2.2.2.2.1.length:Int),d.1.2.2.1.foldl (λn p=>IntKind.wrap .i64 (n+(p.2.2.2.2.length:Int))) 0)
def aCd(c:Od):Bool:=decide (c.1 > 3)||decide (c.2.1 > 4)||decide (c.2.2.1 > 3)||decide (c.2.2.2 > 4)
def x3(d:bH)(l:List bd):Bool:=
 if (uV d.1||H.nf d.2||decide ((l.length:Int) > 60))=true then true else if (l.any λs=>decide ((s.length:Int) > 80))=true then true
 else decide (o6 d=0)&&aCd (l.foldl (λc s=>V5 s c) (ahJ d))
abbrev aCe(x:bH×List bd):Prop:=gI x.1.1/\H.lD x.1.2/\x.2.length<2 ^ 63
abbrev I5:aO:=⟨.ar x1 zo,.bool,aCe,λx=>x3 x.1 x.2⟩
theorem aCf(x):a8 (af' uW.sh NI.sh H.y4.sh Oa.sh x) (I5.sh x):=bx λh=>by
 obtain⟨d,l⟩:=x;obtain⟨E,L,an⟩:=h;have k6:d.1.2.2.1.length<2 ^ 63:=E.2.2.1;change l.length<2 ^ 63 at an;unfold af' eZ b7 dp iA cf bw cB bD bm bf aR bQ cS iM bY be iX bU cE;show _=mpure (x3 d l);unfold x3;rw[show NI.sh d.1=mpure (uV d.1) from bP E _,aN,show H.y4.sh d.2=mpure (H.nf d.2) from bP L _,oe,aN];have e:(uV d.1||(if (!uV d.1)=true then H.nf d.2 else false)||decide (Int.ofNat l.length > 60))=(uV d.1||H.nf d.2||decide ((l.length:Int) > 60)):=by grind
 rw[e];by_cases ay:(uV d.1||H.nf d.2||decide ((l.length:Int) > 60))=true
 ·grind
 ·rw[if_neg ay,if_neg ay];rw[eH d.1.2.2.1 (λi n=>(l,(d.1.2.2.2.1.length:Int),(d.1.2.2.1.length:Int),(d.1.2.2.2.2.1.length:Int),n,(i:Int),d,())) (λp n=>.aw (IntKind.wrap .i64 (n+(p.2.2.2.2.length)))) (λn=>.aw (l,(d.1.2.2.2.1.length),(d.1.2.2.1.length),(d.1.2.2.2.2.1.length),n,d,())) 0 ?_ ?_ ?_]
  ·rw[ec,aN,cY];rw[eH l (λi c=>(l,c.1,c.2.1,c.2.2.1,c.2.2.2,(i:Int),d,())) (λs c=>if decide ((s.length:Int) > 80)=true then .aV (.aV true) else .aw (V5 s c)) (λc=>.aw (c.1,c.2.1,c.2.2.1,c.2.2.2,d,())) (ahJ d) ?_ ?_ ?_]
   ·rw[V3,aN];by_cases aY:(l.any λs=>decide ((s.length:Int) > 80))=true
    ·simp_all
    ·rw[if_neg aY,if_neg aY,cY];rw[show uW.sh d=mpure (o6 d) from bP ⟨E,L⟩ _,aN];rfl
   ·rfl
   ·intro i G c;have hw:=bs (n:=i+1);simp only[cC,dQ G,if_true,ed G];by_cases hc:decide ((l[i].length:Int) > 80)=true
    ·simp_all
    ·rw[if_neg hc];rw[aB_ (by grind),aN];unfold V5;split
     ·simp_all
     ·split
      ·simp_all
      ·split
       ·simp_all
       ·split<;>simp_all
   simp
  ·rfl
  ·intro i G n;have hw:=bs (n:=i+1);simp_all
  simp
theorem aCg{d:bH}{l:List bd}{n:Int}(E:gI d.1)(L:H.lD d.2)(h:(!x3 d l&&decide (o6 d=0)&&decide ((l.length:Int)<=n))=true):fV d/\(l.length:Int)<=n/\∀ s∈l,s.length<=80:=by
 grind [x3,ahE,H.axU]
theorem aCh:gI EW.1/\H.lD EW.2:=⟨aAP,by decide,by decide,by decide,by decide⟩
theorem aCi{d:bH}(ax:fV d){l:List bd}(qK:l.length<=40)(ah:∀ s∈l,s.length<=10000):Cd.sh (d,l)=mpure ((tC (mi d) l).1,(tC (mi d) l).2,0):=by
 have e:Cd.sh (d,l)=mpure (B8 d l):=bP ⟨ax.iT,ax.jK,by show l.length<2 ^ 63;omega,ah⟩ _;rw[e];unfold B8;rw[if_neg (by rw[ax.aBe];decide),if_neg (by omega)]
end Go.Fer.W
namespace Go.Proofs
open Go.Shelf
theorem ahK{P:Program}{k:Nat}{f g:Func}(h:P.funcs[k]?=some f)(e:f=g:=by kernel_rfl):P.funcs[k]?=some g:=h.trans (congrArg some e)
theorem lj{p:Prop}(h:p:=by repeat' first | kernel_rfl | (intro;kernel_rfl) | decide | constructor):p:=h
open Tryz
def Tryz.ahL:Go.Shelf.Ren:=⟨fun | 156=>247 | 165=>222 | 166=>79 | 169=>82 | 240=>155 | 241=>272 | 276=>220 | 277=>319 | n=>n,fun | 31=>41 | 9=>9 | 3=>3 | 4=>4 | 0=>0 | 20=>20 | 72=>155 | 76=>161 | 70=>153 | 37=>95 | 75=>160 | 127=>252 | 164=>310 | 5=>5 | 80=>164 | n=>n,fun | n=>n⟩
theorem Tryz.ahM:Go.Proofs.Lays.n156 Tryz.prog Tryz.ahL:=lj
theorem Tryz.ahN:Builder.Extra Tryz.prog Tryz.ahL:=lj
def Tryz.aCj:Go.Shelf.Ren:=⟨fun | 171=>189 | 243=>256 | 246=>309 | 283=>337 | 284=>338 | 285=>339 | 286=>340 | 129=>299 | 317=>351 | 318=>352 | 319=>353 | 320=>354 | 337=>363 | 338=>364 | n=>n,fun | 3=>3 | 9=>9 | 2=>2 | 4=>4 | 171=>397 | 0=>0 | 53=>349 | 37=>95 | 5=>5 | 173=>399 | 212=>419 | 51=>346 | 20=>20 | 213=>420 | 46=>300 | 232=>428 | 233=>429 | n=>n,fun | 17=>5 | 18=>6 | 19=>7 | n=>n⟩
theorem Tryz.ahO:Go.Proofs.LaysM.n171 Tryz.prog Tryz.aCj:=lj
def Tryz.aCk:Go.Shelf.Ren:=⟨fun | 172=>188 | 244=>254 | 245=>255 | 247=>304 | 279=>305 | 280=>306 | 281=>307 | 282=>308 | 287=>334 | 316=>335 | 171=>189 | 205=>336 | 321=>349 | 322=>350 | 243=>256 | 246=>309 | 283=>337 | 284=>338 | 285=>339 | 286=>340 | 129=>299 | 317=>351 | 318=>352 | 319=>353 | 320=>354 | 337=>363 | 338=>364 | n=>n,fun | 9=>9 | 3=>3 | 75=>160 | 76=>161 | 4=>4 | 5=>5 | 167=>375 | 37=>95 | 0=>0 | 85=>376 | 2=>2 | 168=>378 | 53=>349 | 175=>391 | 46=>300 | 210=>395 | 127=>252 | 145=>417 | 143=>415 | 21=>21 | 171=>397 | 173=>399 | 212=>419 | 51=>346 | 20=>20 | 213=>420 | 232=>428 | 233=>429 | 80=>164 | n=>n,fun | 15=>1 | 16=>2 | 17=>5 | 18=>6 | 19=>7 | n=>n⟩
theorem Tryz.V6:Go.Proofs.LaysC.n172 Tryz.prog Tryz.aCk:=lj
open Go.RowKit in
theorem Tryz.strconv_Atoi_ok(s:ByteArray)(Av:s.size<=9223372036854775806)(v:Int)(h:Lib.atoiAll s.data.toList=.ok v)(w:World) :
  Calls Tryz.prog 188 #[.string s] w λe w'=>e=.returned (.tuple #[.int .i64 v,.nilIface])/\(w'=w\/∃ t,w'=Lib.bytesWorld w 5 t):=Any.strconv_Atoi_ok Tryz.V6 s Av v h w
open Go.RowKit in
theorem Tryz.strconv_Atoi_syntax(s:ByteArray)(vi:s.size<=281474976710656)(h:Lib.atoiAll s.data.toList=Lib.atoiAll [])(j8:Value)(w:World)(af:w.cell? ⟨1,0,none⟩=some j8)(sb:j8=.nilIface\/∃ nW oB,j8=.iface nW oB) :
  Calls Tryz.prog 188 #[.string s] w λe w'=>∃ N,e=.returned (.tuple #[.int .i64 (0),.iface 378 (.pointer (some ⟨N,0,none⟩))])/\w.heap.size<=N/\w'.heap[N]?=some (.cells #[.string ⟨#[65,116,111,105]⟩,.string s,j8] 395 (0,0))/\Below w.heap.size w w':=Any.strconv_Atoi_syntax Tryz.V6 s vi h j8 w af sb
open Go.RowKit in
theorem Tryz.strconv_Atoi_range(s:ByteArray)(vi:s.size<=281474976710656)(h:Lib.atoiAll s.data.toList=.range)(j8:Value)(w:World)(af:w.cell? ⟨2,0,none⟩=some j8)(sb:j8=.nilIface\/∃ nW oB,j8=.iface nW oB) :
  Calls Tryz.prog 188 #[.string s] w λe w'=>∃ N,e=.returned (.tuple #[.int .i64 (Lib.atoiSat s.data.toList),.iface 378 (.pointer (some ⟨N,0,none⟩))])/\w.heap.size<=N/\w'.heap[N]?=some (.cells #[.string ⟨#[65,116,111,105]⟩,.string s,j8] 395 (0,0))/\Below w.heap.size w w':=Any.strconv_Atoi_range Tryz.V6 s vi h j8 w af sb
def Tryz.aCl:Go.Shelf.Ren:=⟨fun | 145=>146 | 220=>215 | 219=>270 | 217=>315 | 225=>316 | 224=>317 | 267=>318 | 266=>343 | 314=>344 | n=>n,fun | 9=>9 | 4=>4 | 59=>239 | 3=>3 | 5=>5 | 46=>300 | 146=>347 | 51=>346 | n=>n,fun | 1=>0 | n=>n⟩
theorem Tryz.aCm:Go.Proofs.Lays.n145 Tryz.prog Tryz.aCl:=lj
open Go.RowKit Go.Lib in
theorem Tryz.strings_Cut(s sep:ByteArray)(m:Int)(w:World)(az:s.size<4294967281)(hm:w.cell? ⟨0,0,none⟩=some (.int .i64 m)) :
  Calls Tryz.prog 146 #[.string s,.string sep] w λe w'=>e=.returned (.tuple #[.string ⟨(Lib.cut s.data.toList sep.data.toList).1.toArray⟩,.string ⟨(Lib.cut s.data.toList sep.data.toList).2.1.toArray⟩,.bool (Lib.cut s.data.toList sep.data.toList).2.2])/\∃ n,w'=w.drewN n:=Any.strings_Cut Tryz.aCm s sep m w az hm
def Tryz.aCn:Go.Shelf.Ren:=⟨fun | 189=>166 | 125=>245 | 257=>244 | 128=>298 | 129=>299 | 294=>289 | 295=>290 | 296=>291 | 297=>292 | 298=>293 | 299=>294 | 216=>295 | 300=>296 | 301=>297 | 328=>327 | 329=>328 | 330=>329 | 331=>330 | 332=>331 | 215=>332 | 343=>348 | n=>n,fun | 28=>27 | 3=>3 | 46=>300 | 0=>0 | 51=>346 | 53=>349 | 4=>4 | 183=>364 | 182=>363 | 131=>91 | 5=>5 | 9=>9 | 218=>385 | 222=>389 | 228=>407 | 229=>408 | n=>n,fun | n=>n⟩
theorem Tryz.ahP:Go.Proofs.Lays.n189 Tryz.prog Tryz.aCn:=lj
def Tryz.aCo:Go.Shelf.Ren:=⟨fun | 146=>107 | 221=>187 | 268=>251 | 138=>252 | 143=>253 | 195=>301 | 197=>302 | 218=>303 | 219=>270 | 260=>333 | 217=>315 | 225=>316 | 224=>317 | 267=>318 | 266=>343 | 314=>344 | n=>n,fun | 9=>9 | 31=>41 | 3=>3 | 4=>4 | 0=>0 | 105=>372 | 21=>21 | 5=>5 | 46=>300 | 119=>410 | 139=>413 | 138=>412 | 146=>347 | 51=>346 | n=>n,fun | 1=>0 | 3=>3 | 4=>4 | n=>n⟩
theorem Tryz.ahQ:Go.Proofs.Lays.n146 Tryz.prog Tryz.aCo:=lj
def Tryz.V7:Go.Shelf.Ren:=⟨fun | 105=>157 | 212=>209 | 99=>221 | 165=>222 | 166=>79 | 170=>223 | 169=>82 | 263=>266 | 264=>267 | 206=>271 | 240=>155 | 241=>272 | 276=>220 | 277=>319 | n=>n,fun | 9=>9 | 3=>3 | 4=>4 | 20=>20 | 0=>0 | 46=>300 | 109=>301 | 5=>5 | 72=>155 | 76=>161 | 51=>346 | 146=>347 | 53=>349 | 148=>350 | 70=>153 | 37=>95 | 75=>160 | 127=>252 | 164=>310 | 80=>164 | n=>n,fun | n=>n⟩
theorem Tryz.ahR:Go.Proofs.Lays.n105 Tryz.prog Tryz.V7:=lj
theorem Tryz.ahS:Builder.Extra Tryz.prog Tryz.V7:=lj
open Go.RowKit Go.Lib in
theorem Tryz.strings_Repeat(s:ByteArray)(c:Nat)(w:World)(hc:c<=9223372036854775807)(hlen:s.size*c<=140737488355328) :
  Calls Tryz.prog 157 #[.string s,.int .i64 c] w λe w'=>e=.returned (.string ⟨(Lib.repeatL s.data.toList c).toArray⟩)/\Below w.heap.size w w':=Any.strings_Repeat Tryz.ahR Tryz.ahS s c w hc hlen
def Tryz.aCp:Go.Shelf.Ren:=⟨fun | 4=>243 | n=>n,fun | 22=>27 | 25=>3 | 3=>3 | 4=>4 | 9=>9 | 20=>20 | 0=>0 | n=>n,fun | n=>n⟩
theorem Tryz.ahT:Go.Proofs.Lays8.n4 Tryz.prog Tryz.aCp:=by constructor<;>first | exact⟨Tryz.f243.name,by decide,ahK func243⟩ | exact lj
def Tryz.aCq:Go.Shelf.Ren:=⟨fun | 4=>242 | n=>n,fun | 22=>34 | 25=>116 | 3=>3 | 4=>4 | 9=>9 | 20=>20 | 0=>0 | n=>n,fun | n=>n⟩
theorem Tryz.ahU:Go.Proofs.Lays8.n4 Tryz.prog Tryz.aCq:=by constructor<;>first | exact⟨Tryz.f242.name,by decide,ahK func242⟩ | exact lj
end Go.Proofs
namespace Go.Fer.W
theorem ahV:∀ s:bd,(Go.Lib.index s [32]=-1/\dq s=[s])\/∃ t r,s=t++32::r/\Go.Lib.index s [32]=(t.length:Int)/\dq s=t::dq r
 | []=>.inl ⟨rfl,rfl⟩
 | b::l=>by
  unfold Go.Lib.index;by_cases U:b=32
  ·subst U;exact .inr ⟨[],l,rfl,by rfl,by rfl⟩
  ·rcases ahV l with⟨E,L⟩ | ⟨t,r,E,L,an⟩
   ·grind [dq]
   ·grind [dq]
theorem aCr:∀ (n:Nat) (s:bd),s.length<=n->Go.Lib.splitK [32] 0 (Go.Lib.count s [32]) s=dq s:=by
 intro n;induction n with
 | zero=>
  intro s h;have:s=[]:=aP6 (by omega);subst this;rfl
 | succ n aP=>
  intro s h;rcases ahV s with⟨E,L⟩ | ⟨t,r,E,L,an⟩
  ·rw[Go.Lib.count_miss E,L];rfl
  ·rw[Go.Lib.count_hit (by simp) L,Nat.add_comm,Go.Lib.splitK];have e:((t.length:Int)).toNat=t.length:=rfl;have Oe:s.drop (t.length+1)=r:=by simp_all
   grind
end Go.Fer.W
namespace Go.Fer.Sk
open Go Go.Proofs Go.RowKit
section
variable {P:Program} {F:Nat->Prop} {w:World}
theorem ahW(x:List UInt8):(ByteArray.mk x.toArray).data.toList=x:=by simp
theorem tF(x:List UInt8):(ByteArray.mk x.toArray).size=x.length:=by rfl
variable {x:List UInt8}
theorem Of{args:List Value}(h:gv P .str F w args x):args=[.string ⟨x.toArray⟩]/\x.length<2 ^ 63:=by
 obtain⟨v,rfl,af⟩:=(pb rfl).1 h;grind [k7]
theorem V8{args:List Value}{y:List UInt8}(h:gv P (.ar .str .str) F w args (x,y)):args=[.string ⟨x.toArray⟩,.string ⟨y.toArray⟩]/\x.length<2 ^ 63/\y.length<2 ^ 63:=by
 grind [FE,k7,Of]
theorem aCs(w:World)(k:Nat)(os:Array Obj):Below w.heap.size w (Go.Sort.grow (w.drewN k) os):=by
 refine⟨rfl,rfl,rfl,?_,λj aK=>?_⟩
 ·simp
 ·show (w.heap++os)[j]?=_;grind
theorem E0(h:pa Tryz.prog F w){b:Nat}(U:b<6):F b/\X1 b λi=>w.cell? ⟨b,i,none⟩:=h b (aPG U (aP4 (by rfl)))
end
theorem V9(sep:ByteArray):∀ (k:Nat) (s:ByteArray),∀ x∈Lib.splitB sep 0 k s,x.size<=s.size
 | 0,s,x,al=>by
  grind [Lib.splitB]
 | k+1,s,x,al=>by
  unfold Lib.splitB at al;split at al
  ·grind
  ·simp  at al;rcases al with rfl | al
   ·grind [ByteArray.size_extract]
   ·have:=V9 sep k _ x al;grind [ByteArray.size_extract]
def nC(s sep:List UInt8):z2':=(Lib.splitB ⟨sep.toArray⟩ 0 (Lib.countB ⟨s.toArray⟩ ⟨sep.toArray⟩) ⟨s.toArray⟩).map (·.data.toList)
theorem aCt(s:List UInt8):nC s [32]=W.dq s:=by
 unfold nC;rw[Lib.splitB_data];exact W.aCr s.length s (amn _)
abbrev ahX:Code:=Tryz.f107.body.getD .skip
theorem aCu:hA Tryz.prog 107 (.ar .str .str) (.slice .str) W.N2.sh where
 enter:=rj Tryz.func107 (show Tryz.f107.body=some ahX by rfl) (by rfl)
 ik:=λF w args x bp fm aY az=>by
  obtain⟨s,sep⟩:=x;obtain⟨az,E⟩:s.length<=10000/\sep=[32]:=az;subst E;obtain⟨rfl,ah,hp⟩:=V8 aY;obtain⟨_,m,hm⟩:=E0 fm (b:=0) (by decide);have cN:1<=(ByteArray.mk [32].toArray).size:=by decide
  refine (Any.strings_Split Tryz.ahQ (by kernel_rfl) ⟨s.toArray⟩ ⟨[32].toArray⟩ m w (by grind [tF]) hm cN).mono ?_;rintro e w' ⟨rfl,rfl⟩;have hlen:=Lib.splitB_all ⟨[32].toArray⟩ cN 0 _ ⟨s.toArray⟩ rfl;have s7:=Lib.countB_le ⟨[32].toArray⟩ cN _ ⟨s.toArray⟩ (amn _);rw[tF]at s7;have mz:=V9 ⟨[32].toArray⟩ (Lib.countB ⟨s.toArray⟩ ⟨[32].toArray⟩) ⟨s.toArray⟩;rw[tF]at mz;have Ao:(nC s [32]).length=Lib.countB ⟨s.toArray⟩ ⟨[32].toArray⟩+1:=by grind [nC]
  refine⟨_,nC s [32],rfl,aCt s,⟨[_],rfl,(pb rfl).2 ⟨_,rfl,(ee rfl).2 ⟨rfl,some ⟨w.heap.size,0,none⟩,Lib.countB ⟨s.toArray⟩ ⟨[32].toArray⟩+1,by grind,by omega,by omega,nofun,λp ai hc=>?_⟩⟩⟩,?_⟩
  ·cases ai;refine⟨.inr ⟨amn _,by simp⟩,rfl,λi G=>?_⟩;have dR:i<(Lib.splitB ⟨[32].toArray⟩ 0 (Lib.countB ⟨s.toArray⟩ ⟨[32].toArray⟩) ⟨s.toArray⟩).length:=by omega
   generalize a1:Lib.splitB ⟨[32].toArray⟩ 0 (Lib.countB ⟨s.toArray⟩ ⟨[32].toArray⟩) ⟨s.toArray⟩=B at dR mz hlen;have j7:(nC s [32])[i]=B[i].data.toList:=by
    grind [nC]
   refine⟨[.string B[i]],⟨.inr ⟨amn _,by simp⟩,rfl,λj aK=>?_⟩,?_,?_⟩
   ·have aK:j=0:=by grind
    simp_all[V.size]
   ·simp_all
   ·have e:(B[i]).data.toList.length=(B[i]).size:=aPY;grind
  ·exact (Below.refl _ _).alloc (amn _) _
theorem ahY{F : Nat -> Prop}{w : World}(h : pa Tryz.prog F w) : Lib.TabIs Tryz.prog w "internal/strconv.uint64pow10" .u64 Lib.pow10Tab := by
 have bS:=(E0 h (b:=5) (by decide)).2;show (match w.heap[5]? with | some (.cells cs _ _)=>some cs | _=>none)=_;have aW:=bS 0;cases au:w.heap[5]? with
 | none=>grind [World.cell?]
 | some o=>
  cases o with
  | cells cs T vT=>
   simp;apply Array.ext_getElem?;intro i;have G:=bS i;grind [World.cell?,Lib.pow10Tab]
  | _=>simp[World.cell?,au]at aW
abbrev aCv:Code:=Tryz.f189.body.getD .skip
theorem aCw{P:Program}{F:Nat->Prop}{w:World}{args:List Value}{x:Int}(h:gv P (.int .i64) F w args x):args=[.int .i64 x]/\gM .i64 x:=by
 obtain⟨v,rfl,af⟩:=(pb rfl).1 h;grind [hL]
theorem aCx{n:Int}(h:gM .i64 n):-9223372036854775808<=n/\n<=9223372036854775807:=h
theorem aCy:hA Tryz.prog 189 (.int .i64) .str W.NU.sh where
 enter:=rj Tryz.func189 (show Tryz.f189.body=some aCv by rfl) (by rfl)
 ik:=λF w args x bp fm aY az=>by
  obtain⟨rfl,D⟩:=aCw aY;obtain⟨aW,E⟩:=aCx D;refine (Any.strconv_Itoa Tryz.ahO x aW E w (ahY fm)).mono ?_;rintro e w' ⟨rfl,k,os,rfl⟩;have al:W.sn x=Lib.itoa x:=by grind [W.sn,bs]
  refine⟨_,W.sn x,rfl,rfl,⟨[_],rfl,(pb rfl).2 ⟨_,rfl,k7.2 ⟨by grind,Nat.lt_of_le_of_lt (W.VB x) (by decide)⟩⟩⟩,aCs w k os⟩
abbrev aCz:Code:=Tryz.f247.body.getD .skip
theorem aCA:hA Tryz.prog 247 (.ar (.slice .str) .str) .str W.IZ.sh where
 enter:=rj Tryz.func247 (show Tryz.f247.body=some aCz by rfl) (by rfl)
 ik:=λF w args x bp fm aY az=>by
  obtain⟨l,sep⟩:=x;obtain⟨aC,hw,E⟩:l.length<=60000/\(∀ w∈l,w.length<=21)/\sep.length=1:=az;have Hg:=W.aht l sep 21 hw;rw[E]at Hg;have aK:(Lib.join l sep).length<2 ^ 63:=by omega
  obtain⟨v,us,rfl,af,hu⟩:=FE aY;obtain⟨rfl,_⟩:=Of hu;obtain⟨_,p,cap,jP,c2,c3,c4,c5⟩:=(ee rfl).1 af;obtain rfl:v=.slice p l.length cap:=by grind
  change l.length<=cap at c2;have fin:∀ w',Below w.heap.size w w'->∃ v y,Ending.returned (.string ⟨(Lib.join l sep).toArray⟩)=.returned v/\(W.IZ.sh (l,sep)).a_ y/\tL Tryz.prog .str (wT F w w') w' v y/\Below w.heap.size w w':=λw' U=>
   ⟨_,Lib.join l sep,rfl,rfl,⟨[_],rfl,(pb rfl).2 ⟨_,rfl,k7.2 ⟨rfl,aK⟩⟩⟩,U⟩
  by_cases ah:l=[]
  ·subst ah;refine (Any.strings_Join_none Tryz.ahM Tryz.ahN p cap ⟨sep.toArray⟩ w).mono ?_;simp_all[Below.refl]
  ·have kh:=List.length_pos_iff.2 ah;obtain⟨q,rfl⟩:∃ q,p=some q:=by
    cases p<;>grind
   obtain⟨d1,d2,d3⟩:=c5 q rfl (by omega);obtain⟨aCB,o,sp⟩:=q;obtain rfl:=d2;have hlen:(l.map λx:List UInt8=>ByteArray.mk x.toArray).length=l.length:=aPW ..;have rM:(l.map λx=>ByteArray.mk x.toArray).map (·.data.toList)=l:=by simp_all[aPN]
   have:=Any.strings_Join Tryz.ahM Tryz.ahN aCB o cap (l.map λx:List UInt8=>ByteArray.mk x.toArray) ⟨sep.toArray⟩ w (λj x al=>by
    rw[aQV]at al;obtain⟨y,ba,rfl⟩:=Option.map_eq_some_iff.1 al;obtain⟨Hg,rfl⟩:=List.getElem?_eq_some_iff.1 ba;obtain⟨bC,⟨_,_,c_⟩,bV⟩:=d3 j Hg;obtain⟨rfl,_⟩:=bV;simp_all[V.size]) (bp _ d1) (by omega) (by omega) (by grind)
   rw[hlen,ahW]at this;refine this.mono ?_;simp_all
end Go.Fer.Sk
namespace Go.Proofs
open Go.RowKit
theorem Tryz.aCC{P:Program}{w w':World}{n:String}{k:IntKind}{zs:z1'}(h:Lib.TabIs P w n k zs)(U:Below w.heap.size w w'):Lib.TabIs P w' n k zs:=by
 unfold Lib.TabIs World.var? at *
 cases aD:P.globalNamed n with
 | none=>rw[aD]at h;cases h
 | some g=>
  rw[aD]at h;simp only[Option.bind_some]at h ⊢;by_cases dv:g<w.heap.size
  ·rw[U.block g dv];exact h
  ·rw[Array.getElem?_eq_none (by omega)]at h;cases h
set_option maxHeartbeats 4000000 in
set_option maxRecDepth 1000000 in
theorem Tryz.aCD(s:ByteArray)(w:World)(v:Int)(Av:s.size<=9223372036854775806)(h:Lib.atoiAll s.data.toList=.ok v)(aW:-9223372036854775808<=v)(E:v<=9223372036854775807)
  (aCE : Lib.TabIs Tryz.prog w "internal/strconv.uint64pow10" .u64 Lib.pow10Tab) :
  Calls Tryz.prog 108 #[.string s] w λe w'=>e=.returned (.tuple #[.int .i64 v,.bool (decide (s.size<=6)&&decide (0<=v)&&decide (Lib.itoa v=s.data.toList))])/\Below w.heap.size w w':=by
 go_enter Tryz.func108,Tryz.ntmps108;go_wp2_with fail;refine (Tryz.strconv_Atoi_ok s Av v h w).mono ?_;rintro e cj ⟨rfl,pq⟩;have oa:Below w.heap.size w cj:=by
  rcases pq with rfl | ⟨t,rfl⟩
  ·exact Below.refl _ _
  ·exact Lib.bytesWorld_below w 5 t
 have aCF:=Tryz.aCC aCE oa;clear pq;by_cases aM:(s.size:Int)<=6
 ·by_cases aT:v>=0
  ·go_wp2_with fail;refine (Any.strconv_Itoa Tryz.ahO v aW E cj aCF).mono ?_;rintro e dN ⟨rfl,k,os,rfl⟩;have w6:Below w.heap.size w (Go.Sort.grow (cj.drewN k) os):=oa.trans ⟨rfl,rfl,rfl,by show _<=(cj.heap++os).size;simp,λj aK=>by
    have:=oa.size;show (cj.heap++os)[j]?=_;rw[Array.getElem?_append_left (by omega)]⟩
   generalize Go.Sort.grow (cj.drewN k) os=dN at w6;go_wp2;go_returns;refine⟨congrArg Ending.returned (congrArg Value.tuple ?_),w6⟩;show #[Value.int IntKind.i64 v,Value.bool (Lib.itoa v == s.toList)]=_;rw[Go.ByteArray.toList_eq,show decide (s.size<=6)=true from aP5 (by omega),show decide (0<=v)=true from aP5 aT,aQX,aQX,show (Lib.itoa v == s.data.toList)=decide (Lib.itoa v=s.data.toList) by rw[Bool.eq_iff_iff];simp]
  ·go_wp2;go_returns;refine⟨congrArg Ending.returned (congrArg Value.tuple ?_),oa⟩;show #[Value.int IntKind.i64 v,Value.bool false]=_;rw[show decide (0<=v)=false from aQd (by omega),Bool.and_false,aRk]
 ·go_wp2;go_returns;refine⟨congrArg Ending.returned (congrArg Value.tuple ?_),oa⟩;show #[Value.int IntKind.i64 v,Value.bool false]=_;rw[show decide (s.size<=6)=false from aQd (by omega),aRk,aRk]
set_option maxHeartbeats 4000000 in
set_option maxRecDepth 1000000 in
theorem Tryz.aCG(s:ByteArray)(w:World)(vi:s.size<=281474976710656)(h:Lib.atoiAll s.data.toList=Lib.atoiAll [])(j8:Value)(af:w.cell? ⟨1,0,none⟩=some j8)(sb:j8=.nilIface\/∃ nW oB,j8=.iface nW oB) :
  Calls Tryz.prog 108 #[.string s] w λe w'=>e=.returned (.tuple #[.int .i64 0,.bool false])/\Below w.heap.size w w':=by
 go_enter Tryz.func108,Tryz.ntmps108;go_wp2_with fail;refine (Tryz.strconv_Atoi_syntax s vi h j8 w af sb).mono ?_;rintro e cj ⟨N,rfl,_,_,oa⟩;go_wp2;go_returns;exact⟨rfl,oa⟩
set_option maxHeartbeats 4000000 in
set_option maxRecDepth 1000000 in
theorem Tryz.aCH(s:ByteArray)(w:World)(vi:s.size<=281474976710656)(h:Lib.atoiAll s.data.toList=.range)(j8:Value)(af:w.cell? ⟨2,0,none⟩=some j8)(sb:j8=.nilIface\/∃ nW oB,j8=.iface nW oB) :
  Calls Tryz.prog 108 #[.string s] w λe w'=>e=.returned (.tuple #[.int .i64 (Lib.atoiSat s.data.toList),.bool false])/\Below w.heap.size w w':=by
 go_enter Tryz.func108,Tryz.ntmps108;go_wp2_with fail;refine (Tryz.strconv_Atoi_range s vi h j8 w af sb).mono ?_;rintro e cj ⟨N,rfl,_,_,oa⟩;go_wp2;go_returns;exact⟨rfl,oa⟩
end Go.Proofs
namespace Go.Fer.W
theorem ahZ:∀ (s:bd) (n:Int),0<=n->ig s n≠-1->n<=ig s n
 | [],n,_,_=>aPP _
 | c::s,n,h,E=>by
  unfold ig at E ⊢;split at E
  ·omega
  ·rename_i hc;rw[if_neg hc];simp  at hc;have:=ahZ s _ (by omega) E;omega
theorem V_(d:UInt8):∀ (s:bd) (n:Int),0<=n->ig (s++[d]) n=if ig s n=-1 then -1 else if (decide ((d.toNat:Int)<48)||decide ((d.toNat:Int) > 57))=true then -1 else 10*ig s n+((d.toNat:Int) - 48)
 | [],n,h=>by
  grind [ig]
 | c::s,n,h=>by
  rw[List.cons_append];conv=>lhs;unfold ig
  by_cases hc:(decide ((c.toNat:Int)<48)||decide ((c.toNat:Int) > 57))=true
  ·grind [ig]
  ·rw[if_neg hc,show ig (c::s) n=ig s (10*n+(c.toNat - 48)) from (if_neg hc)];simp  at hc;exact V_ d s _ (by omega)
theorem V'(k:Nat)(h:k<10):((UInt8.ofNat (48+k)).toNat:Int)=48+k:=by
 grind [UInt8.toNat_ofNat']
theorem ah0(u:Nat):ig (Go.Lib.decDigits u) 0=u:=by
 induction u using Nat.strongRecOn with
 | _ u aP=>
  unfold Go.Lib.decDigits;grind [V',ig,V_]
theorem ah1(u:Nat):Go.Lib.decDigits u≠[]/\(1<(Go.Lib.decDigits u).length->((Go.Lib.decDigits u).getD 0 0).toNat≠48):=by
 induction u using Nat.strongRecOn with
 | _ u aP=>
  grind [Go.Lib.decDigits,V']
theorem aCI:∀ (n:Nat) (s:bd),s.length=n->s≠[]->(1<s.length->(s.getD 0 0).toNat≠48)->ig s 0≠-1->Go.Lib.decDigits (ig s 0).toNat=s:=by
 intro n;induction n with
 | zero=>simp
 | succ n aP=>
  intro s E L an a6;obtain⟨a,d,rfl⟩:∃ a d,s=a++[d]:=⟨s.dropLast,s.getLast L,(List.dropLast_concat_getLast L).symm⟩
  rw[V_ _ _ _ (aPP _)]at a6 ⊢;split at a6
  ·omega
  ·rename_i aY;split at a6
   ·omega
   ·rename_i ax;simp  at ax;have aPc:UInt8.ofNat (48+(d.toNat - 48))=d:=by
     grind [UInt8.toNat_inj,UInt8.toNat_ofNat']
    by_cases aC:a=[]
    ·grind [ig,Go.Lib.decDigits_one]
    ·have dh:(a.getD 0 0).toNat≠48:=by
      grind
     have ai:1<=ig a 0:=by
      cases a with
      | nil=>grind
      | cons c r=>
       unfold ig at aY ⊢;split at aY
       ·omega
       ·rename_i hc;rw[if_neg hc];simp  at hc;have aPd:c.toNat≠48:=dh;have:=ahZ r _ (by omega) aY;omega
     have aE:(10*ig a 0+(d.toNat - 48)).toNat / 10=(ig a 0).toNat:=by omega
     grind [Go.Lib.decDigits]
theorem aCJ{s:bd}{v:Int}(h:Go.Lib.atoiAll s=.ok v):(decide (s.length<=6)&&decide (0<=v)&&decide (Go.Lib.itoa v=s))=decide (0<=gg s):=by
 rw[Bool.eq_iff_iff];simp;constructor
 ·grind [Go.Lib.itoa,ah1,gg,ah0]
 ·intro aC;have e:=V1 aC;obtain rfl:v=gg s:=by grind
  refine⟨⟨?_,aC⟩,?_⟩
  ·grind [gg]
  ·have e:Go.Lib.itoa (gg s)=Go.Lib.decDigits (gg s).toNat:=by grind [Go.Lib.itoa]
   rw[e];unfold gg at aC ⊢;split at aC
   ·omega
   ·rename_i U;rw[if_neg U];simp  at U;exact aCI _ s rfl (λe=>U.1.1 (by grind)) U.2 (by omega)
theorem ah2{s:bd}(h:∀ v,Go.Lib.atoiAll s≠.ok v):decide (0<=gg s)=false:=aQd λaC=>h _ (V1 aC)
end Go.Fer.W
namespace Go.Fer.Sk
open Go Go.Proofs Go.RowKit
abbrev aCK:Code:=Tryz.f108.body.getD .skip
theorem aCL:hA Tryz.prog 108 .str (.ar (.int .i64) .bool) W.I1.sh where
 enter:=rj Tryz.func108 (show Tryz.f108.body=some aCK by kernel_rfl) (by kernel_rfl)
 ik:=λF w args x bp fm aY az=>by
  change List UInt8 at x;have az:x.length<=10000:=az;obtain⟨rfl,ah⟩:=Of aY;have U:=ahW x;have bA:=tF x;have fin:∀ (n:Int) (b:Bool) (w':World),gM .i64 n->W.uo x=(n,b)->Below w.heap.size w w'->∃ v y,Ending.returned (.tuple #[.int .i64 n,.bool b])=.returned v/\(W.I1.sh x).a_ y/\tL Tryz.prog (.ar (.int .i64) .bool) (wT F w w') w' v y/\Below w.heap.size w w':=λn b w' D he wy=>
   ⟨_,(n,b),rfl,he.symm,⟨[.int .i64 n,.bool b],rfl,zZ.2 ⟨hL.2 ⟨rfl,D⟩,(pb rfl).2 ⟨_,rfl,hV.2 rfl⟩⟩⟩,wy⟩
  cases he:Lib.atoiAll x with
  | ok v=>
   have af:=Lib.atoiAll_bounds he;refine (Tryz.aCD ⟨x.toArray⟩ w v (by rw[bA];omega) (by rw[U];exact he) af.1 af.2 (ahY fm)).mono ?_;rintro e w' ⟨rfl,wy⟩;refine fin v _ w' af ?_ wy;rw[U,bA,W.aCJ he];unfold W.uo W.wm;rw[he]
  | range=>
   obtain⟨_,j8,af,sb⟩:=E0 fm (b:=2) (by decide);refine (Tryz.aCH ⟨x.toArray⟩ w (by rw[bA];omega) (by rw[U];exact he) j8 af sb).mono ?_;rintro e w' ⟨rfl,wy⟩;rw[U]at *
   refine fin _ _ w' (Lib.atoiSat_bounds x) ?_ wy;unfold W.uo W.wm;rw[he,W.ah2 λv h=>by rw[he]at h;cases h]
  | _=>
   obtain⟨_,j8,af,sb⟩:=E0 fm (b:=1) (by decide);refine (Tryz.aCG ⟨x.toArray⟩ w (by rw[bA];omega) (by rw[U];exact he) j8 af sb).mono ?_;rintro e w' ⟨rfl,wy⟩;refine fin 0 _ w' (by decide) ?_ wy;unfold W.uo W.wm;rw[he,W.ah2 λv h=>by rw[he]at h;cases h]
end Go.Fer.Sk
namespace Go.Fer
open Go.RowKit
abbrev ox:V:=.int .i64
def Wa(x:z14'):M (z14'):=eE (x.1.length<4611686018427387904) (x.1.mergeSort (λa b=>decide (a<=b)),())
def ss:cK:=⟨⟨[(0,.own 200001)],[(200001,.bn ox)]⟩,⟨[],[(200001,.bn ox)]⟩,[],1,Wa⟩
section
variable {P:Program} {F:Nat->Prop} {w:World}
variable {cs:Array Value}{off:Nat}{xs:z1'}
theorem ah3(h:ns P ox F w cs off xs){i:Nat}(G:i<xs.length):cs[off+i]?=some (.int .i64 xs[i])/\gM .i64 xs[i]:=by
 obtain⟨bC,E,L,an⟩:=h i G;subst L;have:=E 0 (by simp);refine⟨?_,an⟩;have e:off+i*V.size ox+0=off+i:=by show off+i*1+0=off+i;omega
 rw[e]at this;exact this
theorem aCM(h:∀ i (h:i<xs.length),cs[off+i]?=some (.int .i64 xs[i])/\gM .i64 xs[i]):ns P ox F w cs off xs:=λi G=>by
 obtain⟨E,L⟩:=h i G;refine⟨[.int .i64 xs[i]],λj aK=>?_,rfl,L⟩;have aK:j=0:=by simpa using aK
 subst aK;have e:off+i*V.size ox+0=off+i:=by show off+i*1+0=off+i;omega
 rw[e];exact E
theorem aCN{T:TypeId}{b:Nat}(U:w.heap[b]?=some (.cells cs T (0,0)))(h:ns P ox F w cs off xs):Go.Sort.Holds (Value.int .i64) w b off xs.toArray:=λj aK=>by
 have gQ:j<xs.length:=by simpa using aK
 obtain⟨E,_⟩:=ah3 h gQ;refine⟨?_,by simp[World.frozen?,U]⟩;simp only[World.cell?,U];simp only[Option.isSome_none,aml,aPH];rw[E];simp[gQ]
theorem aCO{bq:z1'}(ah:bq.length=xs.length)(bf:∀ y∈bq,gM .i64 y)(cN:off+xs.length<=cs.size):ns P ox F w (Go.Sort.putCells (Value.int .i64) off bq.toArray cs) off bq:=by
 refine aCM λi G=>⟨?_,bf _ (amk G)⟩
 have E:off+i<cs.size:=by omega
 simp[Go.Sort.putCells,E,G]
end
section
variable {P:Program} {aQ:dV}
theorem aCP{k:FuncId}(he:∀ args w,(callFunc k args).run P w=.ok (.enter k args) w)
    (E:∀ (aa off cap:Nat) (zs:z1') (w:World),Go.Sort.Holds (Value.int .i64) w aa off zs.toArray->aa<w.heap.size->zs.length<4611686018427387904->Calls P k #[.slice (some ⟨aa,off,none⟩) zs.length cap] w λe w'=>
      e=.returned (.tuple #[])/\∃ n os,w'=Go.Sort.grow (Go.Sort.putRow (Value.int .i64) (Go.Sort.ahead w n) aa off (zs.mergeSort λx y=>decide (x<=y)).toArray) os)
    (aW:∀ (p:Option Addr) (cap:Nat) (w:World),Calls P k #[.slice p 0 cap] w λe w'=>e=.returned (.tuple #[])/\w'=w):cW P aQ k ss where
  enter:=he
  ik C a w kap F A jS xy D ax rY vf h az:=by
    obtain⟨xs,u⟩:=A;have hlen:xs.length<4611686018427387904:=az;have cN:a.tmps.size=1:=h.dX.trans rY;have q_:=h.b1 0;have U:=h.bF 200001;change mr C.P _ kap F w (kap 200001) (.bn ox xs) at U;have af:a.tmps.getD 0 undef=(kap 200001).slice xs.length:=q_.2 rfl rfl;have aY:a.tmps=#[(kap 200001).slice xs.length]:=by
      apply Array.ext (by simp[cN]);intro i G d_;have:i=0:=by omega
      subst this;rw[<-af];simp[Array.getD,cN]
    have ri:∀ bl,bl=((xs.mergeSort (λx y=>decide (x<=y)),()):z14')->(ss.sh (xs,u)).a_ bl:=λbl e=>e;have ql:∀ {w':World} {F':Nat->Prop} {bq:z1'},bu C (aB.mk (ss.cA.ad (xs,u)).aA λi=>if i=200001 then ⟨0,.bn ox bq⟩ else (ss.cA.ad (xs,u)).aa i) a w' kap F'->bu { C with bZ:=0 } (ss.a_.ad (bq,())) { tmps:=#[],defers:=[] } w' kap F':=λ{w' F' bq} fp=>by
      have e:(ss.a_.ad (bq,())).aa=λi=>if i=200001 then (⟨0,.bn ox bq⟩:b9) else (ss.cA.ad (xs,u)).aa i:=by
        funext i;show eP [(200001,b'.bn ox bq)] i=if i=200001 then _ else eP [(200001,b'.bn ox xs)] i
        simp only[eP];by_cases G:i=200001
        · rw[if_pos G,if_pos G]
        · rw[if_neg G,if_neg G,if_neg G]
      refine { dX := rfl, dj := ax.symm, b1 := λi => trivial, bF := λb => ?_, own := λb => ?_, inj := λb bj => ?_, ds := fp.ds, hN := fp.hN, iq := fp.iq, ir := fp.ir, e5 := fp.e5, size := fp.size, eN := fp.eN, hB := aPR _, lb := fp.lb, iS := λb r => ?_, ld := fp.ld, jB := λb k => ?_, e7 := λl aI ab n ad e => (by cases e), bR := λaZ m hm => (by
        have hm:(eP [(200001,b'.bn ox bq)] 140000).body=.bR aZ m:=hm;simp[eP]at hm),j1:=fp.j1,hX:=fp.hX }
      · rw[e];exact fp.bF b
      · rw[e];exact fp.own b
      · rw[e];exact fp.inj b bj
      · rw[e];exact fp.iS b r
      · rw[e];exact fp.jB b k
    subst jS;rw[aY];by_cases aC:(kap 200001).fO=true
    · have al:xs=[]:=U.1 aC
      subst al
      have jP:(kap 200001).slice 0=.slice none 0 0:=by simp[bL.slice,aC]
      rw[show ([]:z1').length=0 from rfl,jP]
      refine (aW none 0 w).mono ?_
      rintro e w' ⟨rfl,rfl⟩
      refine⟨_,([],()),[],kap,F,rfl,ri _ (congrArg (λl=>(l,())) List.mergeSort_nil.symm),⟨[],rfl,rfl,rfl⟩,ql ?_⟩
      have e:(λi=>if i=200001 then (⟨0,.bn ox []⟩:b9) else (ss.cA.ad ([],u)).aa i)=(ss.cA.ad ([],u)).aa:=by
        funext i;by_cases G:i=200001
        · subst G;rfl
        · rw[if_neg G]
      rw[e]
      exact h
    · have aC:(kap 200001).fO=false:=by simpa using aC
      obtain⟨cs,T,cT,fc,jf,u6,JQ⟩:=U.2 aC
      have eJ:((ss.cA.ad (xs,u)).aa 200001).body.ch (kap 200001)=true:=by show (!(kap 200001).fO)=true;rw[aC];rfl
      have au:=h.own 200001 eJ
      have jP:(kap 200001).slice xs.length=.slice (some ⟨(kap 200001).aa,(kap 200001).off,none⟩) xs.length (kap 200001).cap:=by simp[bL.slice,aC]
      rw[jP]
      refine (E (kap 200001).aa (kap 200001).off (kap 200001).cap xs w (aCN cT JQ) au.1 hlen).mono ?_
      rintro e w' ⟨rfl,n,os,rfl⟩
      have ai:(xs.mergeSort λx y=>decide (x<=y)).Perm xs:=List.mergeSort_perm _ _
      generalize l7:(xs.mergeSort λx y=>decide (x<=y))=bq at ai ri
      have Qg:bq.length=xs.length:=ai.length_eq
      have PS:(kap 200001).off+xs.length<=cs.size:=by
        have:(kap 200001).cap*V.size ox=(kap 200001).cap:=Nat.mul_one _;omega
      have bf:∀ y∈bq,gM .i64 y:=λy ba=>by
        have:=ai.mem_iff.1 ba;obtain⟨i,G,rfl⟩:=List.getElem_of_mem this;exact (ah3 JQ G).2
      have aCQ:(Go.Sort.putRow (Value.int .i64) (Go.Sort.ahead w n) (kap 200001).aa (kap 200001).off bq.toArray).heap[(kap 200001).aa]?=some (.cells (Go.Sort.putCells (Value.int .i64) (kap 200001).off bq.toArray cs) T (0,0)):=by
        simp[Go.Sort.putRow,Go.Sort.mapBlock,Go.Sort.ahead,Array.getElem?_modify,cT,Go.Sort.onCells]
      have wQ:bu C ((ss.cA.ad (xs,u)).ct 200001 ⟨0,.bn ox bq⟩) a (Go.Sort.putRow (Value.int .i64) (Go.Sort.ahead w n) (kap 200001).aa (kap 200001).off bq.toArray) kap F:=by
        refine h.qU (b:=200001) (x:=⟨0,.bn ox bq⟩) eJ ?_ ?_ nofun nofun (λr D=>?_) (by simp[Go.Sort.putRow,Go.Sort.mapBlock,Go.Sort.ahead]) ⟨rfl,rfl,rfl⟩ (λH pk kn my=>⟨λhc=>absurd (aC.symm.trans hc) nofun,λ_=>?_⟩)
        · show (!(kap 200001).fO)=true;rw[aC];rfl
        · intro b
          by_cases U:b=200001
          · subst U
            exact⟨amn _,λ_=>⟨nofun,λ_=>⟨rfl,rfl,Qg,rfl⟩,nofun,nofun⟩⟩
          · show tQ _ (if b=200001 then _ else _) _ _
            rw[if_neg U]
            exact tQ.refl _ _
        · simp[Go.Sort.putRow,Go.Sort.mapBlock,Go.Sort.ahead,Array.getElem?_modify,Ne.symm D]
        · refine⟨_,T,aCQ,?_,?_,u6,aCO Qg bf PS⟩
          · simpa [Go.Sort.putCells]using fc
          · show bq.length<=_
            omega
      refine⟨_,(bq,()),[],kap,_,rfl,ri _ rfl,⟨[],rfl,rfl,rfl⟩,ql (wQ.grow ?_)⟩
      refine⟨rfl,rfl,rfl,by simp[Go.Sort.grow],λk ak=>?_⟩
      simp only[Go.Sort.grow]
      rw[Array.getElem?_append_left ak]
end
end Go.Fer
namespace Go.Fer
open Go.RowKit
def aCR(e:V)(x:z25'):M (List e.aj×Unit):=eE (0<=x.1/\x.1<60000) ([],())
def x4(e:V):cK:=⟨⟨[(0,.dW),(1,.val (.int .i64))],[]⟩,⟨[(0,.own 50000)],[(50000,.bn e)]⟩,[none],2,aCR e⟩
section
variable {P:Program} {aQ:dV} {e:V}
theorem ah4{C:cH}{a:Act}{w w':World}{kap:Nat->bL}{F:Nat->Prop}{A:(x4 e).cA.aj}(h:bu C ((x4 e).cA.ad A) a w kap F)(ax:C.dj=[]){kb:bL}{v:Value}
  (af:v=kb.slice 0) (cN:w.heap.size<=w'.heap.size) (hw:∀ r,r<w.heap.size->w'.heap[r]?=w.heap[r]?) (hc:dL w w') (l9:kb.fO=false->kb.aa=w.heap.size/\w.heap.size<w'.heap.size)
  (a1:kb.fO=false->∃ cs T,w'.heap[kb.aa]?=some (.cells cs T (0,0))/\kb.off+kb.cap*e.size<=cs.size/\kb.cap<2 ^ 63/\wV C.P e T) :
  bu { C with bZ:=1 } ((x4 e).a_.ad ([],())) { tmps:=#[v],defers:=[] } w' (λi=>if i=50000 then kb else kap i) F:=by
 have U:∀ b,((x4 e).a_.ad ([],())).aa b=if b=50000 then ⟨0,.bn e []⟩ else ⟨0,.ev⟩:=λb=>rfl
 have aY:∀ b,b≠50000->((x4 e).a_.ad ([],())).aa b=⟨0,.ev⟩:=λb aC=>by rw[U,if_neg aC]
 have bS:((x4 e).a_.ad ([],())).aa 50000=⟨0,.bn e []⟩:=rfl;have eJ:∀ b,(((x4 e).a_.ad ([],())).aa b).body.ch (if b=50000 then kb else kap b)=true->b=50000/\kb.fO=false:=λb au=>by
  by_cases e:b=50000
  ·subst e;rw[bS,if_pos rfl]at au;exact⟨rfl,by simpa [b'.ch]using au⟩
  ·rw[aY b e]at au;cases au
 refine { dX:=rfl,dj:=ax.symm,b1:=λi=>?_,bF:=λb=>?_,own:=λb au=>?_,inj:=λb bj E L _=>?_,ds:=λr D=>aPG (h.ds r D) cN,hN:=h.hN,iq:=h.iq,ir:=h.ir,e5:=λr D=>?_,size:=aPL h.size cN,eN:=h.eN.trans hc,hB:=(by unfold fz;exact (by decide:1<=100000)),lb:=h.lb,iS:=λb r D ku=>?_,ld:=h.ld,jB:=λb k ak _ G=>?_,e7:=λl aI ab n ad e=>(by cases e),bR:=λaZ m hm=>(by rw[aY cF (by decide)]at hm;cases hm),j1:=h.j1,hX:=h.hX.mono (λ_ h=>h) ⟨cN,λr D=>hw r (h.ds r D)⟩ }
 ·by_cases G:i=0
  ·subst G;refine⟨⟨amn _,?_⟩,λ_ _=>?_⟩
   ·show v.oneCell'=true;rw[af];unfold bL.slice;split<;>rfl
   ·show v=_;rw[af];show kb.slice 0=(if (50000:Nat)=50000 then kb else kap 50000).slice 0;rw[if_pos rfl]
  ·have:((x4 e).a_.ad ([],())).aA i=.undef:=by
    show fv [(0,aL.own 50000 0)] i=.undef;simp[fv,G]
   rw[this];trivial
 ·unfold c6;by_cases aE:b=50000
  ·subst aE;rw[bS];show mr _ _ _ _ _ (if (50000:Nat)=50000 then kb else kap 50000) (.bn e []);rw[if_pos rfl];refine⟨λ_=>rfl,λaC=>?_⟩;obtain⟨cs,T,E,L,an,a6⟩:=a1 aC;exact⟨cs,T,E,L,aPR _,⟨an,a6⟩,λi G=>absurd G (Nat.not_lt_zero _)⟩
  ·rw[aY b aE];trivial
 ·obtain⟨rfl,aC⟩:=eJ b au;obtain⟨E,L⟩:=l9 aC;rw[if_pos rfl,E];refine⟨L,λay=>?_,λak=>?_⟩
  ·have:=h.ds _ ay;omega
  ·have:=h.ir _ ak;have:=h.size;omega
 ·rw[(eJ b E).1,(eJ bj L).1]
 ·have E:=h.ir r D;rw[hw r (aPG E h.size)];exact h.e5 r D
 ·by_cases aE:b=50000
  ·subst aE;rw[bS]at ku;rcases ku with h | h<;>cases h
  ·rw[aY b aE]at ku;rcases ku with h | h<;>cases h
 ·by_cases aE:b=50000
  ·subst aE;have:=h.ld _ _ ak;unfold z' at this;omega
  ·rw[aY b aE]at G;cases G
theorem ah5{k:FuncId}(he:∀ args w,(callFunc k args).run P w=.ok (.enter k args) w)
  (aW:∀ w:World,Calls P k #[.slice none 0 0,.int .i64 0] w λe w'=>e=.returned (.slice none 0 0)/\w'=w)
  (E:∀ (n:Nat) (w:World),0<n->n<60000->Calls P k #[.slice none 0 0,.int .i64 (n:Int)] w λy w'=>∃ (cu:Nat) (T:TypeId) (cs:Array Value),y=.returned (.slice (some ⟨w.heap.size,0,none⟩) 0 cu)/\
   w'=w.drew.alloc (.cells cs T)/\cu<2 ^ 63/\cu*e.size<=cs.size/\wV P e T):cW P aQ k (x4 e) where
 enter:=he
 ik C a w kap F A jS xy D ax rY vf h az:=by
  obtain⟨n,u⟩:=A;change Int at n;obtain⟨yt,w5⟩:0<=n/\n<60000:=az;have cN:a.tmps.size=2:=h.dX.trans rY;have aCS:a.tmps.getD 0 undef=.slice none 0 0:=h.b1 0;have rI:a.tmps.getD 1 undef=.int .i64 n:=(hL.1 (h.b1 1)).1;have aY:a.tmps=#[.slice none 0 0,.int .i64 n]:=by
   apply Array.ext (by simp[cN]);intro i G d_;have:i=0\/i=1:=by omega
   rcases this with rfl | rfl
   ·rw[<-aCS];simp[Array.getD,cN]
   ·rw[<-rI];simp[Array.getD,cN]
  subst jS;rw[aY];by_cases bA:n=0
  ·subst bA;refine (aW w).mono ?_;rintro y w' ⟨rfl,rfl⟩;refine⟨_,([],()),[.slice none 0 0],_,F,rfl,rfl,⟨[.slice none 0 0],rfl,rfl,[],rfl,rfl⟩,ah4 h ax (kb:=⟨0,0,0,true⟩) rfl (amn _) (λ_ _=>rfl) (dL.refl _) nofun nofun⟩
  ·obtain⟨m,rfl⟩:∃ m:Nat,n=m:=⟨n.toNat,by omega⟩
   refine (E m w (by omega) (by omega)).mono ?_;rintro y w' ⟨cu,T,cs,rfl,rfl,fm,qX,aU⟩;refine⟨_,([],()),[.slice (some ⟨w.heap.size,0,none⟩) 0 cu],_,F,rfl,rfl,⟨[_],rfl,rfl,[],rfl,rfl⟩,ah4 h ax (kb:=⟨w.heap.size,0,cu,false⟩) rfl (by simp) (λr D=>?_) ⟨rfl,rfl,rfl⟩ (λ_=>⟨rfl,by simp⟩) (λ_=>⟨cs,T,?_,by simpa using qX,fm,aU⟩)⟩
   ·exact rH w.drew _ D
   ·show (w.drew.heap.push _)[w.heap.size]?=_;exact Array.getElem?_push_size
theorem ah6{rho:Go.Shelf.Ren}(ab:Go.Proofs.Lays8.n4 P rho)(w:World):Calls P (rho.f 4) #[.slice none 0 0,.int .i64 0] w λe w'=>e=.returned (.slice none 0 0)/\w'=w:=
 Go.Proofs.Any8.slices_Grow_room ab none 0 0 0 w (amn _) (by decide) (by decide) (amn _)
theorem ah7{rho:Go.Shelf.Ren}(ab:Go.Proofs.Lays8.n4 P rho)(aH:cx P e (rho.t 25))(az:e.size≠0)(n:Nat)(w:World)(aW:0<n)(E:n<60000) :
  Calls P (rho.f 4) #[.slice none 0 0,.int .i64 (n:Int)] w λy w'=>∃ (cu:Nat) (T:TypeId) (cs:Array Value),y=.returned (.slice (some ⟨w.heap.size,0,none⟩) 0 cu)/\w'=w.drew.alloc (.cells cs T)/\cu<2 ^ 63/\cu*e.size<=cs.size/\wV P e T:=by
 obtain⟨i0,z,sP,cN,U,ag6,aCT,_⟩:=nv aH.nu;have qq:0<i0.size:=by omega
 have ys:=(F3 (P:=P) e aCT).2;refine (Go.Proofs.Any8.slices_Grow_grow ab i0 z sP ag6 qq none 0 0 n [] w (amn _) (by omega) ?_ (by omega) (by simp) (λ_=>rfl) nofun).mono ?_
 ·have:(0+n)*i0.bytes<=(0+n)*1024:=Nat.mul_le_mul_left _ U;omega
 ·rintro y w' ⟨rfl,rfl⟩;refine⟨_,_,_,rfl,rfl,?_,?_,aH.Kh⟩
  ·have:=grownCap_le_maxLen w (0+n) 0 (rho.t 25) (by unfold maxLen;omega);unfold maxLen at this;omega
  ·have:=grownCap_ge w (0+n) 0 (rho.t 25);generalize grownCap w (0+n) 0 (rho.t 25)=cu at this;simp only[Array.size_append,size_zeroCells,ys];have aE:(0+n - 0)*e.size+(cu - (0+n))*e.size=cu*e.size:=by rw[<-aQi];congr 1;omega
   have bz:(#[]:Array Value).size=0:=rfl;omega
end
end Go.Fer
namespace Go.Fer.Sk
open Go.Proofs
def I6(aQ:dV)(c:cK)(sh:Nat->c.cA.aj->M c.a_.aj):List Nat->Prop
 | []=>True
 | k::l=>cW Tryz.prog aQ k { c with sh:=sh k }/\I6 aQ c sh l
theorem I6.mem{aQ:dV}{c:cK}{sh:Nat->c.cA.aj->M c.a_.aj}:∀ {l:List Nat},I6 aQ c sh l->∀ k∈l,cW Tryz.prog aQ k { c with sh:=sh k }
 | [],_,k,h=>by cases h
 | j::l,h,k,ak=>by
  rcases List.mem_cons.1 ak with rfl | ak
  ·exact h.1
  ·exact I6.mem h.2 k ak
theorem Cg{k:Nat}{e:V}{f:List e.aj×Unit->M (List e.aj×Unit)}{sh:(V.slice e).aj->M (V.slice e).aj}(h:cW Tryz.prog dT k ⟨⟨[(0,.val (.slice e))],[]⟩,⟨[(0,.own 60)],[(60,.bn e)]⟩,[none],1,f⟩)
  (ai:∀ x:List e.aj,(sh x).e3->(f (x,())).e3/\∀ bl,(f (x,())).a_ bl->bl.1=(sh x).val (V.slice e).dU):p_ (jG.mB ⟨.slice e,.slice e,sh,true⟩).aS=true/\Gd Tryz.prog k (jG.mB ⟨.slice e,.slice e,sh,true⟩):=
 atB (by simp) h lr (b0:=60) (λx=>(x,())) (λx=>rfl) rfl (by show 1<=fz;decide) rfl (λbl=>bl.1) (λbl=>⟨rfl,rfl⟩) ai
abbrev aCU:Code:=Tryz.f166.body.getD .skip
theorem aCV(aQ:dV):cW Tryz.prog aQ 166 ss:=
 aCP (rj Tryz.func166 (show Tryz.f166.body=some aCU by kernel_rfl) (by kernel_rfl)) (λaa off cap zs w E L an=>calls_of_every_depth λck=>AnyS.slices_Sort_int_in Tryz.ahP ck aa off cap zs w E L an)
  λp cap w=>Any.slices_Sort_int_none Tryz.ahP p cap w
theorem aCW:Wa=H.D8:=by
 funext x;unfold Wa H.D8;rw[show x.1.mergeSort (λa b=>decide (a<=b))=H.hb H.jq x.1 from (H.D7 ((List.pairwise_mergeSort (le:=λa b:Int=>decide (a<=b)) (λa b c E L=>by simp at E L ⊢;omega) (λa b=>by simp;omega) x.1).imp λh=>by simpa using h) (List.mergeSort_perm _ _).symm).symm]
def Wb:cK:=⟨⟨[(0,.own 200001)],[(200001,.bn cX)]⟩,⟨[],[(200001,.bn cX)]⟩,[],1,H.D8⟩
theorem ah8:cW Tryz.prog dT 166 Wb:=by
 have:=aCV dT;unfold ss at this;rw[aCW]at this;exact this
abbrev aCX:Code:=Tryz.f243.body.getD .skip
abbrev aCY:Code:=Tryz.f242.body.getD .skip
def ah9:cK:=⟨⟨[(0,.dW),(1,.val cX)],[]⟩,⟨[(0,.own 50000)],[(50000,.bn cX)]⟩,[none],2,H.NK⟩
def ah_:cK:=⟨⟨[(0,.dW),(1,.val cX)],[]⟩,⟨[(0,.own 50000)],[(50000,.bn H.iY)]⟩,[none],2,H.NL⟩
theorem aCZ:cW Tryz.prog dT 243 ah9:=
 ah5 (e:=cX) (rj Tryz.func243 (show Tryz.f243.body=some aCX by kernel_rfl) (by kernel_rfl)) (ah6 Tryz.ahT) (ah7 Tryz.ahT (qv.ca (id:=3) rfl (by decide)) (by decide))
theorem aC0:cW Tryz.prog dT 242 ah_:=
 ah5 (e:=H.iY) (rj Tryz.func242 (show Tryz.f242.body=some aCY by kernel_rfl) (by kernel_rfl)) (ah6 Tryz.ahU) (ah7 Tryz.ahU (qv.ca (id:=116) rfl (by decide)) (by decide))
def dt:=atz.cons (n:=107) (c:=W.N2.dJ) ⟨aCu,λ_ _=>r3⟩
def ei:=dt.cons (n:=189) (c:=W.NU.dJ) ⟨aCy,λ_ _=>r3⟩
def j2:=ei.cons (n:=247) (c:=W.IZ.dJ) ⟨aCA,λ_ _=>r3⟩
def aC1:=j2.cons (n:=108) (c:=W.I1.dJ) ⟨aCL,λ_ _=>r3⟩
end Go.Fer.Sk
namespace Go.Proofs
open Go.RowKit
def Tryz.Ch(b:UInt8):Bool:=decide (32<=b.toNat)&&decide (b.toNat<=126)
def Tryz.uX(s:ByteArray)(pos:Nat):Prop:=∀ i,(h:i<s.size)->pos<=i->Tryz.Ch (s[i]'h)=true
theorem Tryz.aC2(s:ByteArray)(pos:Nat)(h:pos<s.size):Tryz.uX s pos<->Tryz.Ch (s[pos]'h)=true/\Tryz.uX s (pos+1):=by
 constructor
 ·intro k;exact⟨k pos h (amn _),λi G ai=>k i G (by omega)⟩
 ·rintro⟨aM,aT⟩ i G ai;by_cases e:i=pos
  ·subst e;exact aM
  ·exact aT i G (by omega)
theorem Tryz.ah'{w:World}{k:Nat}{s:ByteArray}{p:Nat}(h:w.heap[k]?=some (.stringIter s p)):w.iterPos k=p:=by simp[World.iterPos,h]
open Classical in
set_option maxHeartbeats 4000000 in
set_option maxRecDepth 1000000 in
theorem Tryz.aC3(s:ByteArray)(w:World) :
  Calls Tryz.prog 39 #[.string s] w λe w'=>e=.returned (.bool (decide (Tryz.uX s 0)))/\Below w.heap.size w w':=by
 go_enter Tryz.func39,Tryz.ntmps39;go_wp2;go_loopw [] (λwr=>∃ (pos:Nat),wr.heap[w.heap.size]?=some (.stringIter s pos)/\Below w.heap.size w wr/\(Tryz.uX s pos<->Tryz.uX s 0)) (λwr=>s.size - wr.iterPos w.heap.size);case atStart=>exact⟨0,World.iter_heap w s 0,(Below.refl _ _).alloc (amn _) _,Iff.rfl⟩
 case round=>
  obtain⟨pos,hit,wy,b6⟩:=hrel;have aC4:=Tryz.ah' hit;by_cases ai:pos<s.size
  ·have be:∀ ty,(Instr.next (.pointer (some ⟨w.heap.size,0,none⟩)) true ty).run Tryz.prog wr=_:=λty=>Lib.run_next_any_at wr w.heap.size s pos ty hit ai;have Og:=Lib.iterAt_heap wr w.heap.size s pos (pos+(Utf8.decode s pos).2) hit;have E1:=Lib.below_iterAt wy (k:=w.heap.size) (amn _) s (pos+(Utf8.decode s pos).2);have hr:=Tryz.aC2 s pos ai;by_cases aY:(s[pos]'ai).toNat<128
   ·rw[decode_ascii s pos ai aY]at be Og E1;simp only at be Og E1;obtain⟨n,aC⟩:∃ n,n=(s[pos]'ai).toNat:=⟨_,rfl⟩
    have U:Tryz.Ch (s[pos]'ai)=(decide (32<=n)&&decide (n<=126)):=by rw[aC];rfl
    rw[<-aC]at be aY;by_cases E:(n:Int)<32
    ·have h9:decide (Tryz.uX s 0)=false:=by
      rw[aPX,<-b6,hr,U];simp;omega
     go_wp2;go_ret;exact⟨rfl,E1⟩
    ·by_cases L:(n:Int) > 126
     ·have h9:decide (Tryz.uX s 0)=false:=by
       rw[aPX,<-b6,hr,U];simp;omega
      go_wp2;go_ret;exact⟨rfl,E1⟩
     ·go_wp2;go_roundw;case rel=>
       refine⟨pos+1,Og,E1,?_⟩;rw[<-b6,hr,U];have:(decide (32<=n)&&decide (n<=126))=true:=by simp;omega
       simp[this]
      case measure=>rw[Tryz.ah' Og,aC4];omega
   ·obtain⟨d1,d2⟩:=decode_high s pos ai (by omega);obtain⟨n,aC⟩:∃ n,n=(Utf8.decode s pos).1:=⟨_,rfl⟩
    rw[<-aC]at be d1;have E:¬(n:Int)<32:=by omega
    have L:(n:Int) > 126:=by omega
    have h9:decide (Tryz.uX s 0)=false:=by
     rw[aPX,<-b6,hr];unfold Tryz.Ch;simp;omega
    go_wp2;go_ret;exact⟨rfl,E1⟩
  ·have be:∀ ty,(Instr.next (.pointer (some ⟨w.heap.size,0,none⟩)) true ty).run Tryz.prog wr=_:=λty=>Lib.run_next_end_at wr w.heap.size s pos ty hit ai;have aC5:decide (Tryz.uX s 0)=true:=by
    rw[aQg,<-b6];intro i G GR;omega
   go_wp2;go_ret;exact⟨by rw[aC5];rfl,wy⟩
end Go.Proofs
namespace Go.Fer
open Go.RowKit Go.Proofs Go.Shelf
abbrev I7(n:Nat):V:=.ad (.ar (.bO (.array n .dc)) (.slice (.int .u8)))
def aia(n:Nat):List (Nat×cc):=[(100001,.cells (I7 n) [.hM 100001,.own 100002]),(100002,.bn (.int .u8))]
def Oh(n:Nat):cK:=⟨⟨[(0,.eX 100001 0)],aia n⟩,⟨[],aia n⟩,[],1,λA=>mpure A⟩
theorem aC6{P:Program}{rho:Ren}(ab:Lays.n240 P rho)(X:Builder.X72 P rho){aQ:dV}{n:Nat}(aC:P.underlying n=some (.pointer (rho.t 72)))(he:∀ args w,(callFunc (rho.f 240) args).run P w=.ok (.enter (rho.f 240) args) w):cW P aQ (rho.f 240) (Oh n) where
  enter:=he
  ik C a w kap F A jS xy D ax rY vf h az:=by
    obtain⟨xs,u⟩:=A;have cN:a.tmps.size=1:=h.dX.trans rY;have q_:=h.b1 0;have U:=h.bF 100001;let ad:=(Oh n).cA.ad (xs,u);change mr C.P ad.aa kap F w (kap 100001) (.cells (I7 n) (hY [.hM 100001 0,.own 100002 0])) at U;have af:a.tmps.getD 0 undef=.pointer (some ⟨(kap 100001).aa,0,none⟩):=q_.2 rfl rfl;have aY:a.tmps=#[.pointer (some ⟨(kap 100001).aa,0,none⟩)]:=by
      apply Array.ext (by omega);simp_all
    have ql:∀ {w':World},bu C ad a w' kap F->bu { C with bZ:=0 } ((Oh n).a_.ad (xs,u)) { tmps:=#[],defers:=[] } w' kap F:=λ{w'} fp=>by
      refine { dX := rfl, dj := ax.symm, b1 := λi => trivial, bF := λb => fp.bF b, own := λb => fp.own b, inj := λb bj => fp.inj b bj, ds := fp.ds, hN := fp.hN, iq := fp.iq, ir := fp.ir, e5 := fp.e5, size := fp.size, eN := fp.eN, hB := aPR _, lb := fp.lb, iS := λb r => fp.iS b r, ld := fp.ld, jB := λb k => fp.jB b k, e7 := λl aI ab n ad e => (by cases e), bR := λaZ m hm => (by
        have hm:(eP [(100001,b'.cells (I7 n) (hY [.hM 100001 0,.own 100002 0])),(100002,b'.bn (.int .u8) xs)] 140000).body=.bR aZ m:=hm;simp[eP]at hm),j1:=fp.j1,hX:=fp.hX }
    obtain⟨cs,T,bG,⟨c2,c3⟩,c4⟩:=U;have aU:T=rho.t 72:=by
      have E:=c3 n _ rfl;grind
    have c2:cs.size=2:=c2;have oI:w.cell? ⟨(kap 100001).aa,0,none⟩=some (cs.getD 0 undef):=by
      simp[World.cell?,bG,c2]
    have iC:=(c4 0 (by omega)).1;have iC:=iC.2 rfl rfl;rw[aY];rcases iC with iC | iC
    · refine (Any.Builder_copyCheck_fresh ab X _ w (oI.trans (congrArg some iC)) (by grind [World.shape?]) (by grind [World.frozen?])).mono ?_
      rintro e w' ⟨rfl,rfl⟩
      refine⟨_,(xs,u),[],kap,F,rfl,rfl,⟨[],rfl,rfl,rfl⟩,ql ?_⟩
      have hw:=h.qU (b:=100001) (x:=⟨0,.cells (I7 n) (hY [.hM 100001 0,.own 100002 0])⟩) (w':=w.setCell ⟨(kap 100001).aa,0,none⟩ (.pointer (some ⟨(kap 100001).aa,0,none⟩))) rfl rfl
        (pd rfl (λ_=>rfl) (λh=>by cases h) (λh=>by cases h) (λh=>by cases h)) (λ_=>rfl) (λh=>by cases h)
        (λr D=>by grind [World.setCell]) (by simp) ⟨rfl,rfl,rfl⟩ (λH pk dv he=>?_)
      · have e:(aB.ct ((Oh n).cA.ad (xs,u)) 100001 ⟨0,.cells (I7 n) (hY [.hM 100001 0,.own 100002 0])⟩)=ad:=by
          show aB.mk _ _=aB.mk _ _;congr 1;funext i;by_cases G:i=100001
          · subst G;rfl
          · rw[if_neg G];rfl
        grind
      · refine⟨cs.setIfInBounds 0 (.pointer (some ⟨(kap 100001).aa,0,none⟩)),T,?_,⟨by grind,c3⟩,λi G=>?_⟩
        · grind [World.setCell]
        · rcases aQF i 1 with aW | aW
          · obtain rfl:i=0:=by omega
            have bN:(cs.setIfInBounds 0 (.pointer (some ⟨(kap 100001).aa,0,none⟩))).getD 0 undef=.pointer (some ⟨(kap 100001).aa,0,none⟩):=by simp_all
            rw[bN]
            exact⟨⟨⟨aPR _,rfl⟩,λ_ _=>.inr rfl⟩,rfl⟩
          · have bN:(cs.setIfInBounds 0 (.pointer (some ⟨(kap 100001).aa,0,none⟩))).getD 1 undef=cs.getD 1 undef:=by simp
            grind [bM.later]
    · refine (Any.Builder_copyCheck_used ab X _ w (oI.trans (congrArg some iC))).mono ?_
      rintro e w' ⟨rfl,rfl⟩
      exact⟨_,(xs,u),[],kap,F,rfl,rfl,⟨[],rfl,rfl,rfl⟩,ql h⟩
end Go.Fer
namespace Go.Fer
open Go.RowKit
theorem aC7{P:Program}{aQ:dV}{k:FuncId}{ts e:V}(uy:ts≠.dc)(he:e.pure=true){c:cK}(h:cW P aQ k c)(iK:qR P aQ){sh:ts.aj->M (List e.aj)}{b0:Nat}(mk:ts.aj->c.cA.aj)
    (S':∀ x,c.cA.ad (mk x)=⟨fv ((List.range (jQ ts)).map λi=>(i,kc ts x i)),λ_=>⟨0,.ev⟩⟩) (aC:c.kS=jQ ts) (jj:c.kS<=fz) (Ta:c.ln=[none]) (val:c.a_.aj->List e.aj) (ri:∀ bl,(c.a_.ad bl).aA 0=.own b0 0/\(c.a_.ad bl).aa b0=⟨0,.bn e (val bl)⟩)
    (mS:∀ x,(sh x).e3->(c.sh (mk x)).e3/\∀ bl,(c.sh (mk x)).a_ bl->(sh x).a_ (val bl)):hA P k ts (.slice e) sh/\FF P k ts (.slice e) sh:=by
  have key:∀ (F:Nat->Prop) (w:World) (args:List Value) (x:ts.aj),(∀ r,F r->r<w.heap.size)->pa P F w->gv P ts F w args x->(sh x).e3->
      Calls P k args.toArray w λaZ w'=>∃ (v:Value) (y:(V.slice e).aj),aZ=.returned v/\(sh x).a_ y/\tL P (.slice e) (λr=>w.heap.size<=r/\r<w'.heap.size) w' v y/\Below w.heap.size w w':=by
    intro F w args x bp fm fu az;obtain⟨ka,DC⟩:=vk (H:=λ_=>⟨0,.ev⟩) (kap:=λ_=>⟨0,0,0,false⟩) ts fu uy;let C:cH:={ P:=P,ep:=w,jA:=F,K0:=λr=>r<w.heap.size,bZ:=c.kS,r:=none,dj:=[],j':=λ_=>none,cI:=⟨0,.dc,λ_=>False,λ_ _ _ _ _=>False⟩,aX:=aQ }
    have vz:∀ i,fv ((List.range (jQ ts)).map λi=>(i,kc ts x i)) i=.undef\/(i<jQ ts/\fv ((List.range (jQ ts)).map λi=>(i,kc ts x i)) i=kc ts x i):=λi=>by
      rcases SJ (l:=(List.range (jQ ts)).map λi=>(i,kc ts x i)) (i:=i) with e | e
      · exact .inl e
      · refine .inr ?_
        generalize bA:fv ((List.range (jQ ts)).map λi=>(i,kc ts x i)) i=z at e
        simp only[aRb,aQ9,aPK]at e
        obtain⟨j,aK,rfl,rfl⟩:=e
        exact⟨aK,rfl⟩
    have D:bu C (c.cA.ad (mk x)) { tmps:=args.toArray,defers:=[] } w (λ_=>⟨0,0,0,false⟩) F:=by
      rw[S'];refine { dX := ?_, dj := rfl, b1 := λi => ?_, bF := λb => trivial, own := λb U => (by cases U), inj := λb bj U _ _ => (by cases U), ds := bp, hN := λr D => .inl D, iq := λr D => D, ir := λr D => D, e5 := λr _ => rfl, size := amn _, eN := dL.refl w,hB:=jj,lb:=λb r h=>(by grind),iS:=λb r h=>(by grind),ld:=λb k h=>(by grind),jB:=λb k h=>(by grind),e7:=λl aI ab n ad e=>?_,bR:=λe m hm=>(by grind),j1:=iK,hX:=fm }
      · grind
      · rcases vz i with e | ⟨G,e⟩
        · grind [bM]
        · show bM _ _ _ _ _ (fv _ i) _
          rw[e]
          have:=DC i G
          simpa  using this
      grind [cd,fz]
    obtain⟨G0,pr⟩:=mS x az;refine (h.ik C _ w _ F (mk x) rfl rfl rfl rfl rfl rfl D G0).mono λaZ w' ⟨v,bl,aG,bT,F',zY,gK,ux,bk⟩=>?_;obtain⟨Tb,xD⟩:=ri bl;rw[Ta]at ux;obtain⟨us,nz,GU,A7⟩:=ux;obtain⟨u,rfl⟩:∃ u,us=[u]:=by
      cases us<;>grind
    obtain⟨tM,Mh,aPe⟩:=A7;have af:v=u:=by grind
    have fD:=bk.b1 0;rw[Tb]at fD;have DY:u=(bT b0).slice ((c.a_.ad bl).aa b0).body.len:=by
      have:=fD.2 (by grind) (by rw[xD];rfl);simp_all
    rw[xD]at DY;have a1:=bk.bF b0;unfold c6 at a1;rw[xD]at a1;have eJ:(bT b0).fO=false->w.heap.size<=(bT b0).aa/\(bT b0).aa<w'.heap.size:=λaC=>by
      have:=bk.own b0 (by grind [b'.ch]);omega
    refine⟨v,val bl,zY,pr bl gK,⟨[v],rfl,(pb rfl).2 ⟨v,rfl,(ee rfl).2 ⟨?_,?_⟩⟩⟩,bk.eN.os,bk.eN.tape,bk.eN.output,bk.size,bk.e5⟩
    · rw[af,DY];unfold bL.slice;split<;>rfl
    · rw[af,DY]
      simp  [b'.len]
      obtain⟨E,L⟩:=a1
      simp  [bL.slice]
      cases aC:(bT b0).fO with
      | true=>rw[E aC];exact⟨none,0,rfl,amn _,by decide,λ_=>rfl,λp ai=>by omega⟩
      | false=>
        obtain⟨cs,T,bG,c2,c3,c4,c5⟩:=L aC;refine⟨some ⟨(bT b0).aa,(bT b0).off,none⟩,(bT b0).cap,by simp,c3,c4.1,(by simp),λp ai _=>?_⟩;cases ai;refine⟨eJ aC,rfl,λi G=>?_⟩;obtain⟨bC,d1,d2⟩:=c5 i G;refine⟨bC,⟨eJ aC,rfl,λj aK=>?_⟩,PH e he d2⟩;grind [World.cell?]
  exact⟨⟨h.enter,λF w args x bp fm aY az=>(key F w args x bp fm aY az).mono λaZ w' ⟨v,y,E,L,⟨aG,an,a6,bS⟩,ek⟩=>⟨v,y,E,L,⟨aG,an,a6,fH _ (λr D=>.inr D) (di.refl _ _) bS⟩,ek⟩⟩,⟨key⟩⟩
end Go.Fer
namespace Go.Fer
set_option maxRecDepth 100000
abbrev eO:Type:=List UInt8
def aib(aC8:List eO×(List UInt8->M Bool)->M Bool)(aC9:List eO->M eO)(aC_:List UInt8->M Bool)(x:List eO):M (z32'):=
 bD (dp (Int.ofNat (List.length x)) 40) (mpure ([],2)) (aq (aC8 (x,aC_)) (λy=>bD y (mpure ([],1)) (aq (aC9 x) (λy=>mpure (y,0)))))
def aic(Wc:List UInt8->M (List eO×z1'×Int))(x:List UInt8):M (List eO×z1'×Int):=
 aq (Wc x) λy=>bQ (λ(A:List eO×Int×z1'×Int×Int×z1'×Unit)=>letI b:=A.2.2;letI a:=b.2.2.1;bD (fT a b.2.1) (cB (ae (0<=a/\a<Int.ofNat (List.length b.1)) (bD (decide (List.getD b.1 (Int.toNat a) (0:Int)≠-1)) (ae (cb (Add.add (List.length A.cv) (Add.add 0 1))) (mpure (aJ.aw (A.1,A.2.1,b.1,b.2.1,a,A.cv++[a],())))) (mpure (aJ.aw (A.1,A.2.1,b.1,b.2.1,a,A.cv,()))))) (λ(A:List eO×Int×z1'×Int×Int×z1'×Unit)=>mpure (aJ.aw (A.1,A.2.1,A.2.2.1,A.2.2.2.1,bf A.2.2.2.2.1,A.cv,())))) (aq (mpure (aJ.aw (A.1,A.2.1,A.cv,()))) (λr=>mpure (aJ.aV r)))) (y.1,y.2.2,y.2.1,Int.ofNat (List.length y.2.1),0,[],()) λ(A:List eO×Int×z1'×Unit)=>mpure (A.1,A.2.2.1,A.2.1)
def aC'(aDa:List eO×(List UInt8->M Bool)->M Int)(x:List eO×(List UInt8->M Bool)):M Bool:=
 aq (aDa x) λy=>mpure (decide (y>=0))
def aid(Wd:List UInt8->M Bool)(x:List UInt8):M Bool:=
 letI a:=dp (Int.ofNat (List.length x)) 60;cf (!a) (Wd x) false λy=>mpure (a||!y)
def aie(We:List (z1')->M eO)(aDb:List eO×Int->M (List (List eO)->Prop))(Wf:List UInt8×z14'->M (z20'))(aDc:List eO->M (List (z1')))(E2:z14'->M (List UInt8×Unit))(x:List eO):M eO:=
 cB (mpure (aJ.aw (x,[],()))) λ(A:List eO×z1'×Unit)=>aq (aDb (A.1,8)) λy=>aq (mN y) λab=>aq (kl (λ(A:z14') (y:List eO)=>aq (aq (aDc y) (λy=>aq (We y) λy=>aq (Wf (y,A.1,())) λy=>mpure (dS.normal,y.2.1,()))) λp=>mpure (p.1,p.2.1,())) ab (A.2.1,())) λp=>yD (aq (E2 (p.2.1,())) (λy=>mpure y.1)) (λid=>if id=0 then aq (E2 (p.2.1,())) λy=>mpure y.1 else d') d' p.1
def aif(aDd:List UInt8×z13'->M (Bool×z31'))(aDe:z6'×z13'->M (Int×(z12')×z13'))(aDf:List (z1')->Prop)(aDg:List (z1')->List UInt8)(aDh:List (List (z1'))->Prop)(aih:List (List (z1'))->List eO×Bool)(x:List UInt8):M (List eO×z1'×Int):=
 aq (aDd (x,[],())) λy=>bD (!y.1) (mpure ([],[],140)) (bQ (λ(A:Int×Int×Int×z1'×z31')=>letI b:=A.2.2;letI c:=b.2.2.1;letI a:=List.getD c (Int.toNat b.1) [];bD (fT b.1 A.2.1) (ae (0<=b.1/\b.1<Int.ofNat (List.length c)) (cB (aq (aDe (a,A.cv,())) (λy=>bD (b7 y.1 2) (aq (aq (aq (mpure ([],[],141)) (λr=>mpure (aJ.aV r))) (λr=>mpure (aJ.aV r))) (λr=>mpure (aJ.aV r))) (bD (b7 y.1 1) (ae ((0:Int)<=0/\0<Int.ofNat (List.length a)) (mpure (aJ.aw (A.1,a,eZ (eZ A.1 (IntKind.wrap .i64 (y.2.1.1*bf (Int.ofNat (List.getD a (Int.toNat 0) (0,0,0)).2.2)))) y.2.1.2,A.2.1,b.1,b.2.1,c,y.2.2.1,())))) (mpure (aJ.aw (A.1,a,-1,A.2.1,b.1,b.2.1,c,y.2.2.1,())))))) (λ(A:Int×z6'×Int×Int×Int×z1'×z31')=>ae (cb (Add.add (List.length A.cv) (Add.add 0 1))) (ae (n7 (V.int .u8) A.h1 (V.slice (V.cM (V.int .u8))) A.2.1/\aDf (gx (V.int .u8) A.h1 (V.slice (V.cM (V.int .u8))) A.2.1)) (mpure (aJ.aw (eZ A.1 (Int.ofNat (List.length (aDg (gx (V.int .u8) A.h1 (V.slice (V.cM (V.int .u8))) A.2.1)))),A.2.2.2.1,bf A.2.2.2.2.1,A.cv++[A.2.2.1],A.fE,A.h1,()))))))) (aq (mpure (aJ.aw (b.2.1,c,A.cv,()))) (λr=>mpure (aJ.aV r)))) (0,Int.ofNat (List.length y.2.1),0,[],y.2.1,y.2.2.1,()) (λ(A:z1'×z31')=>letI d:=A.2.2.1;ae (n7 (V.int .u8) d (V.slice (V.slice (V.cM (V.int .u8)))) A.2.1/\aDh (gx (V.int .u8) d (V.slice (V.slice (V.cM (V.int .u8)))) A.2.1)) (bD (!(aih (gx (V.int .u8) d (V.slice (V.slice (V.cM (V.int .u8)))) A.2.1)).2) (mpure ([],[],142)) (mpure ((aih (gx (V.int .u8) d (V.slice (V.slice (V.cM (V.int .u8)))) A.2.1)).1,A.1,0)))))
def aii(E2:z14'->M (List UInt8×Unit))(aDi:z1'×z14'->M (z20'))(aij:z20'->M (z14'))(x:List (z1')):M eO:=
 cB (mpure (aJ.aw (x,[],()))) λ(A:List (z1')×z14')=>bQ (λ(A:List (z1')×z33')=>letI a:=A.2.2.1;bD (fT a A.2.1) (ae (0<=a/\a<Int.ofNat (List.length A.1)) (aq (aDi (List.getD A.1 (Int.toNat a) [],A.2.2.2.1,())) (λy=>aq (aij (10,y.2.1,())) λy=>mpure (aJ.aw (A.1,A.2.1,bf a,y.1,()))))) (aq (mpure (aJ.aw (A.2.2.2.1,()))) (λr=>mpure (aJ.aV r)))) (A.1,Int.ofNat (List.length A.1),0,A.2.1,()) λ(A:z14')=>aq (aij (10,A.1,())) λy=>aq (E2 (y.1,())) λy=>mpure y.1
def aik(Wg:List eO->M (z32'))(We:List (z1')->M eO)(Wf:List UInt8×z14'->M (z20'))(E2:z14'->M (List UInt8×Unit))(aDj:List (z1')->M (List eO))(x:List (List (z1'))):M (List eO×Bool):=
 cB (mpure (aJ.aw (x,[],[],()))) λ(A:List (List (z1'))×List eO×z1'×Unit)=>bQ (λ(A:List (List (z1'))×Int×Int×List eO×z1'×Unit)=>letI b:=A.2.2;letI c:=List.getD A.1 (Int.toNat b.1) [];bD (fT b.1 A.2.1) (ae (0<=b.1/\b.1<Int.ofNat (List.length A.1)) (aq (aDj c) (λy=>ae (cb (Add.add (List.length b.2.1) (List.length y))) (aq (We c) (λcn=>aq (Wf (cn,b.2.2.1,())) λdZ=>mpure (aJ.aw (A.1,A.2.1,bf b.1,b.2.1++y,dZ.2.1,()))))))) (aq (mpure (aJ.aw (b.2.1,b.2.2.1,()))) (λr=>mpure (aJ.aV r)))) (A.1,Int.ofNat (List.length A.1),0,A.2.1,A.2.2.1,()) λ(A:List eO×z1'×Unit)=>aq (Wg A.1) λy=>letI a:=b7 y.2 0;letI d:=a=true;bD a (ae True (aq (E2 (A.2.1,())) (λcn=>ae (d->(d/\True)/\True/\True) (mpure (A.1,a&&b7 y.1 cn.1))))) (ae (d->(d/\false=true)/\True/\True) (mpure (A.1,a&&b7 y.1 [])))
def aDk(x:List eO×(List UInt8->M Bool)):M Int:=
 bQ (λ(A:List eO×(List UInt8->M Bool)×Int×Int×Unit)=>letI a:=A.2.2.2.1;bD (fT a A.2.2.1) (ae (0<=a/\a<Int.ofNat (List.length A.1)) (aq (A.2.1 (List.getD A.1 (Int.toNat a) [])) (λy=>bD y (aq (aq (mpure a) (λr=>mpure (aJ.aV r))) (λr=>mpure (aJ.aV r))) (mpure (aJ.aw (A.1,A.2.1,A.2.2.1,bf a,())))))) (aq (mpure (aJ.aw ())) (λr=>mpure (aJ.aV r)))) (x.1,x.2,Int.ofNat (List.length x.1),0,()) λ(A:Unit)=>mpure (-1)
def ail(aDl:Option (List eO)×Option Int->List (List eO)->Prop)(x:List eO×Int):M (List (List eO)->Prop):=
 cB (bD (fT x.2 1) (ae False (ae False (mpure (aJ.aw (x.1,x.2,()))))) (mpure (aJ.aw (x.1,x.2,())))) λ(A:List eO×Int×Unit)=>mpure (aDl (some A.1,some A.2.1))
def aim(ain:z1'->M Int)(aDm:Int×Int×z26'->M (z1'×z26'))(Wh:Int->M Int)(aDn:z32'->M eO)(x:List eO):M (List (z1')):=
 bQ (λ(A:List eO×Int×List eO×Int×Int×List (z1')×Unit)=>letI e:=A.2.2;letI c:=e.2.2.1;bD (fT c e.2.1) (ae (0<=c/\c<Int.ofNat (List.length e.1)) (mpure (aJ.aw (A.1,vn (Int.ofNat (List.length (List.getD e.1 (Int.toNat c) []))) A.2.1,e.1,e.2.1,bf c,A.cv,())))) (aq (mpure (aJ.aw (A.1,A.2.1,A.cv,()))) (λr=>mpure (aJ.aV r)))) (x,0,x,Int.ofNat (List.length x),0,[],()) λ(A:List eO×Int×List (z1')×Unit)=>bQ (λ(A:Int×List eO×Int×Int×List (z1')×Unit)=>letI b:=A.2.2.2;letI a:=List.getD A.2.1 (Int.toNat b.1) [];letI d:=List.length a;bD (fT b.1 A.2.2.1) (ae (0<=b.1/\b.1<Int.ofNat (List.length A.2.1)) (aq (Wh (Int.ofNat d)) (λy=>aq (aDn ([32],cE A.1 (Int.ofNat d))) λcn=>letI f:=a++cn;ae (cb (Add.add d (List.length cn))) (ae (cb (Add.add (Add.add 0 1) (List.length (de f)))) (aq (ain ([y]++de f)) (λdZ=>ae (cb (Add.add (Add.add (List.length (de f)) 1) (Add.add 0 1))) (ae (cb (Add.add (List.length b.2.1) (Add.add 0 1))) (mpure (aJ.aw (A.1,A.2.1,A.2.2.1,bf b.1,b.2.1++[[y]++de f++[dZ]],())))))))))) (aq (mpure (aJ.aw (A.1,b.2.1,()))) (λr=>mpure (aJ.aV r)))) (A.2.1,A.1,Int.ofNat (List.length A.1),0,A.2.2.1,()) λ(A:Int×z26')=>bQ (λ(A:Int×Int×List (z1')×z14')=>bD (fT A.2.1 A.1) (aq (aDm (A.2.1,0,A.2.2.1,())) (λy=>aq (ain y.1) λcn=>ae (cb (Add.add (List.length A.2.2.2.1) (Add.add 0 1))) (mpure (aJ.aw (A.1,bf A.2.1,y.2.1,A.2.2.2.1++[cn],()))))) (aq (mpure (aJ.aw (A.2.2.1,A.2.2.2.1,()))) (λr=>mpure (aJ.aV r)))) (eZ A.1 2,0,A.2.1,[],()) λ(A:List (z1')×z14')=>ae (cb (Add.add (List.length A.1) (Add.add 0 1))) (mpure (A.1++[A.2.1]))
def aio(Wd:List UInt8->M Bool)(x:z1'×Option Int):M Bool:=
 letI a:=decide (Int.ofNat (List.length x.1)≠Option.getD x.2 0);cf (!a) (Wd (ff x.1)) false λy=>mpure (a||!y)
def aDo(aDp:List (z1')×(z1'->M Bool)->M Int)(x:List (z1')×(z1'->M Bool)):M Bool:=
 aq (aDp x) λy=>mpure (decide (y>=0))
def aip(aDq:Int×z25'->M (z25'))(aDr:Int->M Int)(x:z1'):M Int:=
 bQ (λ(A:z1'×Int×Int×z25')=>letI a:=A.2.2.1;bD (fT a A.2.1) (ae (0<=a/\a<Int.ofNat (List.length A.1)) (aq (aDq (List.getD A.1 (Int.toNat a) 0,A.2.2.2.1,())) (λy=>mpure (aJ.aw (A.1,A.2.1,bf a,y.1,()))))) (aq (mpure (aJ.aw (A.2.2.2.1,()))) (λr=>mpure (aJ.aV r)))) (x,Int.ofNat (List.length x),0,0,()) λ(A:z25')=>aq (aDr A.1) λy=>mpure y
def aiq(x:List (z1')×z12'):M (z1'):=
 letI d:=Int.ofNat (List.length x.1);letI a:=cE d x.2.2;letI e:=List.take (Int.toNat a) x.1;cB (ae ((0:Int)<=0/\0<=a/\a<=d) (dA (λ(A:Int×List (z1')×z33')=>letI b:=A.2.2.2;letI c:=List.getD A.2.1 (Int.toNat b.1) [];bD (fT b.1 A.2.2.1) (ae (0<=b.1/\b.1<Int.ofNat (List.length A.2.1)) (ae (0<=A.1/\A.1<Int.ofNat (List.length c)) (ae (cb (Add.add (List.length b.2.1) (Add.add 0 1))) (mpure (aJ.aw (A.1,A.2.1,A.2.2.1,bf b.1,b.2.1++[List.getD c (Int.toNat A.1) 0],())))))) (aq (mpure (aJ.aw (b.2.1,()))) (λr=>mpure (aJ.aV r)))) (x.2.1,e,Int.ofNat (List.length e),0,[],()))) λ(A:z14')=>mpure A.1
def air(x:Unit):M (z1'):=
 bQ (λ(A:z20')=>bD (hS A.1 126) (ae (cb (Add.add (List.length A.2.1) (Add.add 0 1))) (mpure (aJ.aw (IntKind.wrap .u8 (Add.add A.1 1),A.2.1++[A.1],())))) (aq (mpure (aJ.aw (A.2.1,()))) (λr=>mpure (aJ.aV r)))) (32,[],()) λ(A:z14')=>mpure A.1
def ais(x:List (z1')):M (List eO):=
 letI c:=Int.ofNat (List.length x);letI f:=List.take (Int.toNat (cE c 1)) x;cB (ae ((0:Int)<=0/\0<=cE c 1/\cE c 1<=c) (dA (λ(A:List (z1')×Int×Int×List eO×Unit)=>letI g:=A.2.2;letI d:=List.getD A.1 (Int.toNat g.1) [];letI b:=Int.ofNat (List.length d);letI e:=cE b 2;letI a:=IntKind.wrap .i64 (IntKind.wrap .u8 (List.getD d (Int.toNat 0) 0-32));bD (fT g.1 A.2.1) (ae (0<=g.1/\g.1<Int.ofNat (List.length A.1)) (ae ((0:Int)<=0/\0<b) (ae ((0:Int)<=1/\1<=eZ 1 (if e<a then e else a)/\eZ 1 (if e<a then e else a)<=b) (ae (cb (Add.add (List.length g.2.1) (Add.add 0 1))) (mpure (aJ.aw (A.1,A.2.1,eZ g.1 1,g.2.1++[ff (List.drop (Int.toNat 1) (List.take (Int.toNat (eZ 1 (if e<a then e else a))) d))],()))))))) (aq (mpure (aJ.aw (g.2.1,()))) (λr=>mpure (aJ.aV r)))) (f,Int.ofNat (List.length f),0,[],()))) λ(A:List eO×Unit)=>mpure A.1
def ait(x:Int):M Int:=
 mpure (IntKind.wrap .u8 (eZ x 32))
def aDs(x:List (z1')×(z1'->M Bool)):M Int:=
 bQ (λ(A:List (z1')×(z1'->M Bool)×Int×Int×Unit)=>letI a:=A.2.2.2.1;bD (fT a A.2.2.1) (ae (0<=a/\a<Int.ofNat (List.length A.1)) (aq (A.2.1 (List.getD A.1 (Int.toNat a) [])) (λy=>bD y (aq (aq (mpure a) (λr=>mpure (aJ.aV r))) (λr=>mpure (aJ.aV r))) (mpure (aJ.aw (A.1,A.2.1,A.2.2.1,bf a,())))))) (aq (mpure (aJ.aw ())) (λr=>mpure (aJ.aV r)))) (x.1,x.2,Int.ofNat (List.length x.1),0,()) λ(A:Unit)=>mpure (-1)
def aiu(Wh:Int->M Int)(x:Int):M Int:=
 aq (Wh x) λy=>mpure y
def aiv(x:Int×z25'):M (z25'):=
 ae True (ae ((95:Int)≠0) (ae True (mpure (Int.tmod (cE (eZ x.2.1 (IntKind.wrap .i64 x.1)) 32) 95,()))))
def aiw(x:z14'):M (List UInt8×Unit):=
 letI a:=Int.ofNat (List.length x.1);ae True (ae True (ae True (ae (a=a) (mpure (ff x.1,())))))
def aix(aDt:z1'×z16'->M (Int×z16'))(x:z1'×z16'):M (Bool×z16'):=
 aq (aDt (x.1,x.2.1,x.2.2.1,x.2.2.2.1,())) λy=>mpure (decide (y.1>=0),y.2.1,y.2.2.1,y.2.2.2.1,())
def Oi(x:Nat×List eO×Int×(Nat×(List (List eO)->Prop)×List (List eO)×Bool)×Unit):M ((Nat×(List (List eO)->Prop)×List (List eO)×Bool)×Unit):=
 dA (λ(A:Nat×List eO×Int×Int×(Nat×(List (List eO)->Prop)×List (List eO)×Bool)×Unit)=>letI h:=A.2.2.1;letI c:=A.2.2.2;letI g:=c.2.1;letI b:=Int.ofNat (List.length A.2.1);letI e:=Int.ofNat (List.length (List.drop (Int.toNat c.1) (List.take (Int.toNat b) A.2.1)));letI a:=eZ c.1 (if e<h then e else h);letI d:=List.drop (Int.toNat c.1) (List.take (Int.toNat a) A.2.1);bD (fT c.1 b) (ae (0<=c.1/\c.1<=b/\b<=b) (ae (0<=c.1/\c.1<=a/\a=a/\a<=b) (aq (ae (A.1=g.1/\g.2.2.2=false/\(∃ (T:List (List eO)),g.2.1 (g.2.2.1++d::T))) (mN (λx=>True))) (λy=>letI f:=(g.1,g.2.1,g.2.2.1++[d],!y);bD (!y) (aq (mpure (f,())) (λr=>mpure (aJ.aV r))) (mpure (aJ.aw (A.1,A.2.1,h,eZ c.1 h,f,()))))))) (aq (mpure (g,())) (λr=>mpure (aJ.aV r)))) (x.1,x.2.1,x.2.2.1,0,x.2.2.2.1,())
def aiy(x:Int×Int×z26'):M (z1'×z26'):=
 letI d:=Int.ofNat (List.length x.2.2.1);letI a:=cE d x.2.1;cB (ae ((0:Int)<=0/\0<=a/\a<=d) (dA (λ(A:Int×(z21')×Int×Int×z1'×z26')=>letI c:=A.2.2.2;letI b:=List.getD A.cv (Add.add A.2.1.1 (Int.toNat c.1)) [];bD (fT c.1 A.2.2.1) (ae (0<=c.1/\c.1<Int.ofNat (A.2.1.2-A.2.1.1)) (ae (0<=A.1/\A.1<Int.ofNat (List.length b)) (ae (cb (Add.add (List.length c.2.1) (Add.add 0 1))) (mpure (aJ.aw (A.1,A.2.1,A.2.2.1,bf c.1,c.2.1++[List.getD b (Int.toNat A.1) 0],A.cv,())))))) (aq (mpure (aJ.aw (c.2.1,A.cv,()))) (λr=>mpure (aJ.aV r)))) (x.1,(Int.toNat 0,Int.toNat a),Int.ofNat (Int.toNat a-Int.toNat 0),0,[],x.2.2.1,()))) λ(A:z1'×z26')=>mpure (A.1,A.2.1,())
def aiz(aDu:List UInt8×List UInt8->M (List UInt8×List UInt8×Bool))(aDv:List UInt8×List UInt8->M (List eO))(aDw:List (z1')×(z1'->M Bool)->Prop)(aDx:List (z1')×(z1'->M Bool)->Bool)(Wi:z1'×Option Int->M Bool)(x:List UInt8×z13'):M (Bool×z31'):=
 aq (dA (λ(A:List UInt8×z31')=>if decide (A.1≠[])=true then aq (aDu
 (A.1,[10,10])) λy=>if (!y.2.2)=true then aq (aq (mpure (false,[],A.2.2.1,())) λr=>mpure (aJ.aV r)) λr=>mpure
 (aJ.aV r) else aq (aq (aDv (y.1,[10])) λcn=>dA (λ(A:List UInt8×List eO×Int×Int×List (z6')×
 z6'×z13')=>if decide (A.2.2.2.1<A.2.2.1)=true then ae (0<=A.2.2.2.1/\A.2.2.2.1<Int.ofNat
 (List.length A.2.1)) (aq (ae (cb (List.length (List.getD A.2.1 (Int.toNat A.2.2.2.1) []))) (mN λid=>¬List.Mem id (List.map (λx
 =>x.1) A.fE))) λy=>ae (cb (Add.add (List.length A.cv) (Add.add 0 1))) (mpure (aJ.aw (A.1,A.2.1,A.2.2.1,IntKind.wrap .i64 (Add.add
 A.2.2.2.1 1),A.2.2.2.2.1,A.cv++[(y,0,List.length (List.getD A.2.1 (Int.toNat A.2.2.2.1) []))],(y,de (List.getD A.2.1 (Int.toNat
 A.2.2.2.1) []))::A.fE,())))) else aq (mpure (aJ.aw (A.1,A.2.2.2.2.1,A.cv,A.fE,()))) λr=>mpure (aJ.aV r)) (y.2.1,cn,Int.ofNat (List.length cn),0,A.2.1,[],A.2.2.1,())) (aJ.fC λ(A:List UInt8×List (z6')×z6'×List
 (Nat×z1')×Unit)=>ae ((0:Int)<=0/\0<Int.ofNat (List.length A.2.2.1)) (ae ((!(decide (Int.ofNat (List.length A.2.2.1)<2)||
 decide (Int.ofNat (List.length A.2.2.1) > 9)||decide (Int.ofNat (List.getD A.2.2.1 (Int.toNat 0) (0,0,0)).2.2<2)||decide (Int.ofNat
 (List.getD A.2.2.1 (Int.toNat 0) (0,0,0)).2.2 > 62)))=true->((!(decide (Int.ofNat (List.length A.2.2.1)<2)||decide (Int.ofNat (List.length
 A.2.2.1) > 9)||decide (Int.ofNat (List.getD A.2.2.1 (Int.toNat 0) (0,0,0)).2.2<2)||decide (Int.ofNat (List.getD A.2.2.1 (Int.toNat 0) (0,0,0)).2.2 > 62)))=true/\(!(decide (Int.ofNat (List.length A.2.2.1)<2)||decide (Int.ofNat (List.length A.2.2.1) > 9)||decide (Int.ofNat
 (List.getD A.2.2.1 (Int.toNat 0) (0,0,0)).2.2<2)||decide (Int.ofNat (List.getD A.2.2.1 (Int.toNat 0) (0,0,0)).2.2 > 62)))=true/\True)/\
 (n7 (V.int .u8) A.2.2.2.1 (V.ar (V.slice (V.cM (V.int .u8))) (V.fn (V.slice (V.int .u8)) V.bool)) (A.2.2.1,λx=>Wi
 (x,some (Int.ofNat (List.getD A.2.2.1 (Int.toNat 0) (0,0,0)).2.2)))/\aDw (gx (V.int .u8) A.2.2.2.1
 (V.ar (V.slice (V.cM (V.int .u8))) (V.fn (V.slice (V.int .u8)) V.bool)) (A.2.2.1,λx=>Wi (x,some (Int.ofNat (List.getD
 A.2.2.1 (Int.toNat 0) (0,0,0)).2.2)))))/\True) (if (decide (Int.ofNat (List.length A.2.2.1)<2)||decide (Int.ofNat (List.length A.2.2.1) > 9)
 ||decide (Int.ofNat (List.getD A.2.2.1 (Int.toNat 0) (0,0,0)).2.2<2)||decide (Int.ofNat (List.getD A.2.2.1 (Int.toNat 0) (0,0,0)).2.2 > 62)
 ||aDx (gx (V.int .u8) A.2.2.2.1 (V.ar (V.slice (V.cM (V.int .u8))) (V.fn (V.slice (V.int .u8))
 V.bool)) (A.2.2.1,λx=>Wi (x,some (Int.ofNat (List.getD A.2.2.1 (Int.toNat 0) (0,0,0)).2.2)))))=true then aq (aq
 (mpure (false,[],A.2.2.2.1,())) λr=>mpure (aJ.aV r)) λr=>mpure (aJ.aV r) else ae (cb (Add.add (List.length A.2.1)
 (Add.add 0 1))) (mpure (aJ.aw (A.1,A.2.1++[A.2.2.1],A.2.2.2.1,())))))) else aq (mpure (aJ.aw (A.2.1,A.2.2.1,()))) λr=>
 mpure (aJ.aV r)) (x.1,[],x.2.1,())) (aJ.fC λ(A:z31')=>mpure (true,A.1,A.2.1,()))
def aiA(aDy:Int×z16'->M (Bool×z16'))(x:z1'×z16'):M (Int×z16'):=
 bQ (λ(A:z1'×Int×Int×z16')=>letI a:=A.2.2;bD (fT a.1 A.2.1) (ae (0<=a.1/\a.1<Int.ofNat (List.length A.1)) (aq (aDy (List.getD A.1 (Int.toNat a.1) 0,a.2.1,a.2.2.1,A.cv,())) (λy=>bD y.1 (aq (aq (mpure (a.1,y.2.1,y.2.2.1,y.2.2.2.1,())) (λr=>mpure (aJ.aV r))) (λr=>mpure (aJ.aV r))) (mpure (aJ.aw (A.1,A.2.1,bf a.1,y.2.1,y.2.2.1,y.2.2.2.1,())))))) (aq (mpure (aJ.aw (a.2.1,a.2.2.1,A.cv,()))) (λr=>mpure (aJ.aV r)))) (x.1,Int.ofNat (List.length x.1),0,x.2.1,x.2.2.1,x.2.2.2.1,()) λ(A:z16')=>mpure (-1,A.1,A.2.1,A.2.2.1,())
def aiB(I8:z1'->Prop)(I9:z1'->Int)(x:Int×z16'):M (Bool×z16'):=
 letI f:=x.2.2.2.1;letI d:=x.2.2.1;letI e:=Int.ofNat d.2.2;letI b:=cE e 1;letI g:=Add.add d.2.1 (Int.toNat b);letI c:=(d.1,Add.add d.2.1 (Int.toNat 0),Int.toNat b-Int.toNat 0);letI a:=Add.add d.2.1 (Int.toNat x.2.1.2);ae (0<=x.2.1.2/\x.2.1.2<e) (ae (a<List.length (cQ f d.1)) (ae (0<=b/\b<e) (ae (g<List.length (cQ (eT f d.1 a x.1) d.1)) (ae ((0:Int)<=0/\0<=b/\b<=e) (ae (n7 (V.int .u8) (eT f d.1 a x.1) (V.cM (V.int .u8)) c/\I8 (gx (V.int .u8) (eT f d.1 a x.1) (V.cM (V.int .u8)) c)) (mpure (decide (List.getD (cQ (eT f d.1 a x.1) d.1) g 0=I9 (gx (V.int .u8) (eT f d.1 a x.1) (V.cM (V.int .u8)) c)),x.2.1,d,eT f d.1 a x.1,())))))))
def aiC(I8:z1'->Prop)(I9:z1'->Int)(aiD:List (z1')×z12'->Prop)(Oj:List (z1')×z12'->z1')(aDz:z1'×z16'->M (Bool×z16'))(aiE:Unit->M (z1'))(x:z6'×z13'):M (Int×(z12')×z13'):=
 bQ (λ(A:z6'×z29')=>letI bG:=A.h1;letI s:=A.2.2.2;letI a:=List.getD A.2.1 (Int.toNat s.1) (0,0,0);letI v:=Int.ofNat a.2.2;letI f:=cE v 1;letI z:=Add.add a.2.1 (Int.toNat f);letI i:=(a.1,Add.add a.2.1 (Int.toNat 0),Int.toNat f-Int.toNat 0);bD (fT s.1 A.2.2.1) (cB (ae (0<=s.1/\s.1<Int.ofNat (List.length A.2.1)) (ae (0<=f/\f<v) (ae (z<List.length (cQ bG a.1)) (ae ((0:Int)<=0/\0<=f/\f<=v) (ae (n7 (V.int .u8) bG (V.cM (V.int .u8)) i/\I8 (gx (V.int .u8) bG (V.cM (V.int .u8)) i)) (bD (e6 (List.getD (cQ bG a.1) z 0) (I9 (gx (V.int .u8) bG (V.cM (V.int .u8)) i))) (ae (cb (Add.add (List.length A.cv) (Add.add 0 1))) (mpure (aJ.aw (A.1,A.2.1,A.2.2.1,s.1,s.2.1,A.cv++[s.1],A.fE,bG,())))) (mpure (aJ.aw (A.1,A.2.1,A.2.2.1,s.1,s.2.1,A.cv,A.fE,bG,()))))))))) (λ(A:z6'×z29')=>mpure (aJ.aw (A.1,A.2.1,A.2.2.1,bf A.2.2.2.1,A.2.2.2.2.1,A.cv,A.fE,A.h1,())))) (aq (mpure (aJ.aw (A.1,s.2.1,A.cv,A.fE,bG,()))) (λr=>mpure (aJ.aV r)))) (x.1,x.1,Int.ofNat (List.length x.1),0,(0,0),[],[],x.2.1,()) λ(A:z6'×(z12')×z1'×z1'×z13')=>cB (ae ((0:Int)<=0/\0<Int.ofNat (List.length A.1)) (dA (λ(A:z29')=>letI cT:=A.fE;letI l:=A.2.2;letI k:=Int.ofNat (List.length A.1);letI d:=List.getD A.1 (Int.toNat (cE k 1)) (0,0,0);letI w:=Add.add d.2.1 (Int.toNat l.1);bD (fT l.1 A.2.1) (cB (ae (0<=cE k 1/\cE k 1<k) (ae (0<=l.1/\l.1<Int.ofNat d.2.2) (ae (w<List.length (cQ cT d.1)) (ae (n7 (V.int .u8) cT (V.ar (V.slice (V.cM (V.int .u8))) (V.ar (V.int .i64) (V.int .i64))) (A.1,l.1,1)/\aiD (gx (V.int .u8) cT (V.ar (V.slice (V.cM (V.int .u8))) (V.ar (V.int .i64) (V.int .i64))) (A.1,l.1,1))) (ae (I8 (Oj (gx (V.int .u8) cT (V.ar (V.slice (V.cM (V.int .u8))) (V.ar (V.int .i64) (V.int .i64))) (A.1,l.1,1)))) (bD (e6 (List.getD (cQ cT d.1) w 0) (I9 (Oj (gx (V.int .u8) cT (V.ar (V.slice (V.cM (V.int .u8))) (V.ar (V.int .i64) (V.int .i64))) (A.1,l.1,1))))) (ae (cb (Add.add (List.length A.cv) (Add.add 0 1))) (mpure (aJ.aw (A.1,A.2.1,l.1,l.2.1,l.2.2.1,A.cv++[l.1],cT,())))) (mpure (aJ.aw (A.1,A.2.1,l.1,l.2.1,l.2.2.1,A.cv,cT,()))))))))) (λ(A:z29')=>mpure (aJ.aw (A.1,A.2.1,bf A.2.2.1,A.2.2.2.1,A.2.2.2.2.1,A.cv,A.fE,())))) (aq (mpure (aJ.aw (A.1,l.2.1,l.2.2.1,A.cv,cT,()))) (λr=>mpure (aJ.aV r)))) (A.1,Int.ofNat (List.getD A.1 (Int.toNat 0) (0,0,0)).2.2,0,A.2.1,A.2.2.1,A.2.2.2.1,A.2.2.2.2.1,()))) λ(A:z6'×(z12')×z1'×z1'×z13')=>letI t:=A.2.2.2.2.1;letI n:=Int.ofNat (List.length A.2.2.1);letI m:=Int.ofNat (List.length A.2.2.2.1);letI j:=List.getD A.2.2.1 (Int.toNat 0) 0;letI h:=Int.ofNat (List.length A.1);letI g:=List.getD A.2.2.2.1 (Int.toNat 0) 0;letI e:=List.getD A.1 (Int.toNat (cE h 1)) (0,0,0);letI c:=List.getD A.1 (Int.toNat j) (0,0,0);letI cr:=Add.add c.2.1 (Int.toNat g);bD (decide (eZ n m=0)) (mpure (0,(0,0),t,())) (bD (e6 n 1||e6 m 1) (mpure (2,(0,0),t,())) (ae ((0:Int)<=0/\0<n) (ae ((0:Int)<=0/\0<m) (ae (0<=j/\j<h) (ae (0<=g/\g<Int.ofNat c.2.2) (ae (cr<List.length (cQ t c.1)) (dE (aiE ()) (aq (aDz (M.val (aiE ()) [],(j,g),c,t,())) (λy=>letI q:=y.2.1.2;letI u:=Int.toNat q;letI d1:=Add.add y.2.2.1.2.1 u;letI p:=y.2.2.2.1;letI b:=(!(!y.1))=true;letI o:=b->b/\True/\True;ae o (ae (b->(b/\True)/\True/\True) (ae (b->(b/\b)/\(0<=cE h 1/\cE h 1<h)/\True) (ae o (ae o (ae (b->(b/\b)/\(0<=q/\q<Int.ofNat e.2.2)/\True) (ae (b->b/\Add.add e.2.1 u<List.length (cQ p e.1)/\True) (ae o (ae (b->(b/\b/\True)/\(n7 (V.int .u8) p (V.ar (V.slice (V.cM (V.int .u8))) (V.ar (V.int .i64) (V.int .i64))) (A.1,q,1)/\aiD (gx (V.int .u8) p (V.ar (V.slice (V.cM (V.int .u8))) (V.ar (V.int .i64) (V.int .i64))) (A.1,q,1)))/\True) (ae (b->(b/\True)/\I8 (Oj (gx (V.int .u8) p (V.ar (V.slice (V.cM (V.int .u8))) (V.ar (V.int .i64) (V.int .i64))) (A.1,q,1)))/\True) (ae (b->(b/\b)/\True/\True) (ae (True/\((!y.1)=false->b)) (bD (!y.1||e6 (List.getD (cQ p e.1) (Add.add e.2.1 u) 0) (I9 (Oj (gx (V.int .u8) p (V.ar (V.slice (V.cM (V.int .u8))) (V.ar (V.int .i64) (V.int .i64))) (A.1,q,1))))) (ae (0<=q/\q<Int.ofNat y.2.2.1.2.2) (ae (d1<List.length (cQ p y.2.2.1.1)) (mpure (2,(0,0),eT p y.2.2.1.1 d1 (List.getD (cQ t c.1) cr 0),())))) (mpure (1,y.2.1,p,())))))))))))))))))))))))
def aiF(I_:z14'->M (z14'))(x:z20'):M (z14'):=
 aq (I_ (x.2.1,())) λy=>ae True (ae (cb (Add.add (List.length y.1) (Add.add 0 1))) (ae True (mpure (y.1++[x.1],()))))
def aiG(I_:z14'->M (z14'))(x:z1'×z14'):M (z20'):=
 aq (I_ (x.2.1,())) λy=>ae True (ae (cb (Add.add (List.length y.1) (List.length x.1))) (ae True (mpure (Int.ofNat (List.length x.1),y.1++x.1,()))))
def aiH(I_:z14'->M (z14'))(x:List UInt8×z14'):M (z20'):=
 aq (I_ (x.2.1,())) λy=>ae True (ae (cb (Add.add (List.length y.1) (List.length (de x.1)))) (ae True (mpure (Int.ofNat (List.length x.1),y.1++de x.1,()))))
end Go.Fer
namespace Go.Fer
attribute [simp] vK S8 xC e4 Fz Pz iE kF r2 mc oe cY uG dm kE S7 aJ.pF
def fW(b:UInt8):Bool:=decide (32<=b.toNat)&&decide (b.toNat<=126)
def Ci(b:UInt8):Int:=(b.toNat:Int) - 32
def aiI(l:List UInt8):Int:=l.foldl (λn b=>n+Ci b) 0
def I'(n:Int):UInt8:=UInt8.ofNat (n+32).toNat
theorem aDA{b:UInt8}:fW b=true<->0<=Ci b/\Ci b<=94:=by
 unfold fW Ci;simp;omega
theorem Ce{n:Int}(h:0<=n)(L:n<=255):IntKind.wrap .u8 n=n:=by
 show (if (false&&decide (n % 2 ^ 8>=(2 ^ (8 - 1):Int)))=true then n % 2 ^ 8 - 2 ^ 8 else n % 2 ^ 8)=n;simp only[aRk,aml,aPH];omega
def fb(c:Int):Bool:=decide (32<=c)&&decide (c<=126)
variable {c:Int}
theorem oy:fb c=true<->32<=c/\c<=126:=by simp[fb]
def pW(s c:Int):Int:=Int.tmod (s+c - 32) 95
def Ol(l:z1'):Int:=l.foldl pW 0
def lZ(l:z1'):Int:=Ol l+32
theorem Wj{s:Int}(h:0<=s)(hc:fb c=true):0<=pW s c/\pW s c<=94:=by
 have:=oy.1 hc;have E:0<=Int.tmod (s+c - 32) 95:=Int.tmod_nonneg _ (by omega);have L:Int.tmod (s+c - 32) 95<95:=Int.tmod_lt_of_pos _ (by decide);exact⟨E,Int.le_of_lt_add_one L⟩
theorem Om:∀ (l:z1') (s:Int),0<=s->s<=94->l.all fb=true->0<=l.foldl pW s/\l.foldl pW s<=94
 | [],s,h,L,_=>⟨h,L⟩
 | c::l,s,h,L,aY=>by
  simp only[aQn,amm]at aY;obtain⟨aM,aT⟩:=Wj h aY.1;exact Om l _ aM aT aY.2
theorem Wk{l:z1'}(h:l.all fb=true):fb (lZ l)=true:=by
 obtain⟨E,L⟩:=Om l 0 (aPP _) (by decide) h;grind [oy,lZ,Ol]
abbrev wz:aO:=⟨.int .i64,.int .u8,λx=>0<=x/\x<=94,λx=>x+32⟩
theorem aDB(x):a8 (ait x) (wz.sh x):=bx λh=>by
 grind [ait,bs,Ce]
theorem aDC(x):a8 (aiu wz.sh x) (wz.sh x):=bx λh=>by
 unfold aiu;rw[show wz.sh x=mpure (x+32) from bP h _,aN]
def On(x:Int×z25'):M (z25'):=eE ((32<=x.1/\x.1<=126)/\0<=x.2.1/\x.2.1<=94) (pW x.2.1 x.1,())
theorem aDD(x):a8 (aiv x) (On x):=bx λh=>by
 unfold aiv eZ cE;rw[bc trivial,bc (by decide),bc trivial,dm,bs (n:=x.1),bs (n:=x.2.1+x.1),bs   (by omega) (by omega)];rfl
abbrev pX:aO:=⟨.slice (.int .u8),.int .u8,λx=>List.length x<65536/\List.all x fb=true,λx=>lZ x⟩
theorem aDE(x):a8 (aip On wz.sh x) (pX.sh x):=bx λh=>by
 obtain⟨E,L⟩:=h;unfold aip fT bD bf bQ;rw[e2 x (λi n=>(x,(x.length:Int),(i:Int),n,())) (λc n=>.aw (pW n c)) (λn=>.aw (n,())) (λi n=>0<=n/\n<=94) 0 ?_ ?_ ?_ ?_]
 ·rw[ec,aN,cY];have U:=Om x 0 (aPP _) (by decide) L;rw[show wz.sh (x.foldl pW 0,()).1=mpure (lZ x) from bP U _,aN]
 ·rfl
 ·omega
 ·intro i G n aC;have hw:=bs (n:=i+1);have U:=List.all_eq_true.1 L _ (amk G);refine⟨?_,λkt xb=>?_⟩
  ·simp only[cC,dQ G,ed G,dK G,cp,dm,hw];rw[show On (x[i],n,())=mpure (pW n x[i],()) from bP ⟨oy.1 U,aC⟩ _,aN];rfl
  ·simp  at xb;subst xb;simp_all[Wj]
 simp
def gh(l:List (z1'))(uY:Int):z1':=l.map λr=>r.getD uY.toNat 0
def zv(l:List (z1'))(uY w:Int):Prop:=l.length<65536/\(0<=w/\w<=(l.length:Int))/\0<=uY/\∀ r∈l,uY<(r.length:Int)
abbrev Oo:V:=.slice (.slice (.int .u8))
abbrev x5:aO:=⟨.ar Oo (.ar (.int .i64) (.int .i64)),.slice (.int .u8),λx=>zv x.1 x.2.1 x.2.2,λx=>gh (List.take (List.length x.1 - x.2.2.toNat) x.1) x.2.1⟩
theorem aDF(x):a8 (aiq x) (x5.sh x):=bx λh=>by
 obtain⟨l,c,w⟩:=x;obtain⟨E,⟨L,an⟩,a6,bS⟩:zv l c w:=h;unfold aiq fT cB bD bf cE;have hw:=bs (n:=l.length - w);simp only[cC,hw];have e:(l.length - w).toNat=l.length - w.toNat:=by omega
 rw[bc ⟨aPP _,by omega,by omega⟩,e];generalize ak:l.take (l.length - w.toNat)=k;have Nd:k.length<65536:=by grind
 have Ja:∀ r∈k,c<r.length:=λr D=>bS r (by grind);rw[e2 k (λi o=>(c,k,(k.length:Int),(i:Int),o,())) (λr o=>.aw (o++[r.getD c.toNat 0])) (λo=>.aw (o,())) (λi o=>o.length=i) [] ?_ ?_ ?_ ?_]
 ·rw[ec,aN,cY];grind [gh,r4]
 ·rfl
 ·rfl
 ·intro i G o au;have gz:=bs (n:=i+1);have D:=Ja _ (amk G);refine⟨?_,λf_ hR=>?_⟩
  ·simp only[dQ G,ed G,dK G,cp,dm,gz];rw[bc ⟨a6,D⟩,bc (by grind [cb])];rfl
  grind
 simp
def kZ:z1':=(List.range 95).map λi:Nat=>(i:Int)+32
abbrev Jb:aO:=⟨.dc,.slice (.int .u8),λ_=>True,λ_=>kZ⟩
theorem aDG(x):a8 (air x) (Jb.sh x):=bx λ_=>by
 unfold air hS bD bQ;rw[e2 (List.range 95) (λi o=>((i:Int)+32,o,())) (λi o=>.aw (o++[(i:Int)+32])) (λo=>.aw (o,())) (λi o=>o.length=i) [] ?_ ?_ ?_ ?_]
 ·rw[ec,aN];rfl
 ·rfl
 ·rfl
 ·intro i G o au;have d_:i<95:=by grind
  have ax:decide ((i:Int)+32<=126)=true:=aP5 (by omega);have e:(List.range 95)[i]'G=i:=aPJ ..;refine⟨?_,λf_ hR=>?_⟩
  ·simp only[ax,dm];rw[bc (by grind [cb]),Ce (by omega) (by omega),e];rfl
  grind
 simp
def Cj(x:z14'):M (z14'):=mpure x
def Jc(x:z20'):M (z14'):=eE (cb (x.2.1.length+1)) (x.2.1++[x.1],())
def Oq(x:z1'×z14'):M (z20'):=eE (cb (x.2.1.length+x.1.length)) ((x.1.length:Int),x.2.1++x.1,())
def Ck(x:List UInt8×z14'):M (z20'):=eE (cb (x.2.1.length+x.1.length)) ((x.1.length:Int),x.2.1++de x.1,())
def zw(x:z14'):M (List UInt8×Unit):=mpure (ff x.1,())
theorem o8(s:List UInt8):(de s).length=s.length:=by simp[de]
theorem aDH(x):a8 (aiF Cj x) (Jc x):=bx λh=>by
 simp_all[aiF,Cj]
theorem aDI(x):a8 (aiG Cj x) (Oq x):=bx λh=>by
 simp_all[aiG,Cj]
theorem aDJ(x):a8 (aiH Cj x) (Ck x):=bx λh=>by
 simp_all[aiH,Cj,o8]
theorem aDK(x):a8 (aiw x) (zw x):=by
 grind [aiw,zw,bc,wR]
def su(l:List (z1')):z1':=l.flatMap λr=>r++[10]
theorem aiJ{ag bet:Type}(f:ag->List bet):∀ (l:List ag) (b:List bet),l.foldl (λb x=>b++f x) b=b++l.flatMap f
 | [],b=>by simp
 | x::l,b=>by simp only[aP3];rw[aiJ f l];simp
theorem aiK:∀ (l:List (z1')),(∀ r∈l,r.length<65535)->(su l).length<=l.length*65535
 | [],_=>aPR _
 | r::l,h=>by
  have:=aiK l λr D=>h r (by grind);grind [su]
def oz(l:List (z1')):z1':=su l++[10]
abbrev mK:aO:=⟨Oo,.str,λx=>List.length x<65536/\∀ r∈(x:List (z1')),r.length<65535,λx=>ff (oz x)⟩
theorem Wl(x):a8 (aii zw Oq Jc x) (mK.sh x):=bx λh=>by
 obtain⟨E,L⟩:=h;unfold aii fT cB bD bf bQ;rw[aN,cY];rw[e2 x (λi o=>(x,(x.length:Int),(i:Int),o,())) (λr o=>.aw (o++(r++[10]))) (λo=>.aw (o,())) (λi o=>o.length<=i*65535) [] ?_ ?_ ?_ ?_]
 ·rw[ec,aN,cY];have e:x.foldl (λo r=>o++(r++[10])) []=su x:=by rw[aiJ];rfl
  rw[e];have hlen:=aiK x L;rw[show Jc (10,su x,())=mpure (su x++[10],()) from bP (by grind [cb]) _,aN];rw[show zw (su x++[10],())=mpure (ff (su x++[10]),()) from rfl,aN];rfl
 ·rfl
 ·simp
 ·intro i G o au;have hw:=bs (n:=i+1);refine⟨?_,λf_ hR=>?_⟩
  ·simp only[cC,dQ G,ed G,dK G,dm,hw];rw[show Oq (x[i],o,())=mpure ((x[i].length:Int),o++x[i],()) from bP (by grind [cb]) _,aN];rw[show Jc (10,o++x[i],())=mpure (o++x[i]++[10],()) from bP (by grind [cb]) _];simp
  grind
 simp
def zx(r:z1'):Int:=min (r.getD 0 0 - 32) ((r.length:Int) - 2)
def zy(r:z1'):List UInt8:=ff ((r.take (1+zx r).toNat).drop 1)
def lA(r:z1'):Prop:=2<=r.length/\r.length<65535/\r.all fb=true
abbrev Ot:aO:=⟨Oo,.slice .str,λx=>(1<=List.length x/\List.length x<65536)/\∀ r∈(x:List (z1')),lA r,λx=>(List.take (List.length x - 1) x).map zy⟩
variable {i:Nat}
theorem aDL{r:z1'}(h:lA r)(G:i<r.length):32<=r.getD i 0/\r.getD i 0<=126:=by
 have:=oy.1 (List.all_eq_true.1 h.2.2 _ (amk G));rw[amq,ams G];exact this
theorem aDM(x):a8 (ais x) (Ot.sh x):=bx λh=>by
 change List (z1') at x;obtain⟨⟨E,L⟩,an⟩:(1<=x.length/\x.length<65536)/\∀ r∈x,lA r:=h;unfold ais eZ fT cB bD cE;show _=mpure ((x.take (x.length - 1)).map zy);have hw:=bs (n:=(x.length:Int) - 1);simp only[cC,hw];have e:((x.length:Int) - 1).toNat=x.length - 1:=by omega
 rw[bc ⟨aPP _,by omega,by omega⟩,e];generalize ak:x.take (x.length - 1)=k;have Nd:k.length<65536:=by rw[<-ak];simp;omega
 have Ja:∀ r∈k,lA r:=λr D=>an r (by rw[<-ak]at D;exact aP0 D);rw[e2 k (λi (o:List eO)=>(k,(k.length:Int),(i:Int),o,())) (λr o=>.aw (o++[zy r])) (λo=>.aw (o,())) (λi o=>o.length=i) [] ?_ ?_ ?_ ?_]
 ·rw[ec,aN,cY];congr 1;show (k.foldl (λo r=>o++[zy r]) [])=k.map zy;rw[r4];rfl
 ·rfl
 ·rfl
 ·intro i G o au;have gz:=bs (n:=(i:Int)+1);have D:=Ja _ (amk G);obtain⟨dt,ei⟩:=aDL D (i:=0) (by have:=D.1;omega);obtain⟨cq,c7,_⟩:=D;have cj:=bs (n:=(k[i].length:Int) - 2);have dN:IntKind.wrap .u8 (k[i].getD 0 0 - 32)=k[i].getD 0 0 - 32:=Ce (by omega) (by omega);have hF:=bs (n:=k[i].getD 0 0 - 32);have hm:(if (k[i].length:Int) - 2<k[i].getD 0 0 - 32 then (k[i].length:Int) - 2 else k[i].getD 0 0 - 32)=zx k[i]:=by
   unfold zx;split<;>omega
  have Ks:0<=zx k[i]/\zx k[i]<=(k[i].length:Int) - 2:=by unfold zx;omega
  have H5:=bs (n:=1+zx k[i]);have z:(0:Int).toNat=0:=rfl;have iy:(1:Int).toNat=1:=rfl;refine⟨?_,λf_ hR=>?_⟩
  ·simp only[cC,dQ G,if_true,ed G,dK G,cp,dm,kE,gz,z,iy,cj,dN,hF,hm,H5];rw[bc ⟨aPP _,by omega⟩,bc ⟨by decide,by omega,by omega⟩,bc (by unfold cb;omega)];rfl
  ·simp only[aJ.aw.injEq]at hR;subst hR;simp[au]
 ·intro o au;simp
def Ou(x:Int×Int×z26'):M (z1'×z26'):=eE (zv x.2.2.1 x.1 x.2.1) (gh (x.2.2.1.take (x.2.2.1.length - x.2.1.toNat)) x.1,x.2.2.1,())
theorem aDN(x):a8 (aiy x) (Ou x):=bx λh=>by
 obtain⟨c,w,l,u⟩:=x;obtain⟨E,⟨L,an⟩,a6,bS⟩:zv l c w:=h;unfold aiy fT cB bD bf cE;have hw:=bs (n:=l.length - w);simp only[cC,hw];have e:(l.length - w).toNat=l.length - w.toNat:=by omega
 have kC:l.length - w.toNat<=l.length:=Nat.sub_le _ _;rw[bc ⟨aPP _,by omega,by omega⟩,e];generalize l.length - w.toNat=K at kC;have Nd:(l.take K).length=K:=by grind
 rw[e2 (l.take K) (λi o=>(c,(0,K),(K:Int),(i:Int),o,l,())) (λr o=>.aw (o++[r.getD c.toNat 0])) (λo=>.aw (o,l,())) (λi o=>o.length=i) [] ?_ ?_ ?_ ?_]
 ·rw[ec,aN,cY];grind [gh,r4]
 ·rfl
 ·rfl
 ·intro i G o au;have gz:=bs (n:=i+1);have aD:l.getD i []=(l.take K)[i]'G:=by grind
  have D:c<(((l.take K)[i]'G).length):=by grind
  refine⟨?_,λf_ hR=>?_⟩
  ·have ax:decide (i<(K:Int))=true:=aP5 (by omega);have bA:((i:Int)).toNat=i:=rfl;simp only[ax,dm,kE,gz,bA,aQG,aD];rw[bc ⟨by omega,by omega⟩,bc ⟨a6,D⟩,bc (by grind [cb])];rfl
  grind
 simp_all
def fy(x:z2'):Nat:=x.foldl (λw t=>max w t.length) 0
def pY(w:Nat)(t:List UInt8):z1':=((t.length:Int)+32)::de (t++List.replicate (w - t.length) 32)
def pZ(w:Nat)(t:List UInt8):z1':=pY w t++[lZ (pY w t)]
def sv(rows:List (z1'))(n:Nat):z1':=(List.range n).map λc:Nat=>lZ (gh rows (c:Int))
def jv(x:z2'):List (z1'):=x.map (pZ (fy x))++[sv (x.map (pZ (fy x))) (fy x+2)]
def gF(t:List UInt8):Prop:=t.length<=60/\t.all fW=true
theorem E3:∀ (x:z2') (w:Nat),(∀ t∈x,t.length<=60)->w<=60->x.foldl (λw t=>max w t.length) w<=60/\w<=x.foldl (λw t=>max w t.length) w/\∀ t∈x,t.length<=x.foldl (λw t=>max w t.length) w
 | [],w,_,h=>⟨h,amn _,by simp⟩
 | t::x,w,h,hw=>by
  have aH:=h t (by simp);obtain⟨aM,aT,b5⟩:=E3 x (max w t.length) (λt aH=>h t (by grind)) (by omega);grind
variable {t:List UInt8}
theorem zz:(de t).all fb=t.all fW:=by
 unfold de;induction t with
 | nil=>rfl
 | cons b t aP=>
  grind [fb,fW]
variable {w:Nat}
theorem Ov(h:gF t):(pY w t).all fb=true:=by
 obtain⟨E,L⟩:=h;unfold pY;rw[aQn,zz,List.all_append];have e:(List.replicate (w - t.length) (32)).all fW=true:=by
  rw[aPZ];intro b U;rw[List.eq_of_mem_replicate U];rfl
 grind [oy]
theorem Ow(h:t.length<=w):(pY w t).length=w+1:=by
 grind [pY,o8]
theorem Ox(h:t.length<=w):(pZ w t).length=w+2:=by
 grind [pZ,Ow]
theorem Oy(h:gF t):(pZ w t).all fb=true:=by
 grind [pZ,Ov,Wk]
theorem Jd{rows:List (z1')}{c:Nat}(h:∀ r∈rows,r.all fb=true/\c<r.length):(gh rows (c:Int)).all fb=true:=by
 unfold gh;grind
def Je(s:List UInt8)(n:Nat):List UInt8:=(List.replicate n s).flatten
abbrev Oz:aO:=⟨.ar .str (.int .i64),.str,λx=>0<=x.2/\x.1.length*x.2.toNat<65536,λx=>Je x.1 x.2.toNat⟩
theorem aDO(n:Nat)(c:UInt8):Je [c] n=List.replicate n c:=by
 unfold Je;simp
abbrev Jf:aO:=⟨.slice .str,Oo,λx=>List.length x<1000/\∀ t∈(x:z2'),gF t,λx=>jv x⟩
theorem aDP(x):a8 (aim pX.sh Ou wz.sh Oz.sh x) (Jf.sh x):=bx λh=>by
 obtain⟨E,L⟩:=h;unfold aim eZ fT bD bf bQ vn cE;obtain⟨cT,_,jf⟩:=E3 x 0 (λt aH=>(L t aH).1) (by omega);change fy x<=60 at cT;change ∀ t∈x,t.length<=fy x at jf;rw[e2 x (λi (w:Nat)=>(x,(w:Int),x,(x.length:Int),(i:Int),[],())) (λt w=>.aw (max w t.length)) (λw=>.aw (x,w,[],())) (λi w=>w<=60) 0 ?_ ?_ ?_ ?_]
 ·rw[ec,aN];change aq (dA _ (((fy x):Int),x,_,0,[],())) _=_;generalize wQ:fy x=W at cT jf;rw[e2 x (λi o=>((W:Int),x,(x.length:Int),(i:Int),o,())) (λt o=>.aw (o++[pZ W t])) (λo=>.aw (W,o,())) (λi o=>o.length=i) [] ?_ ?_ ?_ ?_]
  ·rw[ec,aN,cY];have e:x.foldl (λo t=>o++[pZ W t]) []=x.map (pZ W):=by grind [r4]
   rw[e];generalize fp:x.map (pZ W)=R;have OA:∀ r∈R,r.all fb=true/\r.length=W+2:=λr D=>by
    grind [Oy,Ox]
   have gz:IntKind.wrap .i64 (Add.add W 2)=((W+2)):=by grind [bs]
   rw[gz,e2 (List.range (W+2)) (λi o=>(((W+2:Nat):Int),(i:Int),R,o,())) (λi o=>.aw (o++[lZ (gh R i)])) (λo=>.aw (R,o,())) (λi o=>o.length=i) [] ?_ ?_ ?_ ?_]
   ·rw[ec,aN,cY];grind [sv,r4,bc,cb,jv]
   ·rfl
   ·rfl
   ·intro i G o au;have d_:i<W+2:=by grind
    have bz:(List.range (W+2))[i]'G=i:=aPJ ..;have OB:=bs (n:=i+1);refine⟨?_,λf_ hR=>?_⟩
    ·have ax:decide (i<((W+2:Nat):Int))=true:=aP5 (by omega);simp only[ax,dm,OB];rw[show Ou (i,0,R,())=mpure (gh R i,R,()) from (bP ⟨by grind,⟨aPP _,by simp⟩,by omega,λr D=>by grind⟩ _).trans (by simp),aN];rw[show pX.sh (gh R i)=mpure (lZ (gh R i)) from bP ⟨by grind [gh],Jd λr D=>⟨(OA r D).1,by grind⟩⟩ _,aN,bc (by grind [cb]),bz];rfl
    grind
   simp
  ·rfl
  ·rfl
  ·intro i G o au;have OB:=bs (n:=i+1);have aH:=L _ (amk G);have Iy:=jf _ (amk G);have cj:=bs (n:=W - (x[i].length));have ai:=Ov (w:=W) aH;have mS:=Ow Iy;refine⟨?_,λf_ hR=>?_⟩
   ·simp only[cC,dQ G,ed G,dK G,cp,dm,OB,cj];rw[show wz.sh (x[i].length)=mpure ((x[i].length:Int)+32) from bP (show (0)<=(x[i].length:Int)/\(x[i].length:Int)<=94 from⟨by omega,by omega⟩) _,aN,show Oz.sh ([32],W - (x[i].length))=mpure (List.replicate (W - x[i].length) 32) from (bP ⟨by grind,by grind⟩ _).trans (by grind [aDO]),aN];rw[bc (by grind [cb]),bc (by grind [cb,o8]),show pX.sh ([(x[i].length:Int)+32]++de (x[i]++List.replicate (W - x[i].length) 32))=mpure (lZ (pY W x[i])) from bP ⟨by grind [pY],ai⟩ _,aN,bc (by grind [cb,o8]),bc (by grind [cb])];rfl
   grind
  simp
 ·rfl
 ·omega
 ·intro i G w hw;have OB:=bs (n:=i+1);refine⟨?_,λf_ hR=>?_⟩
  ·have e:(if (x[i].length) > w then (x[i].length:Int) else w)=((max w x[i].length)):=by omega
   simp_all
  grind
 simp
def uZ{ag:Type}:Nat->List ag->List (List ag)
 | 0,_=>[]
 | _+1,[]=>[]
 | f+1,l=>l.take 8::uZ f (l.drop 8)
variable {ag:Type}
def gG(l:List ag):List (List ag):=uZ l.length l
def x6(x:Option (z2')×Option Int)(ab:List (z2')):Prop:=∃ l,x=(some l,some 8)/\l.length<65536/\ab=gG l
abbrev OC:aO:=⟨.ar (.slice .str) (.int .i64),.cG (.slice .str),λx=>x.2=8/\List.length x.1<65536,λx=>x6 (some x.1,some x.2)⟩
theorem aDQ(x):a8 (ail x6 x) (OC.sh x):=bx λh=>by
 simp_all[ail]
theorem OD{ag:Type}:∀ (f:Nat) (l:List ag),∀ c∈uZ f l,c.length<=8/\1<=c.length/\∀ t∈c,t∈l
 | 0,_,c,h=>by cases h
 | _+1,[],c,h=>by cases h
 | f+1,t::l,c,h=>by
  rcases List.mem_cons.1 h with rfl | h
  ·grind
  ·obtain⟨E,L,an⟩:=OD f _ c h;grind
theorem aiL{ag:Type}:∀ (f:Nat) (l:List ag),(uZ f l).length<=l.length
 | 0,_=>aPR _
 | _+1,[]=>amn _
 | f+1,t::l=>by
  unfold uZ;have:=aiL f ((t::l).drop 8);grind
theorem Wm:∀ {z:z1'},(∀ v∈z,0<=v/\v<=255)->de (ff z)=z
 | [],_=>rfl
 | v::z,h=>by
  have aP:=Wm λv af=>h v (amr _ af);have af:=h v (by simp);unfold de ff at *
  simp  [aP,aRe];have:(UInt8.ofNat v.toNat).toNat=v.toNat:=by simp;omega
  omega
theorem Cl(s:List UInt8):ff (de s)=s:=by
 unfold ff de;induction s<;>simp_all
theorem Wn{m:Nat}:∀ (l:List (z1')),(∀ r∈l,r.length<=m)->(su l).length<=l.length*(m+1)
 | [],_=>aPR _
 | r::l,h=>by
  have:=Wn l λr D=>h r (amr _ D);grind [su,Nat.add_mul]
variable {x:z2'}
theorem aiM(h:∀ t∈x,gF t):∀ r∈jv x,r.length=fy x+2/\r.all fb=true:=by
 obtain⟨cT,_,jf⟩:=E3 x 0 (λt aH=>(h t aH).1) (by omega);grind [fy,Oy,Ox,jv,sv,Wk,Jd]
theorem Jg(h:∀ t∈x,gF t):fy x<=60:=(E3 x 0 (λt aH=>(h t aH).1) (by omega)).1
theorem aDR{l:List (z1')}(h:∀ r∈l,r.all fb=true):∀ v∈oz l,0<=v/\v<=255:=by
 grind [oz,su,oy]
def Jh(x:z2'):z1':=(gG x).flatMap λl=>oz (jv l)
theorem aiN:∀ (ab:List (z2')) (acc:z1'),(∀ l∈ab,l.length<=8/\∀ t∈l,gF t)->acc.length+600*ab.length<1000000->
  kl (λ(A:z14') (y:List eO)=>aq (aq (Jf.sh y) λy=>aq (mK.sh y) λy=>aq (Ck (y,A.1,())) λy=>mpure (dS.normal,y.2.1,())) λp=>mpure (p.1,p.2.1,())) ab (acc,())=mpure (.normal,acc++ab.flatMap (λl=>oz (jv l)),())
 | [],acc,_,_=>by simp[kl]
 | l::ab,acc,h,U=>by
  obtain⟨E,L⟩:=h l (by simp);have hP:=aiM L;have hw:=Jg L;have hlen:(oz (jv l)).length<=600:=by
   have an:=Wn   (jv l) λr D=>aRc (hP r D).1;have a6:(jv l).length=l.length+1:=by grind [jv]
   unfold oz;have bS:(l.length+1)*(fy l+2+1)<=9*63:=Nat.mul_le_mul (by omega) (by omega);grind
  have aPf:=aDR λr D=>(hP r D).2;unfold kl;rw[show Jf.sh l=mpure (jv l) from bP (⟨by omega,L⟩) _,aN,show mK.sh (jv l)=mpure (ff (oz (jv l))) from bP (⟨by grind [jv],λr D=>by grind⟩) _,aN];have hp:(ff (oz (jv l))).length=(oz (jv l)).length:=by simp[ff]
  rw[show Ck (ff (oz (jv l)),acc,())=mpure (((ff (oz (jv l))).length:Int),acc++oz (jv l),()) from (bP (by grind [cb]) _).trans (by grind [Wm]),aN,aN,aN];rw[aiN ab (acc++oz (jv l)) (λl ah=>h l (amr _ ah)) (by grind)];simp
abbrev OE:aO:=⟨.slice .str,.str,λx=>List.length x<=40/\∀ t∈(x:z2'),gF t,λx=>ff (Jh x)⟩
theorem aDS(x):a8 (aie mK.sh OC.sh Ck Jf.sh zw x) (OE.sh x):=td λh=>by
 obtain⟨E,L⟩:=h;unfold aie cB;rw[aN,cY];rw[show OC.sh (x,8)=mpure (x6 (some x,some 8)) from bP (show (8:Int)=8/\x.length<65536 from⟨rfl,by omega⟩) _,aN,fN];refine⟨⟨_,x,rfl,by omega,rfl⟩,λab kn=>?_⟩;obtain⟨l,e,_,rfl⟩:=kn;cases e;have hc:=aiL x.length x;rw[aiN (gG x) [] (λl ah=>⟨(OD _ _ l ah).1,λt aH=>L t ((OD _ _ l ah).2.2 t aH)⟩) (by show 0+600*(uZ x.length x).length<_;omega),aN];show c' (yD (aq (mpure (ff (Jh x),())) λy=>mpure y.1) _ _ _) _;rw[aN];exact dO.2 rfl
theorem aDT(x):a8 (aDk x) ((kU .str).sh x):=ti .str x
theorem aDU(x):a8 (aC' (kU .str).sh x) ((h3 .str).sh x):=tj .str x
theorem aDV(x):a8 (aDs x) ((kU (.slice (.int .u8))).sh x):=ti (.slice (.int .u8)) x
theorem aDW(x):a8 (aDo (kU (.slice (.int .u8))).sh x) ((h3 (.slice (.int .u8))).sh x):=tj (.slice (.int .u8)) x
abbrev OF:aO:=⟨.str,.bool,λ_=>True,λs=>List.all s fW⟩
def x7(t:List UInt8):Bool:=decide (t.length > 60)||!t.all fW
abbrev Ji:aO:=⟨.str,.bool,λ_=>True,λt=>x7 t⟩
theorem aDX(x):a8 (aid OF.sh x) (Ji.sh x):=bx λ_=>by
 grind [aid,x7,aO.sh,sE,oe,aN]
theorem OG:x7 t=false<->gF t:=by
 grind [x7,gF]
def Jj(x:z2'):z32':=if x.length > 40 then ([],2) else if x.any x7=true then ([],1) else (ff (Jh x),0)
abbrev E4:aO:=⟨.slice .str,.ar .str (.int .i64),λx=>List.length x<2 ^ 63,λx=>Jj x⟩
theorem aDY(x):a8 (aib (h3 .str).sh OE.sh Ji.sh x) (E4.sh x):=bx λh=>by
 unfold aib dp bD;show _=mpure (Jj x);have e:decide (Int.ofNat (List.length x) > 40)=decide (x.length > 40):=by grind
 rw[e];unfold Jj;by_cases E:x.length > 40
 ·grind
 ·rw[if_neg E,aQd E,if_neg (by decide)];have U:∀ t,Ji.sh t=mpure (x7 t):=λt=>bP trivial _;rw[show (h3 .str).sh (x,Ji.sh)=mpure (x.any x7) from (bP (⟨h,λy _=>⟨_,U y⟩⟩) _).trans (by
   simp_all),aN]
  by_cases L:x.any x7=true
  ·grind
  ·rw[if_neg L,if_neg L,show OE.sh x=mpure (ff (Jh x)) from bP (⟨by omega,λt aH=>OG.1 (by
    grind)⟩) _,aN]
theorem OH(a b:List UInt8):de (a++b)=de a++de b:=by simp[de]
theorem Wo(r:List UInt8)(i:Nat):(de r).getD i 0=((r.getD i 0).toNat:Int):=by
 unfold de;rw[amq,amq,aQV];cases r[i]?<;>rfl
def E5(t:List UInt8):UInt8:=I' (Int.tmod (aiI t) 95)
theorem aiO:∀ (t:List UInt8) (n:Int),0<=n->t.all fW=true->(de t).foldl pW (Int.tmod n 95)=Int.tmod (t.foldl (λn b=>n+Ci b) n) 95
 | [],n,_,_=>rfl
 | b::t,n,h,aY=>by
  simp only[aQn,amm]at aY;obtain⟨E,L⟩:=aDA.1 aY.1;have e:pW (Int.tmod n 95) b.toNat=Int.tmod (n+Ci b) 95:=by
   grind [pW,Ci]
  show (de t).foldl pW (pW (Int.tmod n 95) b.toNat)=_;rw[e];exact aiO t _ (by omega) aY.2
theorem aDZ(h:t.all fW=true):Ol (de t)=Int.tmod (aiI t) 95:=aiO t 0 (aPP _) h
theorem Wp{n:Int}(h:0<=n)(L:n<=94):((I' n).toNat:Int)=n+32:=by
 unfold I';have:(UInt8.ofNat (n+32).toNat).toNat=(n+32).toNat:=by simp;omega
 omega
theorem aiP(h:t.all fW=true):((E5 t).toNat:Int)=lZ (de t):=by
 have U:=Om (de t) 0 (aPP _) (by decide) (by grind [zz]);unfold E5 lZ;rw[<-aDZ h];exact Wp U.1 U.2
def OI(l:z2')(c:Int):List UInt8:=l.map λr=>r.getD c.toNat 0
theorem aiQ(l:z2')(c:Int):de (OI l c)=gh (l.map de) c:=by
 unfold OI gh;show List.map _ (List.map _ l)=_;grind [List.map_congr_left,Wo]
def kq(l:z2'):List UInt8:=l.flatMap λr=>r++[10]
def eI(l:z2'):List UInt8:=kq l++[10]
theorem aiR:∀ (l:z2'),de (kq l)=su (l.map de)
 | []=>rfl
 | r::l=>by
  have aP:=aiR l;unfold kq su at *
  simp only[aQf,OH,aP];rfl
theorem OJ(l:z2'):de (eI l)=oz (l.map de):=by
 unfold eI oz;rw[OH,aiR];rfl
def Cm(w:Nat)(t:List UInt8):List UInt8:=I' (t.length:Int)::t++List.replicate (w - t.length) 32
def sw(w:Nat)(t:List UInt8):List UInt8:=Cm w t++[E5 (Cm w t)]
def Wq(rows:z2')(n:Nat):List UInt8:=(List.range n).map λc:Nat=>E5 (OI rows (c:Int))
def hT(x:z2'):z2':=x.map (sw (fy x))++[Wq (x.map (sw (fy x))) (fy x+2)]
theorem aiS(h:t.length<=60):de (Cm w t)=pY w t:=by
 grind [Cm,pY,de,Wp]
theorem aD0(h:gF t):(Cm w t).all fW=true:=by
 rw[<-zz,aiS h.1];exact Ov h
theorem aD1(h:t.all fW=true):de [E5 t]=[lZ (de t)]:=by
 show [((E5 t).toNat:Int)]=_;rw[aiP h]
theorem Wr(h:gF t):de (sw w t)=pZ w t:=by
 unfold sw pZ;rw[OH,aD1 (aD0 h),aiS h.1]
theorem aD2(h:gF t)(hw:t.length<=w):(sw w t).length=w+2:=by
 grind [o8,Wr,Ox]
theorem aD3(h:gF t):(sw w t).all fW=true:=by
 grind [zz,Wr,Oy]
theorem aD4{rows:z2'}{c:Nat}(h:∀ r∈rows,r.all fW=true/\c<r.length):(OI rows (c:Int)).all fW=true:=by
 grind [zz,aiQ,Jd,o8]
theorem Ws(h:∀ t∈x,gF t):(hT x).map de=jv x:=by
 obtain⟨cT,_,jf⟩:=E3 x 0 (λt aH=>(h t aH).1) (by omega);change ∀ t∈x,t.length<=fy x at jf;have aE:(x.map (sw (fy x))).map de=x.map (pZ (fy x)):=by
  grind [List.map_congr_left,Wr]
 unfold hT jv;rw[aP7];congr 1;show [de (Wq _ _)]=_;congr 1;unfold Wq sv;show List.map _ (List.map _ _)=_;grind [List.map_congr_left,aiP,aD4,aD3,aD2,aiQ]
theorem Wt{ag:Type}:∀ (f:Nat) (l:List ag),l.length<=f->∀ k,(uZ f l)[k]?=if 8*k<l.length then some ((l.drop (8*k)).take 8) else none
 | 0,l,h,k=>by
  grind [uZ]
 | f+1,[],_,k=>by rfl
 | f+1,t::l,h,0=>by rfl
 | f+1,t::l,h,k+1=>by
  unfold uZ;rw[aQv,Wt f _ (by grind) k,List.drop_drop];grind
theorem Wu{l:List ag}{k:Nat}:k<(gG l).length<->8*k<l.length:=by
 have h:=Wt l.length l (amn _) k;grind [gG]
theorem aD5{l:List ag}{k:Nat}(ak:k<(gG l).length):(gG l)[k]=(l.drop (8*k)).take 8:=by
 have h:=Wt l.length l (amn _) k;grind [gG]
variable {l:z2'}
theorem Jk(h:∀ t∈l,gF t):∀ c∈gG l,c.length<=8/\1<=c.length/\∀ t∈c,gF t:=λc hc=>
 let ⟨E,L,an⟩:=OD _ _ c hc;⟨E,L,λt aH=>h t (an t aH)⟩
theorem aD6(h:∀ t∈x,gF t):∀ r∈hT x,r.length=fy x+2/\r.all fW=true:=λr D=>by
 grind [aiM,Ws,List.mem_map_of_mem,o8,zz]
theorem aD7(x:z2'):(hT x).length=x.length+1:=by grind [hT]
def k0(x:z2'):List UInt8:=(gG x).flatMap λl=>eI (hT l)
theorem aiT{bet:Type}{f:bet->List UInt8}{g:bet->z1'}:∀ (l:List bet),(∀ y∈l,de (f y)=g y)->de (l.flatMap f)=l.flatMap g
 | [],_=>rfl
 | y::l,h=>by
  rw[aQf,aQf,OH,h y (by simp),aiT l λz bA=>h z (amr _ bA)]
theorem aD8(h:∀ t∈x,gF t):de (k0 x)=Jh x:=
 aiT _ λl ah=>by rw[OJ,Ws (Jk h l ah).2.2]
def tG(x:z2'):z32':=if x.length > 40 then ([],2) else if x.any x7=true then ([],1) else (k0 x,0)
theorem aiU(x:z2'):Jj x=tG x:=by
 grind [Jj,tG,aD8,OG,Cl]
def Jl(n:Nat)(r:List UInt8):Bool:=decide (r.length≠n)||decide (r.length<2)||decide (r.length > 62)||!r.all fW
def o9(x:z2'):Bool:=decide (2<=x.length)&&decide (x.length<=9)&&x.all λr=>!Jl (x.getD 0 []).length r
abbrev zA:Type:=List UInt8×List (z2')×z2'
def Cn(b:UInt8)(s:zA):aJ zA (aJ (List UInt8×z30') (Bool×List (z2')×Unit)):=
 if b≠10 then .aw (s.1++[b],s.2.1,s.2.2) else if s.1≠[] then .aw ([],s.2.1,s.2.2++[s.1]) else if o9 s.2.2=true then .aw (s.1,s.2.1++[s.2.2],[]) else .aV (.aV (false,[],()))
def l0(file:List UInt8)(s:zA):aJ (List UInt8×z30') (Bool×List (z2')×Unit):=fa Cn (λs=>.aw (s.1,s.2.1,s.2.2,())) file s
def wA(r:aJ (List UInt8×z30') (Bool×List (z2')×Unit)):Bool×List (z2'):=
 match r with
 | .aw s=>(decide (s.1=[])&&decide (s.2.2.1.length=0),s.2.1)
 | .aV r=>(r.1,r.2.1)
def k1(file:List UInt8):Bool×List (z2'):=wA (l0 file ([],[],[]))
def gr(W:Nat)(l:z2'):Prop:=2<=l.length/\l.length<=9/\2<=W/\W<=62/\∀ r∈l,r.length=W/\r.all fW=true
theorem aD9(h:o9 l=true):gr (l.getD 0 []).length l:=by
 unfold o9 at h;simp only[amm,amp]at h;obtain⟨⟨E,L⟩,an⟩:=h;have D:∀ r∈l,r.length=(l.getD 0 []).length/\2<=r.length/\r.length<=62/\r.all fW=true:=λr D=>by
  have:=List.all_eq_true.1 an r D;unfold Jl at this;simp only[Bool.not_or,amm,aPO,aPX,Bool.not_not,ne_eq]at this;obtain⟨⟨⟨aM,aT⟩,b5⟩,hC⟩:=this;exact⟨Decidable.not_not.1 aM,by omega,by omega,by simpa using hC⟩
 have aW:l.getD 0 []∈l:=by
  rw[amq,ams (by omega:0<l.length)];exact amk _
 obtain⟨aM,aT,b5,hC⟩:=D _ aW;exact⟨E,L,aT,b5,λr h=>⟨(D r h).1,(D r h).2.2.2⟩⟩
def np(n:Nat):z1':=(List.range n).map λi:Nat=>(i:Int)
theorem Co(n:Nat):(np n).length=n:=by simp[np]
theorem Wv{n:Nat}(h:i<(np n).length):(np n)[i]=(i:Int):=by simp[np]
theorem aD_{l:List UInt8}{p:UInt8->Bool}(h:l.all p=true)(n:Nat):(l.take n).all p=true:=List.all_eq_true.2 λx al=>List.all_eq_true.1 h x (aP0 al)
theorem aiV:∀ (f:List UInt8) (s:zA),(∀ l∈s.2.1,o9 l=true)->(∀ l∈(wA (l0 f s)).2,o9 l=true)/\(wA (l0 f s)).2.length<=s.2.1.length+f.length
 | [],s,h=>⟨h,amn _⟩
 | b::f,s,h=>by
  have aP:=aiV f;unfold l0 at aP ⊢;simp only[fa,Cn];by_cases E:b≠10
  ·grind
  ·simp only[if_neg E];by_cases L:s.1≠[]
   ·grind
   ·simp  [if_neg L];by_cases an:o9 s.2.2=true
    ·grind
    ·simp  [if_neg an];exact⟨λl ah=>(by cases ah),aPR _⟩
theorem Ww(f:List UInt8):(∀ l∈(k1 f).2,o9 l=true)/\(k1 f).2.length<=f.length:=by
 have:=aiV f ([],[],[]) (by simp);refine⟨this.1,?_⟩;have L:=this.2;simp  at L;exact L
abbrev fX(l:z2'):Nat:=(l.getD 0 []).length
theorem aiW(n:Nat)(p:Int->Bool):((np n).filter p).length<=n:=by
 grind [Co]
theorem aiX{ag:Type}(p:ag->Bool):∀ (l:List ag) (n:Nat),l.foldl (λn x=>if p x=true then n+1 else n) n=n+(l.filter p).length
 | [],n=>rfl
 | x::l,n=>by
  rw[aP3,aiX p l];grind
def sx(r:List UInt8):Option (List UInt8):=if ((r.getD 0 0).toNat:Int) - 32 > (r.length:Int) - 2 then none else some ((r.take (1+(((r.getD 0 0).toNat:Int) - 32)).toNat).drop 1)
def tH:z2'->z2'->Option (z2')
 | [],o=>some o
 | r::l,o=>match sx r with
  | none=>none
  | some t=>tH l (o++[t])
def wB:List (z2')->List UInt8×z2'->Option (List UInt8×z2')
 | [],s=>some s
 | l::x,s=>match tH (l.take (l.length - 1)) s.2 with
  | none=>none
  | some o=>wB x (s.1++eI l,o)
theorem OK{W:Nat}(h:gr W l):(eI l).length<=600:=by
 rw[<-o8,OJ];obtain⟨E,L,an,a6,bS⟩:=h;have k:=Wn (m:=62) (l.map de) λr D=>by
  grind [o8]
 grind [oz]
def u0(x:List (z2')):z2'×Bool:=
 match wB x ([],[]) with
 | none=>([],false)
 | some s=>(s.2,decide ((tG s.2).2=0)&&decide ((tG s.2).1=s.1))
def aiY(aD':z32'->M (z27'))(x:List UInt8×z4'):M (List UInt8×z1'×Bool):=
 bQ (λ(A:List UInt8×z4'×List UInt8×z20')=>letI p:=Int.ofNat (List.length A.2.1);letI n:=A.2.2.2;letI e:=0<=n.1/\n.1<p;letI u:=e/\True;letI a:=List.getD A.2.1 (Int.toNat n.1) (0,0);bD (fT n.1 p) (cB (ae e (aq (aD' (A.1,a.1)) (λy=>letI l:=!y.2||fT a.2 32;letI s:=l||dp a.2 126;letI g:=(!(!y.2))=true;letI v:=g->g/\True/\True;letI d:=(!l)=true;letI w:=d->d/\True/\True;letI b:=(!s)=true;letI i:=b->b/\True/\True;ae (g->(g/\g)/\u) (ae v (ae v (ae (g->(g/\True)/\True/\True) (ae (True/\((!y.2)=false->g)) (ae (d->(d/\d)/\u) (ae w (ae w (ae (d->(d/\True)/\True/\True) (ae (True/\(l=false->d)) (ae (b->(b/\b)/\u) (ae i (ae i (ae (b->(b/\b)/\(0<=a.1/\a.1<Int.ofNat (List.length A.1))/\True) (ae i (ae (b->(b/\b)/\u) (ae i (ae i (ae (b->(b/\b)/\True/\True) (ae (True/\(s=false->b)) (bD (s||b7 (IntKind.wrap .i64 (Int.ofNat (List.getD A.1 (Int.toNat a.1) 0).1.1.1)) a.2) (aq (aq (aq (mpure ([],[],false)) (λr=>mpure (aJ.aV r))) (λr=>mpure (aJ.aV r))) (λr=>mpure (aJ.aV r))) (bQ (λ(A:List UInt8×z4'×List UInt8×Int×z33')=>letI q:=Int.ofNat (List.length A.2.1);letI m:=A.2.2.2;bD (fT A.cv m.1) (ae (0<=A.cv/\A.cv<q) (ae (0<=m.1/\m.1<q) (bD (b7 (List.getD A.2.1 (Int.toNat A.cv) (0,0)).1 (List.getD A.2.1 (Int.toNat m.1) (0,0)).1) (aq (aq (aq (aq (aq (mpure ([],[],false)) (λr=>mpure (aJ.aV r))) (λr=>mpure (aJ.aV r))) (λr=>mpure (aJ.aV r))) (λr=>mpure (aJ.aV r))) (λr=>mpure (aJ.aV r))) (mpure (aJ.aw (A.1,A.2.1,A.2.2.1,m.1,m.2.1,bf A.cv,A.fE,())))))) (aq (mpure (aJ.aw (A.1,A.2.1,A.2.2.1,m.1,m.2.1,A.fE,()))) (λr=>mpure (aJ.aV r)))) (A.1,A.2.1,A.2.2.1,n.1,y.1,0,n.2.1,()) (λ(A:List UInt8×z4'×List UInt8×z33')=>letI t:=A.2.2;letI h:=0<=t.2.1/\t.2.1<Int.ofNat (List.length A.2.1);letI f:=Int.ofNat (List.length t.1);letI c:=List.getD A.2.1 (Int.toNat t.2.1) (0,0);letI k:=List.drop (Int.toNat (bf c.1)) (List.take (Int.toNat f) t.1);letI j:=List.take (Int.toNat c.1) t.1;letI o:=j++ff [IntKind.wrap .u8 c.2];ae h (ae ((0:Int)<=0/\0<=c.1/\c.1<=f) (ae h (ae (cb (Add.add (List.length j) (Add.add 0 1))) (ae h (ae (0<=bf c.1/\bf c.1<=f/\f<=f) (ae (cb (Add.add (List.length o) (List.length k))) (ae (cb (Add.add (List.length A.cv) (Add.add 0 1))) (mpure (aJ.aw (A.1,A.2.1,o++k,t.2.1,A.cv++[t.2.2.1],()))))))))))))))))))))))))))))))))))) (λ(A:List UInt8×z4'×List UInt8×z20')=>mpure (aJ.aw (A.1,A.2.1,A.2.2.1,bf A.2.2.2.1,A.2.2.2.2.1,())))) (aq (mpure (aJ.aw (A.2.2.1,n.2.1,()))) (λr=>mpure (aJ.aV r)))) (x.1,x.2,x.1,0,[],()) λ(A:List UInt8×z14')=>mpure (A.1,A.2.1,true)
def aiZ(x:z32'):M (z27'):=
 letI e:=Int.ofNat (List.length x.1);letI b:=fT x.2 0||decide (x.2>=e);letI f:=(!b)=true;ae (f->(f/\f)/\(0<=x.2/\x.2<e)/\True) (bD (b||b7 (Int.ofNat (List.getD x.1 (Int.toNat x.2) 0).1.1.1) 10) (mpure (0,false)) (bQ (λ(A:List UInt8×Int×Int×z25')=>letI d:=Int.ofNat (List.length A.1);letI c:=A.2.2.2.1;letI a:=b7 (Int.ofNat (List.getD A.1 (Int.toNat c) 0).1.1.1) 10;bD (fT c A.2.1) (cB (ae (0<=c/\c<d) (ae (a=true->(a=true/\a=true)/\(0<=cE c 1/\cE c 1<d)/\True) (bD (a&&b7 (Int.ofNat (List.getD A.1 (Int.toNat (cE c 1)) 0).1.1.1) 10) (mpure (aJ.aw (A.1,A.2.1,bf A.2.2.1,c,()))) (mpure (aJ.aw (A.1,A.2.1,A.2.2.1,c,())))))) (λ(A:List UInt8×Int×Int×z25')=>mpure (aJ.aw (A.1,A.2.1,A.2.2.1,bf A.2.2.2.1,())))) (aq (mpure (aJ.aw (A.2.2.1,()))) (λr=>mpure (aJ.aV r)))) (x.1,x.2,0,1,()) (λ(A:z25')=>mpure (A.1,true))))
def OL(x:z1')(v:Int):Nat:=(x.filter λw=>decide (w=v)).length
def E6(f:List UInt8)(p:Nat):Nat:=((List.range (p - 1)).filter λk=>decide (f.getD (k+1) 0=10)&&decide (f.getD k 0=10)).length
def kr(f:List UInt8)(p:Int):z27':=if p<0\/(f.length:Int)<=p\/f.getD p.toNat 0=10 then (0,false) else ((E6 f p.toNat:Int),true)
abbrev OM:aO:=⟨.ar .str (.int .i64),.ar (.int .i64) .bool,λx=>List.length x.1<65536,λx=>kr x.1 x.2⟩
theorem aEa{b:UInt8}:decide ((b.1.1.1:Int)=10)=decide (b=10):=decide_eq_decide.2 ⟨λh=>UInt8.toNat_inj.1 (by show b.1.1.1=10;omega),λh=>by rw[h];rfl⟩
theorem aEb(x):a8 (aiZ x) (OM.sh x):=bx λh=>by
 change z32' at x;obtain⟨f,p⟩:=x;change f.length<65536 at h;unfold aiZ b7 fT cB bD bf bQ cE;show _=mpure (kr f p);simp only[cC,aEa];by_cases aW:p<0
 ·rw[aP5 aW];rw[show kr f p=(0,false) from if_pos (.inl aW)];simp[cp]
 ·by_cases E:(f.length:Int)<=p
  ·grind [kr,cp]
  ·have bf:(0<=p/\p<f.length):=⟨by omega,by omega⟩
   rw[aQd aW,aQd (by omega)];simp only[aQu,aQA,forall_const,bf,aQK,cp];by_cases L:f.getD p.toNat 0=10
   ·grind [kr]
   ·have h9:¬(p<0\/f.length<=p\/f.getD p.toNat 0=10):=λk=>by
     grind
    rw[show kr f p=((E6 f p.toNat:Int),true) from if_neg h9,aQd L];obtain⟨q,rfl⟩:∃ q:Nat,p=q:=⟨p.toNat,by omega⟩
    rw[e2 (List.range (q - 1)) (λk (n:Nat)=>(f,(q:Int),(n:Int),(k:Int)+1,())) (λk n=>.aw (if (decide (f.getD (k+1) 0=10)&&decide (f.getD k 0=10))=true then n+1 else n)) (λn=>.aw (n,())) (λk n=>n<=k) 0 ?_ ?_ ?_ ?_]
    ·rw[ec,aiX,aQG,aN];rfl
    ·rfl
    ·omega
    ·intro k ak n aC;have ON:k<q - 1:=by grind
     have Ei:(List.range (q - 1))[k]'ak=k:=aPJ ..;have hw:=bs (n:=k+1+1);have EJ:=bs (n:=n+1);have Wx:=bs (n:=k+1 - 1);have ax:decide (k+1<(q:Int))=true:=aP5 (by omega);have iy:((k:Int)+1).toNat=k+1:=by omega
     have z2:((k:Int)+1 - 1).toNat=k:=by omega
     have i1:(0<=(k:Int)+1/\k+1<(f.length:Int)):=⟨by omega,by omega⟩
     have i2:(0<=k+1 - 1/\k+1 - 1<f.length):=⟨by omega,by omega⟩
     refine⟨?_,λkt xb=>?_⟩
     ·simp only[Wx,iy,z2,Ei];cases (decide (f.getD (k+1) 0=10)&&decide (f.getD k 0=10))<;>simp_all
     grind
    ·have ah:(List.range (q - 1)).length=q - 1:=by simp
     rw[ah];have ax:decide (((q - 1:Nat))+1<(q:Int))=false:=aQd (by omega);simp only[ax];simp
section
variable {ag:Type}
theorem zB:∀ (m:List (Nat×List ag)) (id i:Nat) (d:ag),cQ (eT m id i d) id=(cQ m id).set i d
 | [],id,i,d=>rfl
 | p::m,id,i,d=>by
  have aP:=zB m id i d;grind [cQ,eT]
theorem Jm:∀ (m:List (Nat×List ag)) (id j i:Nat) (d:ag),j≠id->cQ (eT m id i d) j=cQ m j
 | [],id,j,i,d,_=>rfl
 | p::m,id,j,i,d,aK=>by
  have aP:=Jm m id j i d aK;grind [cQ,eT]
theorem ai0(m:List (Nat×List ag))(id i:Nat)(d:ag):(eT m id i d).map (·.1)=m.map (·.1):=by
 grind [eT,List.map_congr_left]
theorem Wy(m:List (Nat×List ag))(id i j:Nat)(d:ag):(eT m id i d).any (λp=>p.1 == j)=m.any (λp=>p.1 == j):=by
 have h:∀ l:List (Nat×List ag),l.any (λp=>p.1 == j)=(l.map (·.1)).any (λk=>k == j):=λl=>by grind
 grind [ai0]
end
def jw(r:z1')(a:Int)(c:Int):z1':=r.set a.toNat c
def jY(r:z1'):Bool:=decide (r.getD (r.length - 1) 0≠lZ (r.take (r.length - 1)))
abbrev ai1:Type:=Int×z16'
def aEc(x:ai1):Prop:=fb x.1=true/\x.2.2.1.2.1=0/\x.2.2.1.2.2=(cQ x.2.2.2.1 x.2.2.1.1).length/\lA (cQ x.2.2.2.1 x.2.2.1.1)/\(0<=x.2.1.2/\x.2.1.2<(x.2.2.1.2.2:Int))/\x.2.2.2.1.any (λp=>p.1 == x.2.2.1.1)=true
def OO(x:ai1):M (Bool×z16'):=
 eE (aEc x) (!jY (jw (cQ x.2.2.2.1 x.2.2.1.1) x.2.1.2 x.1),x.2.1,x.2.2.1,eT x.2.2.2.1 x.2.2.1.1 x.2.1.2.toNat x.1,())
theorem OP{r:z1'}(h:r.all fb=true)(hc:fb c=true):(r.set i c).all fb=true:=List.all_eq_true.2 λv af=>by
 grind
theorem aEd(x):a8 (aiB pX.pre pX.g x) (OO x):=bx λh=>by
 obtain⟨c,⟨tm,a⟩,⟨id,a7,n⟩,m,u⟩:=x;obtain⟨E,L,an,a6,bS,ek⟩:=h;change a7=0 at L;change n=(cQ m id).length at an;change lA (cQ m id) at a6;change 0<=a/\a<(n:Int) at bS;change m.any (λp=>p.1 == id)=true at ek;subst L;unfold aiB cE;obtain⟨cq,c7,fL⟩:=a6;have hw:=bs (n:=n - 1);have bA:((n:Int) - 1).toNat=n - 1:=by omega
 have z:(0:Int).toNat=0:=rfl;have D:cQ (eT m id a.toNat c) id=jw (cQ m id) a c:=zB m id a.toNat c;have ah:(jw (cQ m id) a c).length=n:=by unfold jw;grind
 have b6:(jw (cQ m id) a c).all fb=true:=OP fL E;have b7:gx (.int .u8) (eT m id a.toNat c) (.cM (.int .u8)) (id,0,n - 1)=(jw (cQ m id) a c).take (n - 1):=by
  show ((cQ (eT m id a.toNat c) id).drop 0).take (n - 1)=_;grind
 simp only[cC,kE,aQG,Nat.sub_zero,hw,bA,z,D];rw[bc bS,bc (by omega),bc ⟨by omega,by omega⟩,bc (by omega),bc ⟨aPP _,by omega,by omega⟩];rw[b7,bc ⟨⟨rfl,(Wy m id a.toNat id c).trans ek,by grind⟩,by
  grind,List.all_eq_true.2 λv af=>List.all_eq_true.1 b6 v (aP0 af)⟩]
 grind [jY]
end Go.Fer
namespace Go.Fer
theorem ai2{A rho:Type}{body:A->M (aJ A rho)}{p:rho->Prop}{s0:A}(n:Nat)(I:Nat->A->Prop)(aW:I 0 s0)
  (az:∀ i,i<n->∀ s,I i s->c' (body s) λad=>match ad with | .aw s'=>I (i+1) s' | .aV r=>p r)
  (ay:∀ s,I n s->c' (body s) λad=>match ad with | .aw _=>False | .aV r=>p r):c' (dA body s0) p:=by
 have key:∀ k i s,n - i=k->i<=n->I i s->c' (dA body s) p:=by
  intro k;induction k with
  | zero=>
   intro i s ak G h;have:i=n:=by omega
   subst this;rw[zT,fN];refine (ay s h).mono λy ba=>?_;grind [dO]
  | succ k aP=>
   intro i s ak G h;rw[zT,fN];refine (az i (by omega) s h).mono λy ba=>?_;grind [dO]
 grind
def jd(l:z1'):Int:=(l.map λx=>x - 32).sum
theorem ai3:∀ (l:z1') (s:Int),0<=s->s<=94->l.all fb=true->l.foldl pW s=(s+jd l) % 95
 | [],s,h,L,_=>by show s=(s+0) % 95;omega
 | c::l,s,h,L,aY=>by
  simp only[aQn,amm]at aY;obtain⟨aM,aT⟩:=Wj h aY.1;have aP:=ai3 l _ aM aT aY.2;grind [pW,jd]
variable {l:z1'}
theorem Cp(h:l.all fb=true):lZ l=jd l % 95+32:=by
 grind [ai3,lZ,Ol]
theorem Wz:∀ (l:z1') (i:Nat) (c:Int),i<l.length->jd (l.set i c)=jd l - l.getD i 0+c
 | [],i,c,h=>by grind
 | x::l,0,c,h=>by
  grind [jd]
 | x::l,i+1,c,h=>by
  have:=Wz l i c (by grind);grind [jd]
variable {i:Nat}
theorem OQ(h:l.all fb=true)(G:i<l.length):32<=l.getD i 0/\l.getD i 0<=126:=by
 grind [oy,List.getElem_mem]
theorem ai4{p:Int->Bool}(h:l.all p=true)(n:Nat):(l.take n).all p=true:=List.all_eq_true.2 λx al=>List.all_eq_true.1 h x (aP0 al)
def zC(r:z1'):Int:=jd (r.take (r.length - 1)) - (r.getD (r.length - 1) 0 - 32)
variable {r:z1'}
theorem E7(h:lA r):jY r=false<->zC r % 95=0:=by
 obtain⟨E,L,an⟩:=h;have ah:=OQ an (i:=r.length - 1) (by omega);grind [jY,zC,Cp]
theorem OR(r:z1')(a c:Int):(jw r a c).length=r.length:=by unfold jw;simp
variable {a:Int}{c:Int}
theorem zD(h:lA r)(hc:fb c=true):lA (jw r a c):=⟨by rw[OR];exact h.1,by rw[OR];exact h.2.1,OP h.2.2 hc⟩
theorem OS(h:2<=r.length)(aW:0<=a)(aY:a<(r.length:Int)):zC (jw r a c)=if a.toNat=r.length - 1 then zC r+r.getD a.toNat 0 - c else zC r - r.getD a.toNat 0+c:=by
 grind [zC,jw,List.take_set,List.set_eq_of_length_le,Wz]
theorem aEe(h:lA r)(aW:0<=a)(aY:a<(r.length:Int)):∃ c,fb c=true/\jY (jw r a c)=false:=by
 by_cases e:a.toNat=r.length - 1
 ·have hc:fb (32+(r.getD a.toNat 0 - 32+zC r) % 95)=true:=oy.2 (by omega);refine⟨_,hc,(E7 (zD h hc)).2 ?_⟩;rw[OS h.1 aW aY];omega
 ·have hc:fb (32+(r.getD a.toNat 0 - 32 - zC r) % 95)=true:=oy.2 (by omega);grind [E7,zD,OS]
theorem aEf{d:Int}(h:lA r)(aW:0<=a)(aY:a<(r.length:Int))(hc:fb c=true)(ax:fb d=true)(E:jY (jw r a c)=false)(L:jY (jw r a d)=false):c=d:=by
 have aM:=(E7 (zD h hc)).1 E;have aT:=(E7 (zD h ax)).1 L;have bG:=oy.1 hc;have d1:=oy.1 ax;rw[OS h.1 aW aY]at aM aT;omega
theorem WA:c∈kZ<->fb c=true:=by
 unfold kZ;rw[aRb,oy];constructor
 ·grind
 ·intro h;exact⟨(c - 32).toNat,List.mem_range.2 (by omega),by omega⟩
def nR(r:z1')(a:Int):Int:=(kZ.find? λc=>!jY (jw r a c)).getD 32
theorem ai5(h:lA r)(aW:0<=a)(aY:a<(r.length:Int)):(kZ.find? λc=>!jY (jw r a c))=some (nR r a):=by
 unfold nR;cases ay:kZ.find? λc=>!jY (jw r a c) with
 | some c=>rfl
 | none=>
  grind [aEe,WA]
theorem Jn(h:lA r)(aW:0<=a)(aY:a<(r.length:Int)):fb (nR r a)=true/\jY (jw r a (nR r a))=false:=by
 grind [ai5,WA]
theorem aEg(h:lA r)(aW:0<=a)(aY:a<(r.length:Int))(hc:fb c=true)(U:jY (jw r a c)=false):nR r a=c:=
 aEf h aW aY (Jn h aW aY).1 hc (Jn h aW aY).2 U
abbrev ml:Type:=Nat×z21'
abbrev h4:Type:=List (Nat×z1')
def qL(m:h4)(h:ml):Prop:=m.any (λp=>p.1 == h.1)=true/\h.2.1=0/\h.2.2=(cQ m h.1).length
def dz(m:h4)(b:List ml):List (z1'):=b.map λh=>cQ m h.1
theorem ai6(m:h4)(id i:Nat)(c d:Int):eT (eT m id i c) id i d=eT m id i d:=by
 unfold eT;rw[aQ4];apply aPN;intro p _;by_cases h:p.1=id<;>simp_all
theorem I3{ag rho:Type}{qA:ag->Bool}{g:ag->rho}{fin:Unit->rho}:∀ (l:List ag) (u:Unit),fa (λc u=>if qA c=true then (.aV (g c):aJ Unit rho) else .aw u) fin l u=match l.find? qA with | some c=>g c | none=>fin ()
 | [],u=>rfl
 | c::l,u=>by
  simp  [fa,List.find?_cons];cases qA c with
  | true=>rfl
  | false=>exact I3 l u
abbrev WB:Type:=z1'×(z12')×ml×h4×Unit
def WC(x:WB):Prop:=x.1=kZ/\qL x.2.2.2.1 x.2.2.1/\lA (cQ x.2.2.2.1 x.2.2.1.1)/\0<=x.2.1.2/\x.2.1.2<(x.2.2.1.2.2:Int)
def OT(x:WB):M (Int×(z12')×ml×h4×Unit):=
 eE (WC x) (nR (cQ x.2.2.2.1 x.2.2.1.1) x.2.1.2 - 32,x.2.1,x.2.2.1,eT x.2.2.2.1 x.2.2.1.1 x.2.1.2.toNat (nR (cQ x.2.2.2.1 x.2.2.1.1) x.2.1.2),())
def OU(x:WB):M (Bool×(z12')×ml×h4×Unit):=
 eE (WC x) (true,x.2.1,x.2.2.1,eT x.2.2.2.1 x.2.2.1.1 x.2.1.2.toNat (nR (cQ x.2.2.2.1 x.2.2.1.1) x.2.1.2),())
def zE(m:h4)(id:Nat)(a:Int):Nat->h4
 | 0=>m
 | i+1=>eT m id a.toNat ((i:Int)+32)
theorem aEh(x):a8 (aiA OO x) (OT x):=bx λh=>by
 obtain⟨l,⟨tm,a⟩,⟨id,a7,n⟩,m,u⟩:=x;obtain⟨E,L,an,a6,bS⟩:=h;obtain⟨aM,aT,b5⟩:=L;change n=(cQ m id).length at b5;change lA (cQ m id) at an;change 0<=a at a6;change a<n at bS;subst E aT;unfold aiA fT bD bf bQ;have oZ:kZ.length=95:=by decide
 rw[eH kZ (λi (_)=>(kZ,(kZ.length:Int),(i:Int),(tm,a),(id,0,n),zE m id a i,())) (λc u=>if (!jY (jw (cQ m id) a c))=true then .aV (.aV (c - 32,(tm,a),(id,0,n),eT m id a.toNat c,())) else .aw u) (λ_=>.aw ((tm,a),(id,0,n),zE m id a 95,())) () ?_ ?_ ?_]
 ·rw[I3,ai5 an a6 (by omega),aN,uG]
 ·rfl
 ·intro i G u;have hw:=bs (n:=i+1);have hc:kZ[i]=i+32:=by simp[kZ]
  have b6:=WA.1 (amk G);have ai:eT (zE m id a i) id a.toNat kZ[i]=eT m id a.toNat kZ[i]:=by
   cases i with
   | zero=>rfl
   | succ i=>exact ai6 m id a.toNat _ _
  have D:jw (cQ (zE m id a i) id) a kZ[i]=jw (cQ m id) a kZ[i]:=by
   grind [jw,zB]
  have eB:(cQ (zE m id a i) id).length=(cQ m id).length:=by
   grind [zB,List.length_set]
  have rX:lA (cQ (zE m id a i) id):=by
   cases i with
   | zero=>exact an
   | succ i=>
    show lA (cQ (eT m id a.toNat _) id);rw[zB];exact zD an (oy.2 ⟨by omega,by omega⟩)
  have aEi:(zE m id a i).any (λp=>p.1 == id)=true:=by
   cases i with
   | zero=>exact aM
   | succ i=>exact (Wy m id a.toNat id _).trans aM
  have aEj:OO (kZ[i],(tm,a),(id,0,n),zE m id a i,())=mpure (!jY (jw (cQ m id) a kZ[i]),(tm,a),(id,0,n),eT m id a.toNat kZ[i],()):=by
   refine (bP (⟨b6,rfl,by grind,rX,⟨a6,bS⟩,aEi⟩) _).trans ?_;grind
  simp only[cC,dQ G,ed G,dK G,Prod.cv];erw [aEj];cases jY (jw (cQ m id) a kZ[i]) with
  | false=>
   simp_all[kZ]
  | true=>
   simp  [hw];rw[hc];rfl
 simp_all
theorem aEk(x):a8 (aix OT x) (OU x):=bx λh=>by
 unfold aix OT;rw[bP (h),aN];obtain⟨E,L,an,a6,bS⟩:=h;have:=oy.1 (Jn an a6 (by rw[<-L.2.2];omega)).1;grind
def p0(W:Nat)(R:List (z1')):Prop:=2<=R.length/\R.length<=9/\2<=W/\W<=62/\∀ r∈R,r.length=W/\r.all fb=true
def k2(R:List (z1'))(c:Nat):Bool:=decide ((R.getD (R.length - 1) []).getD c 0≠lZ (gh (R.take (R.length - 1)) (c:Int)))
def j9(R:List (z1')):z1':=(np R.length).filter λv=>jY (R.getD v.toNat [])
def k3(W:Nat)(R:List (z1')):z1':=(np W).filter λv=>k2 R v.toNat
def nS(R:List (z1'))(r a:Int):List (z1'):=R.set r.toNat (jw (R.getD r.toNat []) a (nR (R.getD r.toNat []) a))
def k4(W:Nat)(R:List (z1')):z15':=
 if (j9 R).length+(k3 W R).length=0 then (0,0,0)
 else if (j9 R).length≠1\/(k3 W R).length≠1 then (2,0,0)
 else if k2 (nS R ((j9 R).getD 0 0) ((k3 W R).getD 0 0)) ((k3 W R).getD 0 0).toNat=true then (2,0,0)
 else (1,(j9 R).getD 0 0,(k3 W R).getD 0 0)
variable {R:List (z1')}
theorem p0.fB{W:Nat}(h:p0 W R)(D:r∈R):lA r:=by
 obtain⟨E,L,an,a6,bS⟩:=h;obtain⟨aM,aT⟩:=bS r D;exact⟨by omega,by omega,aT⟩
theorem E8{v:Int}:v∈j9 R<->∃ i:Nat,i<R.length/\v=(i:Int)/\jY (R.getD i [])=true:=by
 grind [j9,np]
theorem E9{W:Nat}{v:Int}:v∈k3 W R<->∃ i:Nat,i<W/\v=(i:Int)/\k2 R i=true:=by
 grind [k3,np]
theorem WD(m:h4)(b:List ml):(dz m b).length=b.length:=by simp[dz]
variable {m:h4}{b:List ml}{k:Nat}
theorem OV(h:k<b.length):(dz m b).getD k []=cQ m (b.getD k (0,0,0)).1:=by
 unfold dz;grind
theorem WE(h:k<b.length):b.getD k (0,0,0)∈b:=by
 grind
variable {h:ml}
theorem ai7(ak:qL m h)(aC:k<=h.2.2):n7 (.int .u8) m (.cM (.int .u8)) (h.1,0,k)/\gx (.int .u8) m (.cM (.int .u8)) (h.1,0,k)=(cQ m h.1).take k:=by
 obtain⟨aM,aT,b5⟩:=ak;refine⟨⟨rfl,aM,by grind⟩,?_⟩;rfl
theorem E_(ak:∀ h∈b,qL m h):n7 (.int .u8) m (.slice (.cM (.int .u8))) b/\gx (.int .u8) m (.slice (.cM (.int .u8))) b=dz m b:=by
 have E:∀ h∈b,n7 (.int .u8) m (.cM (.int .u8)) h/\gx (.int .u8) m (.cM (.int .u8)) h=cQ m h.1:=λh dh=>by
  have k:=ak _ dh;obtain⟨aM,aT,b5⟩:=k;have:=ai7 (ak _ dh)   (amn _);grind
 refine⟨λh dh=>(E h dh).1,?_⟩;show b.map (gx (.int .u8) m (.cM (.int .u8)))=b.map _;grind [List.map_congr_left]
theorem ai8(ak:qL m h)(id i:Nat)(c:Int):qL (eT m id i c) h:=by
 obtain⟨aM,aT,b5⟩:=ak;refine⟨(Wy m id i h.1 c).trans aM,aT,?_⟩;grind [zB,Jm]
variable {id:Nat}
theorem ai9(aC:id ∉ b.map (·.1))(i:Nat)(c:Int):dz (eT m id i c) b=dz m b:=by
 grind [dz,List.map_congr_left,Jm]
theorem WG{m:h4}:∀ {b:List ml} (_:(b.map (·.1)).Nodup) {k:Nat} (_:k<b.length) (i:Nat) (c:Int),dz (eT m (b.getD k (0,0,0)).1 i c) b=(dz m b).set k (((dz m b).getD k []).set i c)
 | [],_,k,h,_,_=>by rfl
 | h::b,aC,0,_,i,c=>by
  show cQ (eT m h.1 i c) h.1::dz (eT m h.1 i c) b=(cQ m h.1).set i c::dz m b;grind [zB,ai9]
 | h::b,aC,k+1,ak,i,c=>by
  simp  at aC;have ON:k<b.length:=by grind
  have aP:=WG (m:=m) aC.2 ON i c;show cQ (eT m (b.getD k (0,0,0)).1 i c) h.1::dz (eT m (b.getD k (0,0,0)).1 i c) b=cQ m h.1::(dz m b).set k (((dz m b).getD k []).set i c);grind [Jm]
theorem aEl(aC:(m.map (·.1)).Nodup)(id i:Nat):eT m id i ((cQ m id).getD i 0)=m:=by
 have key:∀ p∈m,(if p.1=id then (p.1,p.2.set i ((cQ m id).getD i 0)) else p)=p:=by
  rintro⟨j,l⟩ ai;by_cases e:j=id
  ·have ah:=Zk aC ai;by_cases G:i<l.length
   ·simp_all
   grind [List.set_eq_of_length_le]
  grind
 unfold eT;rw[aPN key];simp
abbrev OW:Type:=List ml×h4×Unit
def WH(x:OW):Prop:=(x.2.1.map (·.1)).Nodup/\(∀ h∈x.1,qL x.2.1 h)/\(x.1.map (·.1)).Nodup/\∃ W,p0 W (dz x.2.1 x.1)
abbrev wC(R:List (z1')):Nat:=(R.getD 0 []).length
def wD(x:OW):z15':=k4 (wC (dz x.2.1 x.1)) (dz x.2.1 x.1)
def zF(x:OW):h4:=if (wD x).1=1 then eT x.2.1 (x.1.getD (wD x).2.1.toNat (0,0,0)).1 (wD x).2.2.toNat (nR ((dz x.2.1 x.1).getD (wD x).2.1.toNat []) (wD x).2.2) else x.2.1
def Jo(x:OW):M (Int×(z12')×h4×Unit):=eE (WH x) ((wD x).1,(wD x).2,zF x,())
theorem p0.wide{W:Nat}(h:p0 W R):wC R=W:=by
 obtain⟨E,L,an,a6,bS⟩:=h;grind
theorem ai_{W c:Nat}(h:∀ r∈R,r.length=W/\r.all fb=true)(hc:c<W):(gh R (c:Int)).all fb=true:=Jd λr D=>⟨(h r D).2,by grind⟩
theorem aEm(x):a8 (aiC pX.pre pX.g x5.pre x5.g OU Jb.sh x) (Jo x):=bx λh=>by
 obtain⟨b,m,u⟩:=x;obtain⟨fs,fQ,mu,W,uA⟩:=h;change (m.map (·.1)).Nodup at fs;change ∀ h∈b,qL m h at fQ;change (b.map (·.1)).Nodup at mu;change p0 W (dz m b) at uA;have aEn:=uA.wide;have eB:=WD m b;have E':wD (b,m,u)=k4 W (dz m b):=by show k4 (wC (dz m b)) (dz m b)=_;rw[aEn]
 have ai':zF (b,m,u)=if (k4 W (dz m b)).1=1 then eT m (b.getD (k4 W (dz m b)).2.1.toNat (0,0,0)).1 (k4 W (dz m b)).2.2.toNat (nR ((dz m b).getD (k4 W (dz m b)).2.1.toNat []) (k4 W (dz m b)).2.2) else m:=by unfold zF;rw[E']
 rw[E',ai'];clear E' ai';have aD:=λk (ak:k<b.length)=>OV (m:=m) ak;obtain⟨cU,cO,hO,lE,cv⟩:=uA;rw[eB]at cU cO;have ak:=λk (ak:k<b.length)=>fQ _ (WE ak);have hP:=λk (ak:k<b.length)=>cv ((dz m b).getD k []) (by
  have oj:k<(dz m b).length:=by rw[eB];exact ak
  rw[amq,ams oj];exact amk oj)
 obtain⟨d1,d2⟩:=E_ fQ;have aEo:∀ c:Nat,c<W->zv (dz m b) (c:Int) 1:=λc hc=>⟨by rw[eB];omega,⟨by decide,by rw[eB];omega⟩,by omega,λr D=>by have:=(cv r D).1;omega⟩
 have aEp:∀ (R:List (z1')) (c:Nat),(∀ r∈R,r.length=W/\r.all fb=true)->R.length<=9->c<W->pX.pre (gh (R.take (R.length - 1)) (c:Int)):=λR c fp ah hc=>⟨by show (gh _ _).length<65536;unfold gh;simp;omega,ai_ (λr D=>fp r (aP0 D)) hc⟩
 unfold aiC eZ e6 fT cB bD bf bQ dE cE;dsimp only;rw[e2 (np b.length) (λi (o:z1')=>(b,b,(b.length:Int),(i:Int),(0,0),o,[],m,())) (λv o=>.aw (if jY ((dz m b).getD v.toNat [])=true then o++[v] else o)) (λo=>.aw (b,(0,0),o,[],m,())) (λi o=>o.length<=i) [] ?_ ?_ ?_ ?_]
 ·rw[ec,HH,aN,cY];dsimp only;have a1:[]++List.filter (λv=>jY ((dz m b).getD v.toNat [])) (np b.length)=j9 (dz m b):=by unfold j9;rw[eB];rfl
  rw[a1,bc (by rw[cC];omega)];have aW:=ak 0 (by omega);have iW:=hP 0 (by omega);rw[aD 0 (by omega)]at iW;have z:(0:Int).toNat=0:=rfl;have iy:(1:Int).toNat=1:=rfl;have aEq:(b.getD (0:Int).toNat (0,0,0)).2.2=W:=by rw[z,aW.2.2,iW.1]
  rw[aEq];have Gi:=bs (n:=(b.length:Int) - 1);have L8:((b.length:Int) - 1).toNat=b.length - 1:=by omega
  have aja:=ak (b.length - 1) (by omega);have ajb:=hP (b.length - 1) (by omega);rw[aD _ (by omega)]at ajb;have ajc:=aja.2.2;rw[ajb.1]at ajc;have ajd:=aja.2.1;rw[e2 (np W) (λi (o:z1')=>(b,(W:Int),(i:Int),(0,0),j9 (dz m b),o,m,())) (λv o=>.aw (if k2 (dz m b) v.toNat=true then o++[v] else o)) (λo=>.aw (b,(0,0),j9 (dz m b),o,m,())) (λi o=>o.length<=i) [] ?_ ?_ ?_ ?_]
  ·rw[ec,HH,aN,cY];dsimp only;have ky:[]++List.filter (λv=>k2 (dz m b) v.toNat) (np W)=k3 W (dz m b):=rfl;rw[ky];have fq:(j9 (dz m b)).length<=9:=aPL (aiW _ _) (by rw[eB];exact cO);have gD:(k3 W (dz m b)).length<=62:=aPL (aiW _ _) lE;have Gp:=bs (n:=((j9 (dz m b)).length:Int)+((k3 W (dz m b)).length:Int));simp only[cC,dm,Gp];unfold k4;by_cases bG:(j9 (dz m b)).length+(k3 W (dz m b)).length=0
   ·rw[if_pos bG,if_pos (aP5 (by omega)),if_neg (by decide)]
   ·rw[if_neg bG,if_neg (by rw[aQg];omega)];by_cases c2:(j9 (dz m b)).length≠1\/(k3 W (dz m b)).length≠1
    ·rw[if_pos c2,if_pos (by rw[aPU,aQg,aQg];omega),if_neg (by decide)]
    ·rw[if_neg c2,if_neg (by rw[aPU,aQg,aQg];omega)];obtain⟨v1,aE⟩:=List.length_eq_one_iff.1 (show (j9 (dz m b)).length=1 by omega);obtain⟨ao,bz⟩:=List.length_eq_one_iff.1 (show (k3 W (dz m b)).length=1 by omega);obtain⟨i,G,rfl,bD⟩:=E8.1 (show v1∈j9 (dz m b) by rw[aE];simp);obtain⟨j,aK,rfl,pc⟩:=E9.1 (show ao∈k3 W (dz m b) by rw[bz];simp);rw[eB]at G;rw[aE,bz];have dt:List.getD [(i:Int)] 0 0=(i:Int):=rfl;have ei:List.getD [(j:Int)] 0 0=(j:Int):=rfl;have Cq:((i:Int)).toNat=i:=rfl;have WI:((j:Int)).toNat=j:=rfl;simp only[z,dt,ei,Cq,WI];have Cr:=ak i G;have qf:=hP i G;rw[aD i G]at qf;have Jp:=Cr.2.2;rw[qf.1]at Jp;have OX:=Cr.2.1;have u1:lA (cQ m (b.getD i (0,0,0)).1):=⟨by omega,by omega,qf.2⟩
     have j4:=Jn u1 (a:=(j:Int)) (by omega) (by omega);have q3:dz (eT m (b.getD i (0,0,0)).1 j (nR (cQ m (b.getD i (0,0,0)).1) (j:Int))) b=nS (dz m b) (i:Int) (j:Int):=by
      rw[WG mu G];unfold nS jw;rw[Cq,WI,aD i G]
     have aje:∀ h∈b,qL (eT m (b.getD i (0,0,0)).1 j (nR (cQ m (b.getD i (0,0,0)).1) (j:Int))) h:=λh dh=>ai8 (fQ h dh) _ _ _;have vq:eT (eT m (b.getD i (0,0,0)).1 j (nR (cQ m (b.getD i (0,0,0)).1) (j:Int))) (b.getD i (0,0,0)).1 j ((cQ m (b.getD i (0,0,0)).1).getD j 0)=m:=by rw[ai6,aEl fs]
     have ajf:(cQ (eT m (b.getD i (0,0,0)).1 j (nR (cQ m (b.getD i (0,0,0)).1) (j:Int))) (b.getD i (0,0,0)).1).length=W:=by rw[zB,aQx,qf.1]
     rw[bc ⟨aPP _,show (0:Int)<1 by decide⟩,bc ⟨aPP _,show (0:Int)<1 by decide⟩,bc ⟨by omega,by omega⟩,OX,bc ⟨by omega,by omega⟩,bc (by rw[qf.1,kE];omega),bc (show (Jb.sh ()).e3 from trivial)];have Kp:(Jb.sh ()).val []=kZ:=iE;rw[Kp];rw[show OU (kZ,((i:Int),(j:Int)),b.getD i (0,0,0),m,())=mpure (true,((i:Int),(j:Int)),b.getD i (0,0,0),eT m (b.getD i (0,0,0)).1 j (nR (cQ m (b.getD i (0,0,0)).1) (j:Int)),()) from bP (show WC (kZ,((i:Int),(j:Int)),b.getD i (0,0,0),m,()) from⟨rfl,Cr,u1,by show (0:Int)<=(j:Int);omega,by show (j:Int)<(((b.getD i (0,0,0)).2.2:Nat):Int);omega⟩) _,aN];dsimp only;have fm:(cQ (eT m (b.getD i (0,0,0)).1 j (nR (cQ m (b.getD i (0,0,0)).1) (j:Int))) (b.getD (b.length - 1) (0,0,0)).1)=(nS (dz m b) (i:Int) (j:Int)).getD (b.length - 1) []:=by rw[<-q3,OV (by omega)]
     have OY:∀ r∈nS (dz m b) (i:Int) (j:Int),r.length=W/\r.all fb=true:=λr D=>by
      unfold nS at D;rcases List.mem_or_eq_of_mem_set D with D | D
      ·exact cv r D
      ·rw[D,OR,Cq,aD i G];exact⟨qf.1,(zD u1 j4.1).2.2⟩
     have uN:(nS (dz m b) (i:Int) (j:Int)).length=b.length:=by unfold nS;rw[aQx,eB]
     obtain⟨P6,Ap⟩:=E_ aje;rw[q3]at Ap;generalize qo:eT m (b.getD i (0,0,0)).1 j (nR (cQ m (b.getD i (0,0,0)).1) (j:Int))=Q at q3 aje vq ajf fm P6 Ap ⊢;generalize aU:nS (dz m b) (i:Int) (j:Int)=T at q3 fm OY uN Ap ⊢;have aEr:=OY (T.getD (b.length - 1) []) (by
      have L:b.length - 1<T.length:=by rw[uN];omega
      rw[amq,ams L];exact amk L)
     have Jq:gx (.int .u8) Q (.ar (.slice (.cM (.int .u8))) (.ar (.int .i64) (.int .i64))) (b,(j:Int),(1:Int))=((T,(j:Int),(1:Int)):List (z1')×z12'):=by
      exact congrArg (λz:List (z1')=>(z,(j:Int),(1:Int))) Ap
     have IG:x5.g (T,(j:Int),1)=gh (T.take (T.length - 1)) (j:Int):=rfl;simp only[Jq,IG,Gi,L8,ajd,fm,WI];rw[bc (λ_=>⟨rfl,trivial,trivial⟩),bc (λ_=>⟨⟨rfl,trivial⟩,trivial,trivial⟩),bc (λ_=>⟨⟨rfl,rfl⟩,⟨by omega,by omega⟩,trivial⟩),bc (λ_=>⟨rfl,trivial,trivial⟩),bc (λ_=>⟨rfl,trivial,trivial⟩),bc (λ_=>⟨⟨rfl,rfl⟩,⟨by omega,by rw[ajc];omega⟩,trivial⟩),bc (λ_=>⟨rfl,by rw[aEr.1,kE];omega,trivial⟩),bc (λ_=>⟨rfl,trivial,trivial⟩),bc (λ_=>⟨⟨rfl,rfl,trivial⟩,⟨⟨P6,trivial,trivial⟩,show zv T (j:Int) 1 from⟨by rw[uN];omega,⟨by decide,by rw[uN];omega⟩,by omega,λr D=>by have:=(OY r D).1;omega⟩⟩,trivial⟩),bc (λ_=>⟨⟨rfl,trivial⟩,aEp T j OY (by omega) aK,trivial⟩),bc (λ_=>⟨⟨rfl,rfl⟩,trivial,trivial⟩),bc ⟨trivial,λ_=>rfl⟩];have Gj:(!true||decide ((T.getD (b.length - 1) []).getD (Add.add 0 j) 0≠pX.g (gh (T.take (T.length - 1)) (j:Int))))=k2 T j:=by
      unfold k2;rw[uN,kE,aQG];rfl
     erw [Gj];by_cases c3:k2 T j=true
     ·rw[if_pos c3,if_pos c3,if_neg (by decide),OX,bc ⟨by omega,by rw[Jp];omega⟩,bc (by rw[ajf,kE];omega)];have WJ:Add.add 0 j=j:=aQG j;rw[WJ,vq]
     ·rw[if_neg c3,if_neg c3];rw[if_pos rfl,<-qo,<-aD i G];rfl
  ·rfl
  ·exact amn _
  ·intro c hc o au;rw[Co]at hc;have hw:=bs (n:=(c:Int)+1);have ax:decide ((c:Int)<(W:Int))=true:=aP5 (by omega);have aEs:((c:Int)).toNat=c:=rfl;have Jq:gx (.int .u8) m (.ar (.slice (.cM (.int .u8))) (.ar (.int .i64) (.int .i64))) (b,(c:Int),(1:Int))=((dz m b,(c:Int),(1:Int)):List (z1')×z12'):=by
    exact congrArg (λz=>(z,(c:Int),(1:Int))) d2
   refine⟨?_,λf_ hR=>?_⟩
   ·simp only[Prod.fE,cC,Gi,L8,ajd,Jq,kE,aQG];rw[bc ⟨by omega,by omega⟩,bc ⟨by omega,by omega⟩,bc (by omega),bc ⟨⟨d1,trivial,trivial⟩,aEo c hc⟩,bc (by grind)];have c_:decide ((cQ m (b.getD (b.length - 1) (0,0,0)).1).getD c 0≠pX.g (gh ((dz m b).take ((dz m b).length - 1)) c))=k2 (dz m b) c:=by
     grind [k2]
    erw [c_];rw[Wv (by omega),aEs];cases k2 (dz m b) c with
    | true=>
     rw[if_pos rfl,bc (by grind [cb]),aN];simp_all
    | false=>
     simp_all
   grind
  simp_all[Co]
 ·rfl
 ·simp
 ·intro i G o au;rw[Co]at G;have hw:=bs (n:=i+1);have zG:((i:Int)).toNat=i:=rfl;have z:(0:Int).toNat=0:=rfl;have Cr:=ak i G;have qf:=hP i G;rw[aD i G]at qf;have Jp:=Cr.2.2;rw[qf.1]at Jp;have OX:=Cr.2.1;have aEt:=bs (n:=W - 1);have aEu:((W:Int) - 1).toNat=W - 1:=by omega
  obtain⟨t1,bX⟩:=ai7 Cr (k:=W - 1) (by omega);refine⟨?_,λf_ hR=>?_⟩
  ·simp only[Prod.h1,cC,zG,z,OX,Jp,aEt,aEu,kE,aQG,Nat.sub_zero,bX];rw[bc ⟨by omega,by omega⟩,bc ⟨by omega,by omega⟩,bc (by omega),bc ⟨aPP _,by omega,by omega⟩,bc ⟨t1,⟨by grind,ai4 qf.2 _⟩⟩];have c_:decide ((cQ m (b.getD i (0,0,0)).1).getD (W - 1) 0≠pX.g ((cQ m (b.getD i (0,0,0)).1).take (W - 1)))=jY ((dz m b).getD i []):=by
    grind [jY]
   rw[c_,Wv (by omega),zG];cases jY ((dz m b).getD i []) with
   | true=>
    rw[if_pos rfl,bc (by grind [cb]),aN];simp_all
   | false=>
    simp_all
  grind
 simp_all[Co]
def oA:List UInt8->Option (List UInt8×List UInt8)
 | []=>none
 | b::l=>if b=10/\l.head?=some 10 then some ([],l.drop 1) else match oA l with
  | none=>none
  | some p=>some (b::p.1,p.2)
def jx:List UInt8->z2'
 | []=>[[]]
 | b::l=>if b=10 then []::jx l else match jx l with
  | []=>[[b]]
  | x::xs=>(b::x)::xs
theorem OZ:∀ (t:List UInt8),jx t≠[]
 | []=>by simp[jx]
 | b::l=>by
  grind [jx]
theorem WK(l:List UInt8):jx (10::l)=[]::jx l:=by
 rfl
theorem Jr{b:UInt8}(U:b≠10)(l:List UInt8):∃ x xs,jx l=x::xs/\jx (b::l)=(b::x)::xs:=by
 grind [jx,OZ]
theorem ajg:∀ (t:List UInt8),(jx t).length<=t.length+1/\∀ x∈jx t,x.length<=t.length
 | []=>by simp[jx]
 | b::l=>by
  obtain⟨E,L⟩:=ajg l;grind [jx]
theorem WL:∀ (f t r:List UInt8),oA f=some (t,r)->f=t++10::10::r/\∀ x∈(jx t).tail,x≠[]
 | [],t,r,h=>by simp[oA]at h
 | b::l,t,r,h=>by
  unfold oA at h;by_cases hc:b=10/\l.head?=some 10
  ·cases l with
   | nil=>grind
   | cons c l=>
    grind [jx]
  ·rw[if_neg hc]at h;cases bB:oA l with
   | none=>grind
   | some p=>
    obtain⟨dM,jM⟩:=p;rw[bB]at h;obtain⟨rfl,rfl⟩:=h;obtain⟨e,aH⟩:=WL l dM jM bB;by_cases U:b=10
    ·subst U;rw[WK];have ah:=λk=>hc ⟨rfl,k⟩;cases dM with
     | nil=>grind
     | cons c aEv=>
      have aEw:c≠10:=λk=>ah (by grind);obtain⟨x,xs,aE,bz⟩:=Jr aEw aEv;grind
    ·obtain⟨x,xs,aE,bz⟩:=Jr U dM;grind
theorem ajh:∀ (f:List UInt8),oA f=none->(∀ l,f=10::l->l.head?≠some 10)/\∀ b l,f=b::l->oA l=none
 | [],_=>⟨λl h=>(by grind),λb l h=>(by grind)⟩
 | b::l,h=>by
  grind [oA]
theorem x8(b:UInt8)(f:List UInt8)(s:zA):l0 (b::f) s=match Cn b s with | .aw s'=>l0 f s' | .aV r=>r:=by grind [l0,fa]
theorem O0{b:UInt8}(h:b≠10)(s:zA):Cn b s=.aw (s.1++[b],s.2.1,s.2.2):=if_pos h
theorem O1{s:zA}(h:s.1≠[]):Cn 10 s=.aw ([],s.2.1,s.2.2++[s.1]):=by
 grind [Cn]
theorem aji(O ab:List _):Cn 10 (([],O,ab):zA)=if o9 ab=true then .aw ([],O++[ab],[]) else .aV (.aV (false,[],())):=by
 rfl
theorem WM(O:List (z2')):∀ (f cur:List UInt8) (ab:z2'),oA f=none->(cur=[]->ab≠[]/\f.head?≠some 10)->(wA (l0 f (cur,O,ab))).1=false
 | [],cur,ab,_,hc=>by
  show (decide (cur=[])&&decide (ab.length=0))=false;grind
 | b::f,cur,ab,aC,hc=>by
  obtain⟨E,Fa⟩:=ajh _ aC;have L:=Fa b f rfl;rw[x8];by_cases U:b=10
  ·subst U;have aEx:=λk=>(hc k).2 rfl;rw[O1 aEx];exact WM O f [] (ab++[cur]) L λ_=>⟨by simp,E f rfl⟩
  ·rw[O0 U];exact WM O f (cur++[b]) ab L λk=>by simp at k
variable {O:List (z2')}
theorem aEy{f:List UInt8}(aW:f≠[])(h:oA f=none):(wA (l0 f ([],O,[]))).1=false:=by
 cases f with
 | nil=>grind
 | cons b f=>
  rw[x8];by_cases U:b=10
  ·subst U;rfl
  grind [O0,WM,ajh]
def wF(cur t:List UInt8):z2':=match jx t with
 | []=>[cur]
 | x::xs=>(cur++x)::xs
theorem O2(t:List UInt8):wF [] t=jx t:=by
 grind [wF,OZ]
theorem WN(O:List (z2'))(b8:List UInt8):∀ (t cur:List UInt8) (ab:z2'),(∀ x∈wF cur t,x≠[])->l0 (t++10::b8) (cur,O,ab)=l0 b8 ([],O,ab++wF cur t)
 | [],cur,ab,h=>by
  grind [wF,jx,x8,O1]
 | b::t,cur,ab,h=>by
  show l0 (b::(t++10::b8)) (cur,O,ab)=_;rw[x8];by_cases U:b=10
  ·subst U;have e:wF cur (10::t)=cur::jx t:=by grind [wF,WK]
   rw[e]at h ⊢;rw[O1 (h cur (by simp))];have aP:=WN O b8 t [] (ab++[cur]) (by grind [O2]);grind [O2]
  ·obtain⟨x,xs,aE,bz⟩:=Jr U t;have e:wF cur (b::t)=wF (cur++[b]) t:=by grind [wF]
   rw[e]at h ⊢;rw[O0 U];exact WN O b8 t (cur++[b]) ab h
variable {r:List UInt8}{t:List UInt8}
theorem aEz{f:List UInt8}(h:oA f=some (t,r)):wA (l0 f ([],O,[]))=if o9 (jx t)=true then wA (l0 r ([],O++[jx t],[])) else (false,[]):=by
 obtain⟨e,aH⟩:=WL f t r h;cases ah:jx t with
 | nil=>grind [OZ]
 | cons x xs=>
  by_cases al:x=[]
  ·subst al;have U:o9 ([]::xs)=false:=by
    grind [o9,Jl]
   rw[U,e];have Pw:∃ g,t++10::10::r=10::g:=by
    cases t with
    | nil=>simp
    | cons b t=>
     by_cases U:b=10
     ·grind
     ·obtain⟨y,bq,aE,bz⟩:=Jr U t;grind
   obtain⟨g,aD⟩:=Pw;rw[aD,x8];rfl
  ·rw[e,WN O (10::r) t [] [] (by
    grind [O2]),O2,ah,x8,aQk,aji]
   by_cases U:o9 (x::xs)=true
   ·grind
   ·rw[if_neg U,if_neg U];rfl
theorem ajj{n:Nat}:Jl n r=true<->r.length≠n\/r.length<2\/r.length > 62\/r.all fW=false:=by
 grind [Jl]
theorem aEA{ab:z2'}(h:ab≠[]):(decide (ab.length<2)||decide (ab.length > 9)||decide ((ab.getD 0 []).length<2)||decide ((ab.getD 0 []).length > 62)||ab.any λr=>decide (r.length≠(ab.getD 0 []).length)||!r.all fW)=!o9 ab:=by
 have hm:ab.getD 0 []∈ab:=by grind
 grind [o9,ajj]
structure kK(m:h4)(a_:List (List ml))(O:List (z2')):Prop where
 ko:(m.map (·.1)).Nodup
 ok:∀ b∈a_,∀ h∈b,qL m h
 ids:(a_.flatten.map (·.1)).Nodup
 zH:a_.map (dz m)=O.map (List.map de)
structure sy(m0 m:h4)(a_:List (List ml)):Prop where
 q0:∀ id∈m0.map (·.1),cQ m id=cQ m0 id/\id∈m.map (·.1)
 fo:∀ id∈a_.flatten.map (·.1),id ∉ m0.map (·.1)
theorem O3:m.any (λp=>p.1 == id)=true<->id∈m.map (·.1):=by
 simp
variable {r:z1'}
theorem WO{j:Nat}(h:j≠id):cQ ((id,r)::m) j=cQ m j:=by
 grind [cQ]
theorem ajk:cQ ((id,r)::m) id=r:=by
 unfold cQ;simp
theorem qL.key(k:qL m h):h.1∈m.map (·.1):=O3.1 k.1
theorem kK.start{a_ O}(h:kK m a_ O):kK m (a_++[[]]) (O++[[]]) where
 ko:=h.ko
 ok:=λb U k ak=>by
  rcases List.mem_append.1 U with U | U
  ·exact h.ok b U k ak
  grind
 ids:=by simpa using h.ids
 zH:=by rw[aP7,aP7,h.zH];rfl
theorem ajl(h:∀ k∈b,qL m k)(aC:id ∉ m.map (·.1)):dz ((id,r)::m) b=dz m b:=by
 refine aPN λk ak=>WO λe=>aC ?_;rw[<-e];exact (h k ak).key
theorem ajm{k:ml}(h:qL m k)(aC:id ∉ m.map (·.1)):qL ((id,r)::m) k:=by
 obtain⟨E,L,an⟩:=h;refine⟨O3.2 (amr _ (O3.1 E)),L,?_⟩;grind [WO]
variable {ag:Type}
theorem ajn(a_:List (List ag))(b:List ag)(x:ag):(a_++[b++[x]]).flatten=(a_++[b]).flatten++[x]:=by simp
theorem kK.push{a_ b O ab}(h:kK m (a_++[b]) (O++[ab]))(aC:id ∉ m.map (·.1))(t:List UInt8) :
  kK ((id,de t)::m) (a_++[b++[(id,0,t.length)]]) (O++[ab++[t]]) where
 ko:=by
  rw[aQb,List.nodup_cons];exact⟨aC,h.ko⟩
 ok:=λc hc k ak=>by
  rcases List.mem_append.1 hc with hc | hc
  ·exact ajm (h.ok c (aQQ _ hc) k ak) aC
  ·rw[aQN]at hc;subst hc;rcases List.mem_append.1 ak with ak | ak
   ·exact ajm (h.ok b (by simp) k ak) aC
   ·rw[aQN]at ak;subst ak;exact⟨O3.2 (by simp),rfl,by rw[ajk,o8]⟩
 ids:=by
  rw[ajn,aP7,List.nodup_append];refine⟨h.ids,by simp,λa aY c hc=>?_⟩;rw[aQb,List.map_nil,aQN]at hc;subst hc;intro e;subst e;obtain⟨k,ak,e⟩:=List.mem_map.1 aY;obtain⟨c,hc,WQ⟩:=List.mem_flatten.1 ak;exact aC (by rw[<-e];exact (h.ok c hc k WQ).key)
 zH:=by
  have ax:=h.zH;rw[aP7,aP7]at ax;have ah:(a_.map (dz m)).length=(O.map (List.map de)).length:=by
   have:=congrArg List.length ax;simpa using this
  obtain⟨d1,d2⟩:=List.append_inj ax ah;rw[aP7,aP7,<-d1];congr 1
  ·exact aPN λc hc=>ajl (λk ak=>h.ok c (aQQ _ hc) k ak) aC
  ·simp only[aQb,List.map_nil,List.cons.injEq,aRe]at d2 ⊢;rw[aP7,<-d2];have e:dz ((id,de t)::m) (b++[(id,0,t.length)])=dz ((id,de t)::m) b++[cQ ((id,de t)::m) id]:=by unfold dz;rw[aP7];rfl
   rw[e,ajk,ajl (λk ak=>h.ok b (by simp) k ak) aC];rfl
variable {m0:h4}
theorem sy.start{a_}(h:sy m0 m a_):sy m0 m (a_++[[]]):=⟨h.q0,by simpa using h.fo⟩
theorem sy.push{a_ b}(h:sy m0 m (a_++[b]))(aC:id ∉ m.map (·.1))(r:z1')(n:Nat):sy m0 ((id,r)::m) (a_++[b++[(id,0,n)]]) where
 q0:=λj aK=>by
  obtain⟨E,L⟩:=h.q0 j aK;grind [WO]
 fo:=λj aK=>by
  rw[ajn,aP7]at aK;rcases List.mem_append.1 aK with aK | aK
  ·exact h.fo j aK
  ·rw[aQb,List.map_nil,aQN]at aK;subst aK;exact λk=>aC (h.q0 _ k).2
theorem sy.drop{a_}(h:sy m0 m a_):sy m0 m []:=⟨h.q0,by simp⟩
theorem kK.drop{a_ O}(h:kK m a_ O):kK m [] []:=⟨h.ko,by simp,by simp,rfl⟩
theorem aEB(l:List Nat):∃ id,¬List.Mem id l:=by
 refine⟨l.foldl (λa b=>max a b) 0+1,λh=>?_⟩;have key:∀ (l:List Nat) (n:Nat),n<=l.foldl (λa b=>max a b) n/\∀ x∈l,x<=l.foldl (λa b=>max a b) n:=by
  intro l;induction l<;>grind
 have:=(key l 0).2 _ h;omega
theorem aEC{q p:ag->Prop}:c' (mN q) p<->(∃ x,q x)/\∀ x,q x->p x:=Iff.rfl
abbrev O4:aO:=⟨.ar .str .str,.ar .str (.ar .str .bool),λx=>x.2=[10,10]/\List.length x.1<4294967281,λx=>match oA x.1 with | some p=>(p.1,p.2,true) | none=>(x.1,[],false)⟩
abbrev O5:aO:=⟨.ar .str .str,.slice .str,λx=>x.2=[10]/\List.length x.1<4294967281,λx=>jx x.1⟩
def O6(r:z1')(w:Option Int):Bool:=decide ((r.length:Int)≠w.getD 0)||!(ff r).all fW
abbrev wG:aO:=⟨.ar (.slice (.int .u8)) (.bO (.int .i64)),.bool,λx=>∃ w,x.2=some w,λx=>O6 x.1 x.2⟩
theorem aED(x):a8 (aio OF.sh x) (wG.sh x):=bx λ_=>by
 grind [aio,O6,aO.sh,sE,oe,aN]
abbrev ajo:Type:=List UInt8×h4×Unit
abbrev ajp:Type:=Bool×List (List ml)×h4×Unit
def ajq(x:ajo)(y:ajp):Prop:=y.1=(k1 x.1).1/\kK y.2.2.1 y.2.1 (if (k1 x.1).1=true then (k1 x.1).2 else [])/\sy x.2.1 y.2.2.1 y.2.1
def WR(x:ajo):M ajp:=⟨x.1.length<65536/\(x.2.1.map (·.1)).Nodup,ajq x⟩
theorem aEE(x):a8 (aiz O4.sh O5.sh (h3 (.slice (.int .u8))).pre (h3 (.slice (.int .u8))).g wG.sh x) (WR x):=λh=>by
 obtain⟨f,m0,u⟩:=x;obtain⟨E,L⟩:=h;change f.length<65536 at E;change (m0.map (·.1)).Nodup at L;show c' _ (ajq (f,m0,u));unfold aiz;dsimp only;rw[fN];refine zV (λs=>∃ O,kK s.2.2.1 s.2.1 O/\sy m0 s.2.2.1 s.2.1/\wA (l0 s.1 ([],O,[]))=k1 f/\s.2.1.length+s.1.length<=f.length) (λs=>s.1.length) ?_ _ ?_
 ·rintro⟨file,a_,m,u⟩ ⟨O,dt,ei,j2,g4⟩;change kK m a_ O at dt;change sy m0 m a_ at ei;change wA (l0 file ([],O,[]))=k1 f at j2;change a_.length+file.length<=f.length at g4;dsimp only;by_cases ay:file=[]
  ·subst ay;rw[if_neg (by simp),aN];refine dO.2 ?_;show c' (mpure (true,a_,m,())) _;refine dO.2 ?_;have e:k1 f=(true,O):=j2.symm;refine⟨by rw[e],?_,ei⟩;show kK m a_ (if (k1 f).1=true then (k1 f).2 else []);rw[e];exact dt
  ·rw[if_pos (aP5 ay),show O4.sh (file,[10,10])=mpure (match oA file with | some p=>(p.1,p.2,true) | none=>(file,[],false)) from bP (show ([10,10]:List UInt8)=[10,10]/\file.length<4294967281 from⟨rfl,by omega⟩) _,aN];cases hc:oA file with
   | none=>
    have U:(k1 f).1=false:=by grind [aEy]
    rw[aN,aN];refine dO.2 ?_;refine dO.2 ⟨U.symm,?_,ei.drop⟩;rw[U];exact dt.drop
   | some p=>
    obtain⟨t,r⟩:=p;have Fb:=aEz (O:=O) hc;rw[j2]at Fb;obtain⟨aPg,_⟩:=WL _ _ _ hc;have gU:file.length=t.length+2+r.length:=by grind
    obtain⟨fq,gD⟩:=ajg t;have eM:=OZ t;dsimp only;rw[if_neg (by decide),show O5.sh (t,[10])=mpure (jx t) from bP (show ([10]:List UInt8)=[10]/\t.length<4294967281 from⟨rfl,by omega⟩) _,aN];generalize kn:jx t=ab at Fb fq gD eM;rw[fN];refine ai2 ab.length (λi s=>s.1=r/\s.2.1=ab/\s.2.2.1=ab.length/\s.2.2.2.1=i/\s.2.2.2.2.1=a_/\s.2.2.2.2.2.1.length=i/\kK s.2.2.2.2.2.2.1 (a_++[s.2.2.2.2.2.1]) (O++[ab.take i])/\sy m0 s.2.2.2.2.2.2.1 (a_++[s.2.2.2.2.2.1])) ⟨rfl,rfl,rfl,rfl,rfl,rfl,dt.start,ei.start⟩ ?_ ?_
    ·rintro i G ⟨s1,s2,fh,mZ,mJ,b,dw,n8⟩ ⟨aE,bz,c_,bV,ey,mq,aM,aT⟩;change s2=ab at bz;subst aE bz c_ bV ey;have hw:=bs (n:=i+1);simp only[cC,dQ G,if_true,dK G,cp,dm,hw];rw[fN,h5];refine⟨by grind [cb],aEC.2 ⟨aEB _,λid hid=>?_⟩⟩;rw[h5];refine⟨by grind [cb],dO.2 ?_⟩;refine⟨rfl,rfl,rfl,?_,rfl,by grind,?_,aT.push hid _ _⟩
     ·rfl
     ·have:=aM.push hid s2[i];simp_all
    ·rintro⟨s1,s2,fh,mZ,mJ,b,dw,n8⟩ ⟨aE,bz,c_,bV,ey,mq,aM,aT⟩;change s2=ab at bz;change b.length=ab.length at mq;subst aE bz c_ bV ey;rw[if_neg (by simp),aN];refine dO.2 ?_;show c' (ae _ _) _;simp only[Prod.cv,cC];have aPh:=List.length_pos_iff.2 eM;have vo:0<b.length:=by omega
     have aEF:dz dw b=s2.map de:=by
      have ax:=aM.zH;simp_all
     have b6:=λk ak=>aM.ok b (by simp) k ak;obtain⟨d1,d2⟩:=E_ b6;have xy:((b.getD 0 (0,0,0)).2.2)=(s2.getD 0 []).length:=by
      rw[(b6 _ (WE vo)).2.2,<-OV vo];grind [o8]
     have z:(0:Int).toNat=0:=rfl;have Fc:=aEA eM;generalize hw:(s2.getD 0 []).length=w at xy Fc;have bG:decide ((b.length:Int)<2)=decide (s2.length<2):=decide_eq_decide.2 (by omega);have c2:decide ((b.length:Int) > 9)=decide (s2.length > 9):=decide_eq_decide.2 (by omega);have c3:decide ((w:Int)<2)=decide (w<2):=decide_eq_decide.2 (by omega);have c4:decide ((w:Int) > 62)=decide (w > 62):=decide_eq_decide.2 (by omega);have aEG:∀ y,wG.sh (y,some (w))=mpure (O6 y (some (w))):=λy=>bP ⟨_,rfl⟩ _;have Jq:gx (.int .u8) dw (.ar (.slice (.cM (.int .u8))) (.fn (.slice (.int .u8)) .bool)) (b,λx=>wG.sh (x,some (w)))=((s2.map de,λx=>wG.sh (x,some (w)))):=by
      rw[<-aEF];exact congrArg (λz=>((z,λx=>wG.sh (x,some (w))))) d2
     have ux:((s2.map de).any λy=>(wG.sh (y,some (w))).val false)=s2.any λr=>decide (r.length≠w)||!r.all fW:=by
      grind [List.any_map,kF,O6,Cl,o8]
     simp only[z,xy,bG,c2,c3,c4];erw [Jq];erw [ux];rw[h5];refine⟨⟨aPP _,by omega⟩,?_⟩;rw[h5];refine⟨λe=>⟨⟨e,e,trivial⟩,⟨⟨d1,trivial⟩,⟨by grind,λy _=>⟨_,aEG y⟩⟩⟩,trivial⟩,?_⟩;rw[Fc];cases a1:o9 s2 with
     | false=>
      rw[a1]at Fb;rw[aN,aN];refine dO.2 ?_;refine dO.2 ⟨?_,?_,aT.drop⟩
      ·grind
      ·rw[Fb];exact aM.drop
     | true=>
      grind [h5,cb,dO]
 ·exact⟨[],⟨L,by simp,by simp,rfl⟩,⟨λid hid=>⟨rfl,hid⟩,by simp⟩,rfl,by simp⟩
abbrev gH(l:z2'):List (z1'):=l.map de
theorem aEH(r:List UInt8)(k:Nat):de (r.take k)=(de r).take k:=by simp_all[de]
variable {l:z2'}
theorem gr.nQ{W:Nat}(h:gr W l):p0 W (gH l):=by
 obtain⟨E,L,an,a6,bS⟩:=h;refine⟨by grind,by grind,an,a6,λr D=>?_⟩;grind [o8,zz]
theorem WS:(gH l).getD k []=de (l.getD k []):=by
 rw[amq,amq,aQV];cases l[k]?<;>rfl
def j_(l:z2'):z15':=k4 (fX l) (gH l)
def u2(R:List (z1')):List (z1'):=if (k4 (wC R) R).1=1 then nS R (k4 (wC R) R).2.1 (k4 (wC R) R).2.2 else R
def je(l:z2'):z2':=(u2 (gH l)).map ff
theorem O7(W:Nat)(R:List (z1')) :
  (k4 W R=(0,0,0)/\(j9 R).length+(k3 W R).length=0)\/
  (k4 W R=(2,0,0)/\(j9 R).length+(k3 W R).length≠0)\/
  (∃ i j:Nat,k4 W R=(1,(i:Int),(j:Int))/\i<R.length/\j<W/\j9 R=[(i:Int)]/\k3 W R=[(j:Int)]/\k2 (nS R (i:Int) (j:Int)) j=false):=by
 unfold k4;by_cases bG:(j9 R).length+(k3 W R).length=0
 ·grind
 ·by_cases c2:(j9 R).length≠1\/(k3 W R).length≠1
  ·grind
  ·obtain⟨v1,aE⟩:=List.length_eq_one_iff.1 (show (j9 R).length=1 by omega);obtain⟨ao,bz⟩:=List.length_eq_one_iff.1 (show (k3 W R).length=1 by omega);obtain⟨i,G,rfl,bD⟩:=E8.1 (show v1∈j9 R by grind);obtain⟨j,aK,rfl,pc⟩:=E9.1 (show ao∈k3 W R by grind);grind
theorem zI(h:k<R.length):R.getD k []∈R:=by
 grind
theorem aEI{W:Nat}(h:p0 W R){j:Nat}(G:i<R.length)(aK:j<W):p0 W (nS R (i:Int) (j:Int)):=by
 obtain⟨E,L,an,a6,bS⟩:=h;have D:=bS _ (zI G);have u1:lA (R.getD i []):=⟨by omega,by omega,D.2⟩
 have j4:=Jn u1 (a:=j) (by omega) (by omega);unfold nS;refine⟨by grind,by grind,an,a6,λr bk=>?_⟩;rcases List.mem_or_eq_of_mem_set bk with h | h
 ·grind
 ·rw[h,OR];exact⟨D.1,(zD u1 j4.1).2.2⟩
theorem ajr{W:Nat}(h:p0 W R):p0 W (u2 R):=by
 have hw:=h.wide;grind [u2,O7,aEI]
theorem ajs{W:Nat}(h:p0 W R):gH (R.map ff)=R:=by
 have:R.map (de ∘ ff)=R.map id:=aPN λr D=>Wm λv af=>by
  have:=oy.1 (List.all_eq_true.1 (h.2.2.2.2 r D).2 v af);omega
 simp_all
theorem ajt{W:Nat}(h:p0 W (gH l)):gr W l:=by
 obtain⟨E,L,an,a6,bS⟩:=h;rw[aPW]at E L;refine⟨E,L,an,a6,λr D=>?_⟩;grind [List.mem_map_of_mem,o8,zz]
theorem gr.wide{W:Nat}(h:gr W l):fX l=W:=by
 have aW:0<l.length:=by have:=h.1;omega
 unfold fX;rw[amq,ams aW];exact (h.2.2.2.2 _ (amk aW)).1
theorem WT{W:Nat}(h:gr W l):gH (je l)=u2 (gH l):=ajs (ajr h.nQ)
theorem aju{W:Nat}(h:gr W l):gr W (je l):=ajt (by rw[WT h];exact ajr h.nQ)
theorem WU(l:z2'):(gH l).map ff=l:=by
 have:l.map (ff ∘ de)=l.map id:=aPN λr _=>Cl r;simp_all
theorem aEJ(h:(k4 (wC (gH l)) (gH l)).1≠1):je l=l:=by
 grind [je,u2,WU]
theorem WV{a_:List (List ml)}(h:i<a_.length):a_.getD i []∈a_:=by
 grind
theorem kK.fB{m a_ O}(h:kK m a_ O)(G:i<a_.length):dz m (a_.getD i [])=gH (O.getD i []):=by
 have ax:=congrArg (λl=>l.getD i []) h.zH;grind
theorem kK.len{m a_ O}(h:kK m a_ O):a_.length=O.length:=by have:=congrArg List.length h.zH;grind
theorem aEK{a_:List (List ml)}:∀ (_:(a_.flatten.map (·.1)).Nodup),(∀ b∈a_,(b.map (·.1)).Nodup)/\∀ i j,i<a_.length->j<a_.length->i≠j->∀ id∈(a_.getD i []).map (·.1),id ∉ (a_.getD j []).map (·.1):=by
 induction a_ with
 | nil=>simp
 | cons b a_ aP=>
  intro h;rw[aRi,aP7,List.nodup_append]at h;obtain⟨E,L,an⟩:=h;obtain⟨aM,aT⟩:=aP L;refine⟨λc hc=>?_,λi j G aK AF id hid=>?_⟩
  ·grind
  ·cases i with
   | zero=>
    grind
   | succ i=>
    cases j with
    | zero=>grind
    | succ j=>exact aT i j (by grind) (by grind) (by omega) id hid
theorem kK.fv{m a_ O}(h:kK m a_ O){W:Nat}(G:i<a_.length)(az:gr W (O.getD i [])) :
  WH (a_.getD i [],m,())/\wD (a_.getD i [],m,())=j_ (O.getD i [])/\kK (zF (a_.getD i [],m,())) a_ (O.set i (je (O.getD i [])))/\∀ id,id ∉ (a_.getD i []).map (·.1)->cQ (zF (a_.getD i [],m,())) id=cQ m id:=by
 have hP:=h.fB G;have aEL:=az.nQ;have aEM:=aEL.wide;have aPi:=az.wide;obtain⟨f1,f2⟩:=aEK h.ids;have U:=WV G;have yp:=h.len;have E':wD (a_.getD i [],m,())=j_ (O.getD i []):=by
  show k4 (wC (dz m (a_.getD i []))) (dz m (a_.getD i []))=k4 (fX (O.getD i [])) (gH (O.getD i []));grind
 have hQ:WH (a_.getD i [],m,()):=⟨h.ko,h.ok _ U,f1 _ U,W,by grind⟩
 have j4:u2 (gH (O.getD i []))=if (j_ (O.getD i [])).1=1 then nS (gH (O.getD i [])) (j_ (O.getD i [])).2.1 (j_ (O.getD i [])).2.2 else gH (O.getD i []):=by
  grind [u2,j_]
 have key:∀ dw,(dw.map (·.1)).Nodup->(∀ b∈a_,∀ k∈b,qL dw k)->dz dw (a_.getD i [])=u2 (gH (O.getD i []))->(∀ j,j<a_.length->j≠i->dz dw (a_.getD j [])=dz m (a_.getD j []))->kK dw a_ (O.set i (je (O.getD i []))):=λdw eA eG lk n4=>by
  refine⟨eA,eG,h.ids,?_⟩;refine aRa (by grind) λj E L=>?_;have aK:j<a_.length:=by grind
  have C6:a_[j]=a_.getD j []:=by grind
  have aEN:O[j]=O.getD j []:=by grind
  rw[aQr,aQr,List.getElem_set,C6];by_cases e:i=j
  ·grind [WT]
  ·rw[if_neg e,aEN,n4 j aK λk=>e k.symm,h.fB aK]
 refine⟨hQ,E',?_⟩;unfold zF;rw[E'];unfold j_ at j4 ⊢;rcases O7 (fX (O.getD i [])) (gH (O.getD i [])) with⟨e,_⟩ | ⟨e,_⟩ | ⟨r,a,e,D,aY,_,_,_⟩
 ·rw[e]at j4 ⊢;exact⟨key m h.ko h.ok (by grind) λj _ _=>rfl,λ_ _=>rfl⟩
 ·rw[e]at j4 ⊢;exact⟨key m h.ko h.ok (by grind) λj _ _=>rfl,λ_ _=>rfl⟩
 ·rw[e]at j4 ⊢;rw[if_pos rfl]at j4 ⊢;have eB:r<(a_.getD i []).length:=by grind [WD]
  refine⟨key _ (by rw[ai0];exact h.ko) (λb U k ak=>ai8 (h.ok b U k ak) _ _ _) ?_ ?_,?_⟩
  ·grind [WG,nS,jw]
  ·grind [ai9]
  grind [Jm]
theorem ajv(O:List (z2'))(b8:List UInt8):∀ (r cur:List UInt8) (ab:z2'),r.all fW=true->cur++r≠[]->l0 (r++10::b8) (cur,O,ab)=l0 b8 ([],O,ab++[cur++r])
 | [],cur,ab,_,h=>by
  grind [x8,O1]
 | b::r,cur,ab,aY,h=>by
  simp only[aQn,amm]at aY;have U:b≠10:=λe=>by rw[e]at aY;exact absurd aY.1 (by decide)
  rw[List.cons_append,x8,O0 U];have:=ajv O b8 r (cur++[b]) ab aY.2 (by simp);grind
theorem ajw(O:List (z2'))(b8:List UInt8):∀ (l ab:z2'),(∀ r∈l,r≠[]/\r.all fW=true)->l0 (kq l++b8) ([],O,ab)=l0 b8 ([],O,ab++l)
 | [],ab,_=>by simp[kq]
 | r::l,ab,h=>by
  obtain⟨E,L⟩:=h r (by simp);have aP:=ajw O b8 l (ab++[r]) λr D=>h r (amr _ D);grind [kq,ajv]
theorem aEO{W:Nat}(h:gr W l):o9 l=true:=by
 obtain⟨E,L,an,a6,bS⟩:=h;grind [o9,ajj]
theorem aEP{W:Nat}(h:gr W l)(O:List (z2'))(b8:List UInt8):l0 (eI l++b8) ([],O,[])=l0 b8 ([],O++[l],[]):=by
 have e:eI l++b8=kq l++10::b8:=by unfold eI;simp
 rw[e,ajw O (10::b8) l [] λr D=>⟨λk=>by have:=(h.2.2.2.2 r D).1;have:=h.2.2.1;grind,(h.2.2.2.2 r D).2⟩,aQk,x8,aji,if_pos (aEO h)]
theorem ajx:∀ (B O:List (z2')),(∀ l∈B,gr (fX l) l)->wA (l0 (B.flatMap eI) ([],O,[]))=(true,O++B)
 | [],O,_=>by
  rw[aPT];rfl
 | l::B,O,h=>by
  rw[aQf,aEP (h l (by simp)),ajx B (O++[l]) λet ah=>h et (amr _ ah)];simp
theorem WW{B:List (z2')}(h:∀ l∈B,gr (fX l) l):k1 (B.flatMap eI)=(true,B):=by
 have:=ajx B [] h;exact this
theorem ajy{w:Nat}(h:t.length<=w)(aPj:w<=60):sx (sw w t)=some t:=by
 have ah:(sw w t).length=w+2:=by grind [sw,Cm]
 have aW:(sw w t).getD 0 0=I' t.length:=by rfl
 have aC:=Wp (n:=t.length) (by omega) (by omega);unfold sx;rw[aW,if_neg (by omega)];have e:(1+((t.length:Int)+32 - 32)).toNat=1+t.length:=by omega
 grind [sw,Cm]
variable {x:z2'}
theorem ajz(h:∀ t∈x,gF t)(E:1<=x.length)(k6:x.length<=8):gr (fy x+2) (hT x):=by
 have hw:=Jg h;have ah:=aD7 x;exact⟨by omega,by omega,by omega,by omega,λr D=>aD6 h r D⟩
theorem ajA(x:z2'):(hT x).take ((hT x).length - 1)=x.map (sw (fy x)):=by
 grind [hT,List.take_left]
theorem Js(l:z2'):k0 l=((gG l).map hT).flatMap eI:=by
 grind [k0,List.flatMap_map]
theorem Jt(h:∀ t∈l,gF t):∀ b∈(gG l).map hT,gr (fX b) b:=λb U=>by
 obtain⟨c,hc,rfl⟩:=List.mem_map.1 U;obtain⟨bG,c2,c3⟩:=Jk h c hc;have:=ajz c3 c2 bG;rw[this.wide];omega
theorem aEQ(h:∀ t∈l,gF t):k1 (k0 l)=(true,(gG l).map hT):=by
 grind [Js,WW,Jt]
theorem ajB{ag:Type}:∀ (f:Nat) (l:List ag),l.length<=f->(uZ f l).flatten=l
 | 0,l,h=>by
  have:l=[]:=aP6 (by omega);subst this;rfl
 | f+1,[],_=>rfl
 | f+1,t::l,h=>by
  unfold uZ;rw[aRi,ajB f _ (by grind),aQ1]
theorem aER(l:List ag):(gG l).flatten=l:=ajB _ _ (amn _)
theorem WX(h:∀ t∈x,gF t):∀ t∈x,t.length<=fy x:=(E3 x 0 (λt aH=>(h t aH).1) (by omega)).2.2
theorem ajC:∀ (l:z2') (ts o:z2'),l.map sx=ts.map some->tH l o=some (o++ts)
 | [],ts,o,h=>by
  simp_all[tH]
 | r::l,[],o,h=>by grind
 | r::l,t::ts,o,h=>by
  simp  at h;unfold tH;rw[h.1];dsimp only;rw[ajC l ts (o++[t]) h.2];simp
theorem aES(h:∀ t∈x,gF t)(o:z2'):tH ((hT x).take ((hT x).length - 1)) o=some (o++x):=by
 grind [ajA,ajC,List.map_congr_left,ajy,WX,Jg]
theorem ajD:∀ (c:List (z2')) (s:List UInt8×z2'),(∀ x∈c,∀ t∈x,gF t)->wB (c.map hT) s=some (s.1++(c.map hT).flatMap eI,s.2++c.flatten)
 | [],s,_=>by simp[wB]
 | x::c,s,h=>by
  simp  [wB];rw[aES (h x (by simp))];dsimp only;rw[ajD c _ λx al=>h x (amr _ al)];simp
theorem ajE(h:∀ t∈l,gF t)(qK:l.length<=40):tG l=(k0 l,0):=by
 grind [tG,OG]
theorem aET(h:(tG l).2=0):(∀ t∈l,gF t)/\l.length<=40/\tG l=(k0 l,0):=by
 grind [tG,OG]
theorem aEU(h:∀ t∈l,gF t)(qK:l.length<=40):u0 ((gG l).map hT)=(l,true):=by
 unfold u0;rw[ajD _ _ λx al=>(Jk h x al).2.2];grind [aER,ajE,Js]
def O8(r:List UInt8):List UInt8:=zy (de r)
def p1(l:z2'):z2':=(l.take (l.length - 1)).map O8
def wH(O:List (z2')):z2'×Bool:=(O.flatMap p1,decide ((tG (O.flatMap p1)).2=0)&&decide ((tG (O.flatMap p1)).1=O.flatMap eI))
theorem aEV{r:List UInt8}(h:sx r=some t):O8 r=t:=by
 unfold sx at h;have bN:=Wo r 0;by_cases hc:((r.getD 0 0).toNat) - 32 > (r.length:Int) - 2
 ·grind
 ·rw[if_neg hc]at h;cases h;unfold O8 zy zx;rw[bN,o8,<-aEH];have e:min (((r.getD 0 0).toNat:Int) - 32) (r.length - 2)=((r.getD 0 0).toNat) - 32:=by omega
  rw[e];have bz:∀ s,(de s).drop 1=de (s.drop 1):=λs=>by simp_all[de]
  rw[bz,Cl]
theorem ajF:∀ (l o:z2'),(∀ r∈l,sx r≠none)->tH l o=some (o++l.map O8)
 | [],o,_=>by simp[tH]
 | r::l,o,h=>by
  unfold tH;cases bB:sx r with
  | none=>grind
  | some t=>
   dsimp only;rw[ajF l _ λr D=>h r (amr _ D),aQb,aEV bB];simp
theorem ajG:∀ (l o:z2'),(∃ r∈l,sx r=none)->tH l o=none
 | [],o,h=>by grind
 | r::l,o,h=>by
  unfold tH;cases bB:sx r with
  | none=>rfl
  | some t=>
   obtain⟨jM,bk,e0⟩:=h;rcases List.mem_cons.1 bk with rfl | bk
   ·grind
   ·exact ajG l _ ⟨jM,bk,e0⟩
theorem ajH:∀ (O:List (z2')) (s:List UInt8×z2'),(∀ l∈O,∀ r∈l.take (l.length - 1),sx r≠none)->wB O s=some (s.1++O.flatMap eI,s.2++O.flatMap p1)
 | [],s,_=>by simp[wB]
 | l::O,s,h=>by
  unfold wB;rw[ajF _ _ (h l (by simp))];dsimp only;rw[ajH O _ λl ah=>h l (amr _ ah)];simp[p1]
theorem ajI:∀ (O:List (z2')) (s:List UInt8×z2'),(∃ l∈O,∃ r∈l.take (l.length - 1),sx r=none)->wB O s=none
 | [],s,h=>by grind
 | l::O,s,h=>by
  unfold wB;cases bB:tH (l.take (l.length - 1)) s.2 with
  | none=>rfl
  | some o=>
   obtain⟨et,rZ,e0⟩:=h;rcases List.mem_cons.1 rZ with rfl | rZ
   ·grind [ajG]
   ·exact ajI O _ ⟨et,rZ,e0⟩
theorem aEW(h:∀ l∈O,gr (fX l) l):(wH O).2=(u0 O).2/\((u0 O).2=true->(wH O).1=(u0 O).1):=by
 by_cases U:∃ l∈O,∃ r∈l.take (l.length - 1),sx r=none
 ·have e:u0 O=([],false):=by grind [u0,ajI]
  rw[e];refine⟨?_,λk=>by grind⟩;cases hu:(wH O).2 with
  | false=>rfl
  | true=>
   unfold wH at hu;simp  at hu;obtain⟨b6,qK,hw⟩:=aET hu.1;rw[hw]at hu;have L:k0 (O.flatMap p1)=O.flatMap eI:=hu.2;have cT:=aEQ b6;rw[L,WW h]at cT;have xv:=(Prod.mk.inj cT).2;obtain⟨l,ah,r,D,aC⟩:=U;rw[xv]at ah;obtain⟨c,hc,rfl⟩:=List.mem_map.1 ah;have aPk:=(Jk b6 c hc).2.2;grind [ajA,ajy,WX,Jg]
 grind [u0,wH,ajH]
abbrev x9:aO:=⟨.slice (.slice (.slice (.int .u8))),.ar (.slice .str) .bool,λx=>List.length x<65536/\∀ l∈(x:List (List (z1'))),p0 (wC l) l,λx=>wH (List.map (List.map ff) (x:List (List (z1'))))⟩
theorem ajJ(l:z2'):(p1 l).length=l.length - 1:=by unfold p1;simp
theorem aEX(x):a8 (aik E4.sh mK.sh Ck zw Ot.sh x) (x9.sh x):=bx λh=>by
 obtain⟨E,L⟩:=h;obtain⟨O,xv⟩:∃ O:List (z2'),O=x.map (List.map ff):=⟨_,rfl⟩
 have al:x=O.map gH:=by
  have:x.map (gH ∘ List.map ff)=x.map id:=aPN λl ah=>ajs (L l ah);simp_all
 have j0:∀ l∈O,gr (fX l) l:=λl ah=>by
  have:=L (gH l) (by grind);have:=ajt this;rw[this.wide];omega
 have aD:x9.g x=wH O:=by grind
 rw[aD];subst al;rw[aPW]at E;clear xv aD L;unfold aik b7 fT cB bD bf bQ;rw[aN,cY];rw[e2 O (λi s=>(O.map gH,(O.length:Int),(i:Int),s.1,s.2,())) (λl s=>.aw (s.1++p1 l,s.2++de (eI l))) (λs=>.aw (s.1,s.2,())) (λi s=>s.1.length<=8*i/\s.2.length<=600*i) ([],[]) ?_ ?_ ?_ ?_]
 ·rw[ec,aN,cY];have e:∀ (l:List (z2')) (s:z2'×z1'),l.foldl (λs l=>(s.1++p1 l,s.2++de (eI l))) s=(s.1++l.flatMap p1,s.2++de (l.flatMap eI)):=by
   intro l;induction l with
   | nil=>grind [de]
   | cons b l aP=>grind [de]
  rw[e];rw[aQk];have uN:∀ l:List (z2'),(∀ b∈l,gr (fX b) b)->(l.flatMap p1).length<=8*l.length:=by
   intro l;induction l with
   | nil=>simp
   | cons b l aP=>
    intro U;have ho:=(U b (by simp)).2.1;grind [ajJ]
  have uN:=uN O j0;rw[show E4.sh (O.flatMap p1)=mpure (tG (O.flatMap p1)) from (bP (by omega) _).trans (by rw[<-aiU])];unfold wH;grind [zw,Cl,aN,bc]
 ·simp
 ·simp
 ·intro i G s az;obtain⟨ts,own⟩:=s;have hw:=bs (n:=i+1);have ah:=j0 _ (amk G);have ajK:=ah.nQ;have Iy:=OK ah;have BY:(O.map gH).getD i []=gH O[i]:=by grind
  have zG:((i:Int)).toNat=i:=rfl;have hlen:=ah.2.1;have aPl:=ah.1;have aH:Ot.sh (gH O[i])=mpure (p1 O[i]):=(bP (⟨⟨by grind,by grind⟩,λr D=>ajK.fB D⟩) _).trans (by
   show mpure (((gH O[i]).take ((gH O[i]).length - 1)).map zy)=_;rw[aPW,<-List.map_take,aQ4];rfl)
  have al:mK.sh (gH O[i])=mpure (eI O[i]):=(bP (⟨by grind,λr D=>(ajK.fB D).2.1⟩) _).trans (by
   grind [OJ,Cl])
  refine⟨?_,λs' vg=>?_⟩
  ·simp only[dQ G,zG,cC,aPW,dK G,cp,dm,kE,hw,BY,aH,al,aN];have uN:=ajJ O[i];rw[bc (by grind [cb]),show Ck (eI O[i],own,())=mpure (((eI O[i]).length:Int),own++de (eI O[i]),()) from bP (by grind [cb]) _,aN];rfl
  grind [p1,o8]
 simp
section
variable {ag:Type}
def u3(f:ag->ag)(B:List ag)(i:Nat):List ag:=(B.take i).map f++B.drop i
theorem aEY{f:ag->ag}{B:List ag}{d:ag}(h:i<B.length):(u3 f B i).getD i d=B[i]:=by
 unfold u3;grind
theorem ajL{f:ag->ag}{B:List ag}(h:i<B.length):(u3 f B i).set i (f B[i])=u3 f B (i+1):=by
 unfold u3;grind [List.drop_eq_getElem_cons,List.take_add_one]
theorem aEZ{f:ag->ag}{B:List ag}:u3 f B B.length=B.map f:=by unfold u3;simp
end
theorem aE0{a_ O}(h:kK m a_ O):n7 (.int .u8) m (.slice (.slice (.cM (.int .u8)))) a_/\gx (.int .u8) m (.slice (.slice (.cM (.int .u8)))) a_=O.map gH:=by
 refine⟨λb U=>(E_ (h.ok b U)).1,?_⟩;rw[<-h.zH];exact aPN λb U=>(E_ (h.ok b U)).2
theorem ajM{ag:Type}{f:ag->Nat}{c:Nat}:∀ (l:List ag),(∀ x∈l,f x<=c)->(l.map f).sum<=c*l.length
 | [],_=>aPR _
 | x::l,h=>by
  have:=ajM l λy ba=>h y (amr _ ba);grind [Nat.mul_add]
theorem WY:∀ {W:Nat} (l:z2'),(∀ r∈l,r.length=W)->(kq l).length=l.length*(W+1)
 | W,[],_=>by simp[kq]
 | W,r::l,h=>by
  have aP:=WY l λr D=>h r (amr _ D);grind [kq]
theorem WZ{W:Nat}(h:gr W l):(eI l).length=l.length*(W+1)+1:=by
 unfold eI;rw[aP8,WY l λr D=>(h.2.2.2.2 r D).1];rfl
theorem aE1{W:Nat}(h:gr W l):(je l).length=l.length:=by
 have E:(gH (je l)).length=(u2 (gH l)).length:=by rw[WT h]
 grind [u2,nS]
def u4(l:z2'):Bool:=decide ((j_ l).1=2)
def Fe(n:Nat)(l:z2'):Int:=if (j_ l).1=1 then (n:Int)+(j_ l).2.1*((fX l:Int)+1)+(j_ l).2.2 else -1
def nT(B:List (z2'))(i:Nat):Nat:=((B.take i).map λl=>(eI l).length).sum
def W0(B:List (z2')):z1':=(List.range B.length).map λk=>Fe (nT B k) (B.getD k [])
def jb(f:List UInt8):z2'×z18':=
 if (k1 f).1=false then ([],[],140)
 else if (k1 f).2.any u4=true then ([],[],141)
 else if (u0 ((k1 f).2.map je)).2=false then ([],[],142)
 else ((u0 ((k1 f).2.map je)).1,W0 (k1 f).2,0)
theorem aE2{B:List (z2')}(h:∀ l∈B,gr (fX l) l)(i:Nat):nT B i<=600*i:=by
 unfold nT;have:=ajM     (B.take i) λl ah=>OK (h l (aP0 ah));grind
theorem W1{B:List (z2')}(h:i<B.length):nT B (i+1)=nT B i+(eI B[i]).length:=by
 unfold nT;rw[aQH];grind
theorem aE3(f:List UInt8):∀ l∈(k1 f).2,gr (fX l) l:=λl ah=>aD9 ((Ww f).1 l ah)
abbrev qD:aO:=⟨.str,.ar (.slice .str) (.ar (.slice (.int .i64)) (.int .i64)),λx=>List.length x<65536,λx=>jb x⟩
theorem Uk(x):a8 (aif WR Jo mK.pre mK.g x9.pre x9.g x) (qD.sh x):=td λh=>by
 change List UInt8 at x;generalize x=f at h ⊢;change f.length<65536 at h;unfold aif eZ b7 fT cB bD bf bQ;show c' _ λy=>y=jb f;unfold jb;rw[fN];refine⟨⟨h,by simp⟩,?_⟩;rintro⟨aE4,a_,m,u⟩ ⟨fs,fQ,_⟩;change aE4=(k1 f).1 at fs;change kK m a_ (if (k1 f).1=true then (k1 f).2 else []) at fQ;subst fs;have ho:=(Ww f).2;have j0:=aE3 f;dsimp only;cases a1:(k1 f).1 with
 | false=>grind [dO]
 | true=>
  rw[a1,if_pos rfl]at fQ;generalize (k1 f).2=B at fQ ho j0;have yp:=fQ.len;rw[if_neg (by decide),if_neg (by decide),fN];refine ai2 B.length (λi s=>s.1=(nT B i:Int)/\s.2.1=(B.length:Int)/\s.2.2.1=(i:Int)/\s.2.2.2.1=(List.range i).map (λk=>Fe (nT B k) (B.getD k []))/\s.2.2.2.2.1=a_/\kK s.2.2.2.2.2.1 a_ (u3 je B i)/\∀ k,k<i->u4 (B.getD k [])=false) ⟨rfl,by rw[cC,yp],rfl,rfl,rfl,fQ,λk ak=>absurd ak (Nat.not_lt_zero k)⟩ ?_ ?_
  ·rintro i G ⟨s1,s2,fh,mZ,mJ,dw,n8⟩ ⟨aE,bz,c_,bV,ey,aM,aT⟩;change s1=_ at aE;change s2=_ at bz;change fh=_ at c_;change mZ=_ at bV;change mJ=a_ at ey;change kK dw a_ _ at aM;change ∀ k,k<i->_ at aT;subst aE bz c_ ey;have dR:i<mJ.length:=by omega
   have hw:=bs (n:=(i:Int)+1);have zG:((i:Int)).toNat=i:=rfl;have ah:=j0 _ (amk G);have W2:(u3 je B i).getD i []=B[i]:=aEY G;obtain⟨cU,cO,hO,_⟩:=aM.fv dR (W:=fX B[i]) (by rw[W2];exact ah);rw[W2]at cO hO;rw[ajL G]at hO;have aE5:B.getD i []=B[i]:=by rw[amq,ams G];rfl
   have vz:Jo (mJ.getD i [],dw,())=mpure ((j_ B[i]).1,(j_ B[i]).2,zF (mJ.getD i [],dw,()),()):=by
    unfold Jo;rw[cO];exact bP cU _
   have AG:=aE2 j0 i;have Iy:=OK ah;generalize qo:zF (mJ.getD i [],dw,())=Q at hO vz;have W3:=hO.fB dR;have aE6:=hO.ok _ (WV dR);obtain⟨d1,d2⟩:=E_ aE6;have aE7:(u3 je B (i+1)).getD i []=je B[i]:=by
    rw[<-ajL G,amq,List.getElem?_set_self (by unfold u3;simp;omega)];rfl
   rw[aE7]at W3;rw[W3]at d2;have mv:=aju ah;have gU:=aE1 ah;have iX:mK.pre (gH (je B[i])):=⟨by rw[aPW];have:=ah.2.1;omega,λr D=>(mv.nQ.fB D).2.1⟩
   have G6:ff (oz (gH (je B[i])))=eI (je B[i]):=by
    grind [OJ,Cl]
   have aPm:(eI (je B[i])).length=(eI B[i]).length:=by grind [WZ]
   have aPn:=bs (n:=(nT B i)+((eI B[i]).length));simp only[cC,dQ G,if_true,zG];rw[h5];refine⟨⟨by omega,by omega⟩,?_⟩;erw [vz];rw[aN];by_cases c2:(j_ B[i]).1=2
   ·rw[if_pos (aP5 c2),aN,aN,aN,aN];refine dO.2 ?_;refine dO.2 ?_;rw[if_pos];exact List.any_eq_true.2 ⟨_,amk G,aP5 c2⟩
   ·rw[if_neg (by grind)];have aPo:∀ k,k<i+1->u4 (B.getD k [])=false:=λk ak=>by
     by_cases e:k=i
     ·subst e;rw[aE5];exact aQd c2
     grind
    have aPp:∀ p,p=Fe (nT B i) B[i]->mZ++[p]=(List.range (i+1)).map λk=>Fe (nT B k) (B.getD k []):=λp ai=>by
     grind [List.range_succ]
    have aPq:=W1 G;by_cases bG:(j_ B[i]).1=1
    ·rw[if_pos (aP5 bG)];have L7:∃ r a:Nat,j_ B[i]=(1,(r:Int),(a:Int))/\r<9/\a<62:=by
      rcases O7 (fX B[i]) (gH B[i]) with⟨e,_⟩ | ⟨e,_⟩ | ⟨r,a,e,D,aY,_,_,_⟩
      ·grind [j_]
      ·grind [j_]
      ·rw[aPW]at D;have dt:=ah.2.1;have ei:=ah.2.2.2.1;refine⟨r,a,e,?_,by omega⟩;omega
     obtain⟨r,a,aPr,aPs,aPt⟩:=L7;have vo:0<(mJ.getD i []).length:=by
      have:=congrArg List.length W3;rw[WD,aPW]at this;have:=ah.1;omega
     have wQ:((mJ.getD i []).getD 0 (0,0,0)).2.2=fX B[i]:=by
      have ak:=aM.ok _ (WV dR) _ (WE vo);rw[ak.2.2,<-OV vo,aM.fB dR,W2,WS,o8]
     have aPu:=ah.2.2.2.1;rw[bc ⟨aPP _,by omega⟩,aN,cY];rw[h5];refine⟨by grind [cb],?_⟩;rw[h5];refine⟨⟨d1,by grind⟩,dO.2 ?_⟩;have cj:=bs (n:=(fX B[i])+1);have aPv:r*((fX B[i]:Int)+1)<=9*63:=Int.mul_le_mul (by omega) (by omega) (by omega) (by omega);grind [bs,Fe]
    ·rw[if_neg (by grind),aN,cY];rw[h5];refine⟨by grind [cb],?_⟩;simp_all[dO,Fe]
  ·rintro⟨s1,s2,fh,mZ,mJ,dw,n8⟩ ⟨aE,bz,c_,bV,ey,aM,aT⟩;change mZ=_ at bV;subst aE bz c_ ey;rw[aEZ]at aM;have h9:¬B.any u4=true:=λk=>by
    grind [List.mem_iff_getElem]
   obtain⟨d1,d2⟩:=aE0 aM;have ajN:∀ l∈B.map je,gr (fX l) l:=λl ah=>by
    obtain⟨b,U,rfl⟩:=List.mem_map.1 ah;have:=aju (j0 b U);rw[this.wide];omega
   have aPw:x9.pre ((B.map je).map gH):=⟨by grind,λl ah=>by
    obtain⟨b,U,rfl⟩:=List.mem_map.1 ah;have:=(ajN b U).nQ;rw[this.wide];omega⟩
   have aE8:wH (((B.map je).map gH).map (List.map ff))=wH (B.map je):=by
    grind [List.map_congr_left,WU]
   obtain⟨h_,lL⟩:=aEW ajN;rw[if_neg (by simp),aN];refine dO.2 ?_;show c' (ae _ _) _;simp only[Prod.cv];rw[h5];refine⟨⟨d1,by grind⟩,?_⟩;rw[d2,aE8,h_,if_neg h9];cases aH:(u0 (B.map je)).2 with
   | false=>grind [dO]
   | true=>
    rw[lL aH];exact dO.2 (by rw[bV];rfl)
end Go.Fer
namespace Go.Fer
def aE9(p:z1'):z1':=(np p.length).filter λv=>decide (p.getD v.toNat 0≠-1)
def O9(f:List UInt8):z2'×z18':=((jb f).1,aE9 (jb f).2.1,(jb f).2.2)
abbrev O_:aO:=⟨.str,.ar (.slice .str) (.ar (.slice (.int .i64)) (.int .i64)),λx=>List.length x<65536,λx=>O9 x⟩
theorem aE_(f:List UInt8):(jb f).2.1.length<=f.length:=by
 grind [Ww,jb,W0]
theorem aE'(x):a8 (aic qD.sh x) (O_.sh x):=bx λh=>by
 generalize x=f at h ⊢;unfold aic fT cB bD bf bQ;show _=mpure (O9 f);have ai:=aE_ f;rw[show qD.sh f=mpure (jb f) from bP (h) _,aN];unfold O9;generalize jb f=r at ai;obtain⟨ts,p,e⟩:=r;change p.length<=f.length at ai;rw[e2 (np p.length) (λi o=>(ts,e,p,(p.length:Int),(i:Int),o,())) (λv o=>.aw (if decide (p.getD v.toNat 0≠-1)=true then o++[v] else o)) (λo=>.aw (ts,e,o,())) (λi o=>o.length<=i) [] ?_ ?_ ?_ ?_]
 ·rw[ec,HH,aN];rfl
 ·rfl
 ·simp
 ·intro i G o au;rw[Co]at G;have hw:=bs (n:=i+1);have zG:((i:Int)).toNat=i:=rfl;refine⟨?_,λf_ hR=>?_⟩
  ·simp only[cC,kE];rw[bc ⟨by omega,by omega⟩,Wv (by omega),zG];cases decide (p.getD i 0≠-1) with
   | true=>
    rw[if_pos rfl,bc (by grind [cb]),aN];simp_all
   | false=>
    simp_all
  grind
 simp_all[Co]
theorem aFa{ag bet hh:Type}(f:ag->hh)(g:bet->hh)(F:List ag)(o:List bet)(aFb:ag)(aFc:bet)(ah:F.length=o.length)(h:∀ k,k<F.length->f (F.getD k aFb)=g (o.getD k aFc)):F.map f=o.map g:=by
 refine aRa (by grind) λk E L=>?_;grind
theorem aFd{r:List UInt8}{j:Nat}(h:j<r.length)(b:UInt8):List.take j r++[b]++List.drop (j+1) r=r.set j b:=by
 rw[List.set_eq_take_append_cons_drop,if_pos h];simp
theorem aFe(r:List UInt8)(j:Nat)(b:UInt8):de (r.set j b)=(de r).set j (b.toNat:Int):=by
 unfold de;rw[List.map_set]
theorem ajO{R uv:List (z1')}{c:Nat}(ah:uv.length=R.length)(h:∀ k,k<R.length->(uv.getD k []).getD c 0=(R.getD k []).getD c 0)(aW:0<R.length):k2 uv c=k2 R c:=by
 unfold k2;rw[ah,h (R.length - 1) (by omega)];have e:gh (uv.take (R.length - 1)) (c:Int)=gh (R.take (R.length - 1)) (c:Int):=by
  unfold gh;refine aRa (by simp[ah]) λk E L=>?_;have ak:k<R.length:=by simp at L;omega
  have ON:k<uv.length:=by omega
  have dh:=h k ak;have aFf:uv.getD k []=uv[k]:=by rw[amq,ams ON];rfl
  have aFg:R.getD k []=R[k]:=by rw[amq,ams ak];rfl
  rw[aFf,aFg]at dh;rw[aQr,aQr,List.getElem_take,List.getElem_take];exact dh
 rw[e]
theorem aFh{l:z2'}(h:gr (fX l) l)(aC:(j_ l).1≠1):je l=l:=aEJ (by
 have:wC (gH l)=fX l:=h.nQ.wide;rw[this];exact aC)
theorem ajP{B:List (z2')}{i:Nat}(h:i<B.length):B.getD i []=B[i]:=by rw[amq,ams h];rfl
theorem aFi(fJ:Nat)(s:z2')(az:s.length<65536):c' (Oi (fJ,s,8,(fJ,x6 (some s,some 8),[],false),())) λy=>y.1.2.2.2=false->x6 (some s,some 8) y.1.2.2.1:=by
 have uA:∀ ab,x6 (some s,some 8) ab<->ab=gG s:=λab=>⟨λ⟨l,e,_,h⟩=>by cases e;exact h,λe=>⟨s,rfl,az,e⟩⟩
 generalize x6 (some s,some 8)=S at *
 unfold Oi eZ fT bD;dsimp only;refine zV (λA=>∃ k:Nat,k<=(gG s).length/\A=(fJ,s,8,((8*k:Nat):Int),(fJ,S,(gG s).take k,false),())) (λA=>(s.length+8 - A.2.2.2.1.toNat)) ?_ _ ⟨0,aPR _,rfl⟩;rintro A ⟨k,ak,rfl⟩;dsimp only;by_cases aFj:8*k<s.length
 ·have WQ:=Wu.2 aFj;have ax:decide (((8*k:Nat):Int)<(s.length:Int))=true:=aP5 (by omega);have bA:∀ n:Nat,((n:Int)).toNat=n:=λ_=>rfl;have iA:(List.drop (8*k) s).length=s.length - 8*k:=List.length_drop ..;have hm:(if (((List.drop (8*k) s).length:Nat):Int)<8 then (((List.drop (8*k) s).length:Nat):Int) else 8)=((min 8 (s.length - 8*k):Nat):Int):=by rw[iA];split<;>omega
  have hw:=bs (n:=((8*k:Nat))+((min 8 (s.length - 8*k):Nat):Int));have gz:=bs (n:=((8*k))+8);have WJ:(((8*k:Nat))+((min 8 (s.length - 8*k):Nat):Int)).toNat=8*k+min 8 (s.length - 8*k):=by omega
  have hc:List.drop (8*k) (List.take (8*k+min 8 (s.length - 8*k)) s)=(gG s)[k]:=by
   grind [aD5]
  simp only[cC,ax,if_true,bA,aQc,hm,dm,hw,WJ,hc];rw[h5];refine⟨⟨by omega,by omega,aPP _⟩,?_⟩;rw[h5];refine⟨⟨by omega,by omega,trivial,by omega⟩,?_⟩;rw[fN,h5];refine⟨⟨trivial,trivial,(gG s).drop (k+1),(uA _).2 ?_⟩,⟨true,trivial⟩,λy _=>?_⟩
  ·simp
  ·cases y with
   | false=>
    grind [aN,dO]
   | true=>
    refine dO.2 ⟨⟨k+1,WQ,?_⟩,?_⟩
    ·grind [List.take_add_one]
    grind
 ·have ax:decide (((8*k:Nat))<(s.length:Int))=false:=aQd (by omega);simp only[cC,ax,aN];refine dO.2 λ_=>(uA _).2 ?_;refine aQI ?_;grind [Wu]
def ajQ(x:List (z1')×Int×z25'):M (z14'):=
 letI d:=Int.ofNat (List.length x.1);letI a:=cE d x.2.2.1;letI e:=List.take (Int.toNat a) x.1;cB (ae ((0:Int)<=0/\0<=a/\a<=d) (dA (λ(A:Int×List (z1')×z33')=>letI b:=A.2.2.2;letI c:=List.getD A.2.1 (Int.toNat b.1) [];bD (fT b.1 A.2.2.1) (ae (0<=b.1/\b.1<Int.ofNat (List.length A.2.1)) (ae (0<=A.1/\A.1<Int.ofNat (List.length c)) (ae (cb (Add.add (List.length b.2.1) (Add.add 0 1))) (mpure (aJ.aw (A.1,A.2.1,A.2.2.1,bf b.1,b.2.1++[List.getD c (Int.toNat A.1) 0],())))))) (aq (mpure (aJ.aw (b.2.1,()))) (λr=>mpure (aJ.aV r)))) (x.2.1,e,Int.ofNat (List.length e),0,[],()))) λ(A:z14')=>mpure (A.1,())
def ajR(x:List (z1')×Int×z25'):M (z14'):=eE (zv x.1 x.2.1 x.2.2.1) (gh (x.1.take (x.1.length - x.2.2.1.toNat)) x.2.1,())
theorem aFk(x):a8 (ajQ x) (ajR x):=bx λh=>by
 obtain⟨l,c,w,u⟩:=x;obtain⟨E,⟨L,an⟩,a6,bS⟩:zv l c w:=h;unfold ajQ fT cB bD bf cE;dsimp only;have hw:=bs (n:=(l.length:Int) - w);simp only[cC,hw];have e:((l.length:Int) - w).toNat=l.length - w.toNat:=by omega
 rw[bc ⟨aPP _,by omega,by omega⟩,e];generalize ak:l.take (l.length - w.toNat)=k;have Nd:k.length<65536:=by rw[<-ak];simp;omega
 have Ja:∀ r∈k,c<(r.length:Int):=λr D=>bS r (by rw[<-ak]at D;exact aP0 D);rw[e2 k (λi (o:z1')=>(c,k,(k.length:Int),(i:Int),o,())) (λr o=>.aw (o++[r.getD c.toNat 0])) (λo=>.aw (o,())) (λi o=>o.length=i) [] ?_ ?_ ?_ ?_]
 ·rw[ec,aN,cY];dsimp only;rw[show k.foldl (λo r=>o++[r.getD c.toNat 0]) []=gh k c from by rw[r4];rfl]
 ·rfl
 ·rfl
 ·intro i G o au;have gz:=bs (n:=(i:Int)+1);have D:=Ja _ (amk G);refine⟨?_,λf_ hR=>?_⟩
  ·simp only[cC,dQ G,if_true,ed G,dK G,cp,dm,kE,gz];rw[bc ⟨a6,D⟩,bc (by unfold cb;omega)];rfl
  ·simp only[aJ.aw.injEq]at hR;subst hR;simp[au]
 ·intro o au;simp
end Go.Fer
namespace Go.Fer.Sk
open Go Go.Proofs Go.RowKit
def aFl:Code:=Tryz.f39.body.getD .skip
theorem aFm:Tryz.f39.body=some aFl:=by rfl
abbrev aFn:aO:=⟨.str,.bool,λ_=>True,λs=>s.all Tryz.Ch⟩
open Classical in
theorem aFo(x:List UInt8):decide (Tryz.uX ⟨x.toArray⟩ 0)=x.all Tryz.Ch:=by
 rw[Bool.eq_iff_iff,aQg,aPZ];unfold Tryz.uX;constructor
 ·intro h b U;obtain⟨i,G,rfl⟩:=List.mem_iff_getElem.1 U;have:=h i (by rw[tF];exact G) (aPR _);exact this
 ·intro h i G _;have d_:i<x.length:=by rw[tF]at G;exact G
  exact h _ (amk d_)
theorem aFp:hA Tryz.prog 39 .str .bool aFn.sh where
 enter:=rj Tryz.func39 aFm (by rfl)
 ik:=λF w args x bp fm aY az=>by
  obtain⟨rfl,ah⟩:=Of aY;refine (Tryz.aC3 ⟨x.toArray⟩ w).mono ?_;rintro e w' ⟨rfl,U⟩;refine⟨_,x.all Tryz.Ch,rfl,rfl,⟨[_],rfl,(pb rfl).2 ⟨_,rfl,?_⟩⟩,U⟩;simp_all[aFo]
def aFq:Code:=Tryz.f146.body.getD .skip
theorem aFr:Tryz.f146.body=some aFq:=by rfl
abbrev aFs:aO:=⟨.ar .str .str,.ar .str (.ar .str .bool),λx=>x.1.length<4294967281,λx=>Lib.cut x.1 x.2⟩
theorem aFt(s sep:List UInt8):(Lib.cut s sep).1.length<=s.length/\(Lib.cut s sep).2.1.length<=s.length:=by
 grind [Lib.cut]
theorem aFu:hA Tryz.prog 146 (.ar .str .str) (.ar .str (.ar .str .bool)) aFs.sh where
 enter:=rj Tryz.func146 aFr (by rfl)
 ik:=λF w args x bp fm aY az=>by
  obtain⟨s,sep⟩:=x;have az:s.length<4294967281:=az;obtain⟨rfl,ah,hp⟩:=V8 aY;obtain⟨_,m,hm⟩:=E0 fm (b:=0) (by decide);refine (Tryz.strings_Cut ⟨s.toArray⟩ ⟨sep.toArray⟩ m w (by grind [tF]) hm).mono ?_;rintro e w' ⟨rfl,n,rfl⟩;obtain⟨bG,c2⟩:=aFt s sep;refine⟨_,Lib.cut s sep,rfl,rfl,⟨[.string ⟨(Lib.cut s sep).1.toArray⟩,.string ⟨(Lib.cut s sep).2.1.toArray⟩,.bool (Lib.cut s sep).2.2],?_,?_⟩,⟨rfl,rfl,rfl,amn _,λ_ _=>rfl⟩⟩
  ·rfl
  ·refine zZ.2 ⟨k7.2 ⟨rfl,Nat.lt_of_le_of_lt bG ah⟩,zZ.2 ⟨k7.2 ⟨rfl,Nat.lt_of_le_of_lt c2 ah⟩,(pb rfl).2 ⟨_,rfl,hV.2 rfl⟩⟩⟩
def aFv:Code:=Tryz.f157.body.getD .skip
theorem aFw:Tryz.f157.body=some aFv:=by rfl
abbrev aFx:aO:=⟨.ar .str (.int .i64),.str,λx=>0<=x.2/\x.1.length*x.2.toNat<65536,λx=>Lib.repeatL x.1 x.2.toNat⟩
theorem aFy:hA Tryz.prog 157 (.ar .str (.int .i64)) .str aFx.sh where
 enter:=rj Tryz.func157 aFw (by rfl)
 ik:=λF w args x bp fm aY az=>by
  obtain⟨s,n⟩:=x;change Int at n;obtain⟨aW,E⟩:0<=n/\s.length*n.toNat<65536:=az;obtain⟨v,us,rfl,af,hu⟩:=FE aY;obtain⟨rfl,ah⟩:=k7.1 af;obtain⟨ao,rfl,jP⟩:=(pb rfl).1 hu;obtain⟨rfl,aC⟩:=hL.1 jP;have jj:n<=9223372036854775807:=aC.2;have Hj:n=(n.toNat):=by omega
  have:=Tryz.strings_Repeat ⟨s.toArray⟩ n.toNat w (by omega) (by grind [tF]);rw[<-Hj]at this;refine this.mono ?_;rintro e w' ⟨rfl,U⟩;refine⟨_,Lib.repeatL s n.toNat,rfl,rfl,⟨[_],rfl,(pb rfl).2 ⟨_,rfl,?_⟩⟩,U⟩;grind [k7,Lib.repeatL_length]
abbrev aFz:aO:=⟨.ar .str .str,.slice .str,λx=>x.1.length<4294967281/\1<=x.2.length,λx=>nC x.1 x.2⟩
theorem aFA:hA Tryz.prog 107 (.ar .str .str) (.slice .str) aFz.sh where
 enter:=rj Tryz.func107 (show Tryz.f107.body=some ahX by rfl) (by rfl)
 ik:=λF w args x bp fm aY az=>by
  obtain⟨s,sep⟩:=x;obtain⟨az,E⟩:s.length<4294967281/\1<=sep.length:=az;obtain⟨rfl,ah,hp⟩:=V8 aY;obtain⟨_,m,hm⟩:=E0 fm (b:=0) (by decide);have cN:1<=(ByteArray.mk sep.toArray).size:=by grind [tF]
  refine (Any.strings_Split Tryz.ahQ (by kernel_rfl) ⟨s.toArray⟩ ⟨sep.toArray⟩ m w (by grind [tF]) hm cN).mono ?_;rintro e w' ⟨rfl,rfl⟩;have hlen:=Lib.splitB_all ⟨sep.toArray⟩ cN 0 _ ⟨s.toArray⟩ rfl;have s7:=Lib.countB_le ⟨sep.toArray⟩ cN _ ⟨s.toArray⟩ (amn _);rw[tF]at s7;have mz:=V9 ⟨sep.toArray⟩ (Lib.countB ⟨s.toArray⟩ ⟨sep.toArray⟩) ⟨s.toArray⟩;rw[tF]at mz;have Ao:(nC s sep).length=Lib.countB ⟨s.toArray⟩ ⟨sep.toArray⟩+1:=by grind [nC]
  refine⟨_,nC s sep,rfl,rfl,⟨[_],rfl,(pb rfl).2 ⟨_,rfl,(ee rfl).2 ⟨rfl,some ⟨w.heap.size,0,none⟩,Lib.countB ⟨s.toArray⟩ ⟨sep.toArray⟩+1,by grind,by omega,by omega,nofun,λp ai hc=>?_⟩⟩⟩,?_⟩
  ·cases ai;refine⟨.inr ⟨amn _,by simp⟩,rfl,λi G=>?_⟩;have dR:i<(Lib.splitB ⟨sep.toArray⟩ 0 (Lib.countB ⟨s.toArray⟩ ⟨sep.toArray⟩) ⟨s.toArray⟩).length:=by omega
   generalize a1:Lib.splitB ⟨sep.toArray⟩ 0 (Lib.countB ⟨s.toArray⟩ ⟨sep.toArray⟩) ⟨s.toArray⟩=B at dR mz hlen;have j7:(nC s sep)[i]=B[i].data.toList:=by
    grind [nC]
   refine⟨[.string B[i]],⟨.inr ⟨amn _,by simp⟩,rfl,λj aK=>?_⟩,?_,?_⟩
   ·have aK:j=0:=by grind
    simp_all[V.size]
   ·simp_all
   ·have e:(B[i]).data.toList.length=(B[i]).size:=aPY;grind
  ·exact (Below.refl _ _).alloc (amn _) _
end Go.Fer.Sk
namespace Go.Fer
open Go
theorem ajS:∀ s:List UInt8,(oA s=none/\Lib.index s [10,10]=-1)\/∃ t r,oA s=some (t,r)/\Lib.index s [10,10]=(t.length:Int)/\s=t++10::10::r
 | []=>.inl ⟨rfl,rfl⟩
 | b::l=>by
  unfold oA Lib.index;by_cases hc:b=10/\l.head?=some 10
  ·cases l<;>grind
  ·have ai:List.isPrefixOf [10,10] (b::l)=false:=by
    cases bB:List.isPrefixOf [10,10] (b::l) with
    | false=>rfl
    | true=>
     cases l<;>grind
   rcases ajS l with⟨E,L⟩ | ⟨t,r,E,L,an⟩<;>grind
theorem aFB(s:List UInt8):Lib.cut s [10,10]=match oA s with | some p=>(p.1,p.2,true) | none=>(s,[],false):=by
 unfold Lib.cut;rcases ajS s with⟨E,L⟩ | ⟨t,r,E,L,an⟩<;>simp_all
theorem ajT:∀ s:List UInt8,(Lib.index s [10]=-1/\jx s=[s])\/∃ t r,s=t++10::r/\Lib.index s [10]=(t.length:Int)/\jx s=t::jx r
 | []=>.inl ⟨rfl,rfl⟩
 | b::l=>by
  unfold Lib.index;by_cases U:b=10
  ·grind [WK]
  ·obtain⟨x,xs,aE,bz⟩:=Jr U l;rcases ajT l with⟨E,L⟩ | ⟨t,r,E,L,an⟩<;>grind
theorem aFC:∀ (n:Nat) (s:List UInt8),s.length<=n->Lib.splitK [10] 0 (Lib.count s [10]) s=jx s:=by
 intro n;induction n with
 | zero=>
  intro s h;have:s=[]:=aP6 (by omega);subst this;rfl
 | succ n aP=>
  intro s h;rcases ajT s with⟨E,L⟩ | ⟨t,r,E,L,an⟩
  ·rw[Lib.count_miss E,L];rfl
  ·rw[Lib.count_hit (by simp) L,Nat.add_comm,Lib.splitK];have e:((t.length:Int)).toNat=t.length:=rfl;have Oe:s.drop (t.length+1)=r:=by simp_all
   grind
theorem aFD(s:List UInt8):Sk.nC s [10]=jx s:=by
 unfold Sk.nC;rw[Lib.splitB_data];exact aFC s.length s (amn _)
theorem ajU(s:List UInt8):∀ n,Lib.repeatL s n=Je s n
 | 0=>rfl
 | n+1=>by
  have:=ajU s n;unfold Je at this ⊢;rw[List.replicate_succ,aRi,<-this];rfl
namespace Sk
open Go.Proofs
set_option maxRecDepth 100000
theorem aFE:hA Tryz.prog 39 kD hH OF.sh:=aFp
theorem aFF:hA Tryz.prog 146 (.ar kD kD) (.ar kD (.ar kD hH)) O4.sh:=aFu.va λx=>bx λh=>by
 obtain⟨s,sep⟩:=x;obtain⟨rfl,L⟩:=h;refine (bP (L) _).trans (congrArg mpure ?_);exact aFB s
theorem aFG:hA Tryz.prog 107 (.ar kD kD) nH O5.sh:=aFA.va λx=>bx λh=>by
 obtain⟨s,sep⟩:=x;obtain⟨rfl,L⟩:=h;refine (bP (show s.length<4294967281/\1<=([10]).length from⟨L,by decide⟩) _).trans (congrArg mpure ?_);exact aFD s
theorem aFH:hA Tryz.prog 157 (.ar kD cX) kD Oz.sh:=aFy.va λx=>bx λh=>by
 refine (bP h _).trans (congrArg mpure ?_);exact ajU _ _
abbrev mm:V:=.cM e'
abbrev Ff:V:=.slice mm
abbrev aFI:V:=.slice Ff
def W4:List (Nat×V):=[(95,mm),(146,Ff),(142,aFI)]++xA
theorem ajV:eg Tryz.prog (rk W4):=abz (by kernel_rfl)
def aFJ:Code:=Tryz.f155.body.getD .skip
theorem aFK:Tryz.f155.body=some aFJ:=by rfl
def O':cK:=⟨⟨[(0,.eX 100001 0)],[(100001,.cells qu [.hM 100001,.own 100002]),(100002,.bn e')]⟩,⟨[],[(100001,.cells qu [.hM 100001,.own 100002]),(100002,.bn e')]⟩,[],1,Cj⟩
theorem W5:cW Tryz.prog dT 155 O':=aC6 (n:=153) (rho:=Tryz.V7) { Tryz.ahR with } { Tryz.ahS with } (by rfl) (rj Tryz.func155 aFK (by rfl))
end Sk
end Go.Fer
namespace Go.Fer.Sk
open Go.Proofs
def q2:=aC1.cons (n:=39) (c:=OF.dJ) ⟨aFE,λ_ _=>r3⟩
def xn:=q2.cons (n:=146) (c:=O4.dJ) ⟨aFF,λ_ _=>r3⟩
def aFL:=xn.cons (n:=157) (c:=Oz.dJ) ⟨aFH,λ_ _=>r3⟩
theorem W6{T:pH}(aU:lP T){aQ:dV}(sp:List (Nat×gp))(mb:Bo aQ sp){n:Nat}{fn:Func}(ay:Tryz.prog.funcs[n]?=some fn){c:cK}(ann:c8){S:c.cA.aj->M c.a_.aj}(az:∀ x,a8 (S x) (c.sh x))(b6:(fn.body.isSome&&DK fn (rq fn) c.kS c.ln)=true:=by kernel_rfl)(ah:∀ x,L5 aQ (rk W4) xB (te T sp) fn (rq fn) ann c.cA c.a_ c.ln x=S x:=by intro x;kernel_rfl):cW Tryz.prog aQ n c:=
 have b6:=amm _ _ ▸ b6
 SO DQ ajV DR (aU.DT mb) ay (DW b6.1) b6.2 λx=>FA (FB (ah x)) (az x)
def aFM{T:pH}(aU:lP T){aQ:dV}(iK:qR Tryz.prog aQ)(sp:List (Nat×gp))(mb:Bo aQ sp){n:Nat}{fn:Func}(ay:Tryz.prog.funcs[n]?=some fn)(c:aO)(ann:c8){S:c.ts.aj->M c.aS.aj}(az:∀ x,a8 (S x) (c.sh x))(b6:DX fn c.ts c.aS=true:=by kernel_rfl)(ah:∀ x,DI aQ (rk W4) xB (te T sp) fn (rq fn) ann c.ts c.aS x=S x:=by intro x;kernel_rfl):lP ((n,c.dJ)::T):=
 have b6:=amm _ _ ▸ b6
 aU.cons ⟨abx DQ ajV iK DR (aU.DT mb) ay (DW b6.1) b6.2 λx=>FA (FB (ah x)) (az x),λ_ _=>r3⟩
end Go.Fer.Sk
