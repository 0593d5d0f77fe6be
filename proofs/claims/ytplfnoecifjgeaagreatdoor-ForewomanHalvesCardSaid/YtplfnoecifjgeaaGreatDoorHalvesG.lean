/- Part 7 of the proof of Halves: shallow programs of Go functions, and what they compute. No condition. -/
import Derived.Test.YtplfnoecifjgeaaGreatDoorHalvesF
import Derived.Shelf.SlGeneric
import Derived.Shelf.Spec.SlicesGrow
import Derived.Shelf.Strings.OnBuilder
import Derived.Shelf.LaysM
import Derived.Shelf.Strconv.Itoa3
import Derived.Shelf.LaysC
import Derived.Shelf.Strconv.AtoiAll
import Derived.Shelf.Strings.Split
import Derived.Shelf.Slices.In.SortNone
import Derived.Test.YtplfnoecifjgeaaGreatDoorProg
import Derived.WalkKit
import Derived.WalkSpells
import Derived.Handy
import Derived.Shelf.Sort.AssemblyIn
import Derived.Sort.EveryDepth
import Derived.Handed
import Derived.Shelf.Vars
import Derived.Lib.LaidTab
import Derived.Lib.ItoaNum
noncomputable section
set_option linter.unusedVariables false
set_option linter.unusedSimpArgs false
namespace Go.Fer.W
open M (V)
open H (hr)
abbrev yk:aJ:=⟨.aw sE sE,.bool,λx=>x.1.length<2 ^ 63,λx=>decide (x.1=x.2)⟩
theorem aq8(a b:List aN)(h:a.length=b.length):((List.range a.length).any λi=>decide (a.getD i []≠b.getD i []))=!decide (a=b):=by
 rw[Bool.eq_iff_iff];simp only[List.any_eq_true,List.mem_range,decide_eq_true_eq,Bool.not_eq_true',decide_eq_false_iff_not];constructor
 ·grind
 ·intro dX;refine Classical.byContradiction λfj=>dX (List.ext_getElem h λi h1 h2=>?_);simp_all
theorem aq9(x):M.le (Yd x) (yk.sh x):=M.bj λh=>by
 obtain⟨a,b⟩:=x;change a.length<2 ^ 63 at h;unfold Yd;show _=M.pure (decide (a=b));by_cases ah:a.length=b.length
 ·rw[if_neg (by grind)];rw[M.dm (List.range a.length) (λi (_:Unit)=>(a,b,(i:Int),())) (λi (_:Unit)=>if decide (a.getD i []≠b.getD i [])=true then .done (.done false) else .next ()) (λ_=>.next ()) () ?_ ?_ ?_]
  ·rw[q6,aq8 a b ah,M.aE];cases decide (a=b)<;>rfl
  ·rfl
  ·intro i E _;have E:i<a.length:=by grind
   have aa:i<b.length:=by omega
   have hw:=bo (n:=(i:Int)+1) (by omega) (by omega);simp only[List.getElem_range,bH,cH E,if_true,cv E,cv aa,M.bf,b8,hw,Int.toNat_natCast];by_cases hc:decide (a.getD i []≠b.getD i [])=true
   ·rw[if_pos hc,if_pos hc,M.aE,M.aE];rfl
   ·rw[if_neg hc,if_neg hc];rfl
  simp
 ·rw[if_pos (show decide (Int.ofNat a.length≠Int.ofNat b.length)=true by grind),show decide (a=b)=false from decide_eq_false λe=>ah (by rw[e])]
theorem ZL{a b:List aN}(h:a.length<2 ^ 63):yk.sh (a,b)=M.pure (decide (a=b)):=M.bE h _
abbrev um:aJ:=⟨.aw fE fE,.bool,λx=>x.1=x.2/\x.1.length<2 ^ 63,λ_=>true⟩
theorem aq_(x):M.le (X7 x) (um.sh x):=M.bj λh=>by
 obtain⟨a,b⟩:=x;obtain⟨rfl,h⟩:a=b/\a.length<2 ^ 63:=h;unfold X7;rw[if_neg (by simp)];rw[M.dm a (λi (_:Unit)=>(a,a,(i:Int),())) (λ_ b=>.next b) (λ_=>.next ()) () ?_ ?_ ?_]
 ·rw[dV,M.aE,M.bL]
 ·rfl
 ·intro i E _;have hw:=bo (n:=(i:Int)+1) (by omega) (by omega);simp_all
 simp
theorem Ei{a:z1'}(h:a.length<2 ^ 63):um.sh (a,a)=M.pure true:=M.bE ⟨rfl,h⟩ _
abbrev IZ:aJ:=⟨.aw H.jd H.jd,.bool,λx=>x.1=x.2/\H.h' x.1,λ_=>true⟩
theorem aq'(x):M.le (X6 um.sh x) (IZ.sh x):=M.bj λh=>by
 obtain⟨a,b⟩:=x;obtain⟨rfl,h1,h2,h3,aQ⟩:a=b/\H.h' a:=h;unfold X6;rw[Ei h3];simp only[M.ki,M.aE];rw[if_neg (by simp)];rw[M.dm a.1 (λi (_:Unit)=>((i:Int),a,a,())) (λ_ b=>.next b) (λ_=>.next (a,a,())) () ?_ ?_ ?_]
 ·rw[dV,M.aE,M.bL];rw[M.dm a.2.1 (λi (_:Unit)=>((i:Int),a,a,())) (λ_ b=>.next b) (λ_=>.next (a,a,())) () ?_ ?_ ?_]
  ·rw[dV,M.aE,M.bL];rw[M.dm a.2.2.2.1 (λi (_:Unit)=>((i:Int),a,a,())) (λ_ b=>.next b) (λ_=>.next ()) () ?_ ?_ ?_]
   ·rw[dV,M.aE,M.bL]
   ·rfl
   ·intro i E _;have hw:=bo (n:=(i:Int)+1) (by omega) (by omega);simp_all
   simp
  ·rfl
  ·intro i E _;have hw:=bo (n:=(i:Int)+1) (by omega) (by omega);simp_all
  simp
 ·rfl
 ·intro i E _;have hw:=bo (n:=(i:Int)+1) (by omega) (by omega);simp_all
 simp
abbrev I0:aJ:=⟨.aw km km,.bool,λx=>x.1=x.2/\gu x.1,λ_=>true⟩
theorem ara(x):M.le (X8 um.sh x) (I0.sh x):=M.bj λh=>by
 obtain⟨a,b⟩:=x;obtain⟨rfl,h1,h2,h3,aQ⟩:a=b/\gu a:=h;unfold X8;rw[if_neg (by simp)];rw[M.dm a.1 (λi (_:Unit)=>((i:Int),a,a,())) (λ_ b=>.next b) (λ_=>.next (a,a,())) () ?_ ?_ ?_]
 ·rw[dV,M.aE,M.bL];rw[M.dm a.2.2.2 (λi (_:Unit)=>((i:Int),a,a,())) (λ_ b=>.next b) (λ_=>.next (a,a,())) () ?_ ?_ ?_]
  ·rw[dV,M.aE,M.bL];rw[M.dm a.2.1 (λi (_:Unit)=>((i:Int),a,a,())) (λ_ b=>.next b) (λ_=>.next ()) () ?_ ?_ ?_]
   ·rw[dV,M.aE,M.bL]
   ·rfl
   ·intro i E _;have hw:=bo (n:=(i:Int)+1) (by omega) (by omega);obtain⟨aj,hs⟩:=aQ _ (List.getElem_mem E);simp only[bH,cH E,if_true,cZ E,cv E,M.bf,b8,hw];rw[if_neg (by simp)];rw[M.dm a.2.1[i] (λj (_:Unit)=>((i:Int),a.2.1[i],a.2.1[i],(j:Int),a,a,())) (λ_ b=>.next b) (λ_=>.next ((i:Int),a,a,())) () ?_ ?_ ?_]
    ·rw[dV,M.aE,M.bL];simp_all
    ·rfl
    ·intro j aB _;have hw:=bo (n:=(j:Int)+1) (by omega) (by omega);have bd:um.sh (a.2.1[i][j].2.1,a.2.1[i][j].2.1)=M.pure true:=Ei (hs _ (List.getElem_mem aB));simp_all
    simp
   simp
  ·rfl
  ·intro i E _;have hw:=bo (n:=(i:Int)+1) (by omega) (by omega);simp_all
  simp
 ·rfl
 ·intro i E _;have hw:=bo (n:=(i:Int)+1) (by omega) (by omega);simp_all
 simp
abbrev Ej:aJ:=⟨.aw vR vR,.bool,λx=>x.1=x.2/\e' x.1.1/\H.h' x.1.2,λ_=>true⟩
theorem arb(x):M.le (X5 IZ.sh I0.sh um.sh x) (Ej.sh x):=M.bj λh=>by
 obtain⟨a,b⟩:=x;obtain⟨rfl,⟨h1,h2,h3,aQ,bu,cW,fK⟩,hc⟩:a=b/\e' a.1/\H.h' a.2:=h;unfold X5;rw[show IZ.sh (a.2,a.2)=M.pure true from M.bE ⟨rfl,hc⟩ _,show I0.sh (a.1.1,a.1.1)=M.pure true from M.bE ⟨rfl,h1⟩ _,Ei h2];simp only[M.ki,M.aE];rw[if_neg (by simp)];rw[M.dm a.1.2.2.1 (λi (_:Unit)=>((i:Int),a.1,a.1,())) (λ_ b=>.next b) (λ_=>.next (a.1,a.1,())) () ?_ ?_ ?_]
 ·rw[dV,M.aE,M.bL];rw[M.dm a.1.2.2.2.1 (λi (_:Unit)=>((i:Int),a.1,a.1,())) (λ_ b=>.next b) (λ_=>.next (a.1,a.1,())) () ?_ ?_ ?_]
  ·rw[dV,M.aE,M.bL];rw[M.dm a.1.2.2.2.2.1 (λi (_:Unit)=>((i:Int),a.1,a.1,())) (λ_ b=>.next b) (λ_=>.next ()) () ?_ ?_ ?_]
   ·rw[dV,M.aE,M.bL]
   ·rfl
   ·intro i E _;have hw:=bo (n:=(i:Int)+1) (by omega) (by omega);simp_all
   simp
  ·rfl
  ·intro i E _;have hw:=bo (n:=(i:Int)+1) (by omega) (by omega);have bd:um.sh (a.1.2.2.2.1[i].1,a.1.2.2.2.1[i].1)=M.pure true:=Ei (fK _ (List.getElem_mem E));simp_all
  simp
 ·rfl
 ·intro i E _;have hw:=bo (n:=(i:Int)+1) (by omega) (by omega);have bd:um.sh (a.1.2.2.1[i].2.2.2.2,a.1.2.2.1[i].2.2.2.2)=M.pure true:=Ei (cW _ (List.getElem_mem E));simp_all
 simp
theorem arc{d:aV}(h:cU d):Ej.sh (d,d)=M.pure true:=M.bE ⟨rfl,h.gz,h.h'⟩ _
abbrev Ek:Type:=Int×Int×Int×Int
def PT(s:aN)(c:Ek):Ek:=
 if (!(uk s).2.2)=true then c else if decide ((uk s).1=[119,105,115,104])=true then (IntKind.wrap .i64 (c.1+1),c.2)
 else if decide ((uk s).1=[112,105,101,99,101])=true then (c.1,IntKind.wrap .i64 (c.2.1+1),c.2.2.1,IntKind.wrap .i64 (c.2.2.2+IntKind.wrap .i64 (((uk s).2.1.length:Int) - 4)))
 else if decide ((uk s).1=[99,111,109,101,115])=true then (c.1,c.2.1,IntKind.wrap .i64 (c.2.2.1+1),c.2.2.2) else c
def ZM(d:aV):Ek:=((d.1.2.2.2.1.length:Int),(d.1.2.2.1.length:Int),(d.1.2.2.2.2.1.length:Int),d.1.2.2.1.foldl (λn p=>IntKind.wrap .i64 (n+(p.2.2.2.2.length:Int))) 0)
def ard(c:Ek):Bool:=decide (c.1 > 3)||decide (c.2.1 > 4)||decide (c.2.2.1 > 3)||decide (c.2.2.2 > 4)
def uo(d:aV)(l:List aN):Bool:=
 if (uj d.1||H.lI d.2||decide ((l.length:Int) > 60))=true then true else if (l.any λs=>decide ((s.length:Int) > 80))=true then true
 else decide (ji d=0)&&ard (l.foldl (λc s=>PT s c) (ZM d))
abbrev I1(x:aV×List aN):Prop:=e' x.1.1/\H.h' x.1.2/\x.2.length<2 ^ 63
abbrev I2:aJ:=⟨.aw vR sE,.bool,I1,λx=>uo x.1 x.2⟩
theorem are(x):M.le (X_ oG.sh Ik.sh H.vt.sh IY.sh x) (I2.sh x):=M.bj λh=>by
 obtain⟨d,l⟩:=x;obtain⟨h1,h2,h3⟩:I1 (d,l):=h;have iS:d.1.2.2.1.length<2 ^ 63:=h1.2.2.1;change l.length<2 ^ 63 at h3;unfold X_;show _=M.pure (uo d l);unfold uo;rw[show Ik.sh d.1=M.pure (uj d.1) from M.bE h1 _,M.aE,show H.vt.sh d.2=M.pure (H.lI d.2) from M.bE h2 _,M.ki,M.aE];have e:(uj d.1||(if (!uj d.1)=true then H.lI d.2 else false)||decide (Int.ofNat l.length > 60))=(uj d.1||H.lI d.2||decide ((l.length:Int) > 60)):=by grind
 rw[e];by_cases aq:(uj d.1||H.lI d.2||decide ((l.length:Int) > 60))=true
 ·grind
 ·rw[if_neg aq,if_neg aq];rw[M.dm d.1.2.2.1 (λi (n:Int)=>(l,(d.1.2.2.2.1.length:Int),(d.1.2.2.1.length:Int),(d.1.2.2.2.2.1.length:Int),n,(i:Int),d,())) (λp n=>.next (IntKind.wrap .i64 (n+(p.2.2.2.2.length:Int)))) (λn=>.next (l,(d.1.2.2.2.1.length:Int),(d.1.2.2.1.length:Int),(d.1.2.2.2.2.1.length:Int),n,d,())) 0 ?_ ?_ ?_]
  ·rw[dV,M.aE,M.bL];rw[M.dm l (λi (c:Ek)=>(l,c.1,c.2.1,c.2.2.1,c.2.2.2,(i:Int),d,())) (λs c=>if decide ((s.length:Int) > 80)=true then .done (.done true) else .next (PT s c)) (λc=>.next (c.1,c.2.1,c.2.2.1,c.2.2.2,d,())) (ZM d) ?_ ?_ ?_]
   ·rw[PR,M.aE];by_cases aU:(l.any λs=>decide ((s.length:Int) > 80))=true
    ·simp_all
    ·rw[if_neg aU,if_neg aU,M.bL];rw[show oG.sh d=M.pure (ji d) from M.bE ⟨h1,h2⟩ _,M.aE];rfl
   ·rfl
   ·intro i E c;have hw:=bo (n:=(i:Int)+1) (by omega) (by omega);simp only[Prod.cI,Prod.e6,Prod.gp,bH,cH E,if_true,cZ E,cv E,M.bf,b8];by_cases hc:decide ((l[i].length:Int) > 80)=true
    ·simp_all
    ·rw[if_neg hc,if_neg hc];rw[aq7 (by grind),M.aE];unfold PT;split
     ·simp_all
     ·split
      ·simp_all
      ·split
       ·simp_all
       ·split
        ·rw[M.aE,M.bL];simp only[hw];rfl
        ·rw[M.aE,M.bL];simp only[hw];rfl
   simp
  ·rfl
  ·intro i E n;have hw:=bo (n:=(i:Int)+1) (by omega) (by omega);simp_all
  simp
abbrev El:aJ:=⟨.aw vR (.aw sE (.int .i64)),.bool,λx=>I1 (x.1,x.2.1),λx=>!uo x.1 x.2.1&&decide (ji x.1=0)&&decide ((x.2.1.length:Int)<=x.2.2)⟩
theorem arf(x):M.le (X9 I2.sh oG.sh x) (El.sh x):=M.bj λh=>by
 obtain⟨d,l,n⟩:=x;obtain⟨h1,h2,h3⟩:I1 (d,l):=h;unfold X9;rw[show I2.sh (d,l)=M.pure (uo d l) from M.bE ⟨h1,h2,h3⟩ _,M.aE,show oG.sh d=M.pure (ji d) from M.bE ⟨h1,h2⟩ _,M.ki,M.aE];grind
theorem arh{d:aV}{l:List aN}{n:Int}(h1:e' d.1)(h2:H.h' d.2)(h:(!uo d l&&decide (ji d=0)&&decide ((l.length:Int)<=n))=true):cU d/\(l.length:Int)<=n/\∀ s∈l,s.length<=80:=by
 simp only[Bool.and_eq_true,Bool.not_eq_true',decide_eq_true_eq]at h;obtain⟨⟨aq,he⟩,ax⟩:=h;unfold uo at aq;split at aq
 ·grind
 ·rename_i aU;split at aq
  ·grind
  ·rename_i aa;simp only[Bool.or_eq_true,not_or,Bool.not_eq_true]at aU;refine⟨ZF h1 (H.aml aU.1.2) he,ax,λs hs=>?_⟩;grind
theorem ari:e' oH.1/\H.h' oH.2:=⟨apD,by decide,by decide,by decide,by decide⟩
theorem arj:H.gr oH.2:=⟨⟨by decide,by decide,by decide,by decide⟩,λ_=>by decide +kernel⟩
abbrev Em:aJ:=⟨.cx,.bool,λ_=>True,λ_=>true⟩
theorem ark:vY oH o6=(IT,(gI (g_ oH) o6).2,0):=by
 unfold vY;rw[if_neg (by rw[aqY];decide),if_neg (by decide),PQ.1]
theorem arl(x):M.le (Yc sJ.sh yk.sh IS.sh x) (Em.sh x):=M.bj λ_=>by
 unfold Yc;rw[show IS.sh ()=M.pure oH from rfl,M.aE];show M.bind (sJ.sh (oH,o6)) _=M.pure true;rw[show sJ.sh (oH,o6)=M.pure (vY oH o6) from M.bE ⟨ari.1,arj,by decide,by decide⟩ _,M.aE,ark];show M.bind (bS (decide ((0:Int)=0)) (yk.sh (IT,IT)) false) _=_;rw[ZL (by decide),M.ki,M.aE];simp only[bH,PQ.2.1,PQ.2.2];simp
theorem arn:Em.sh ()=M.pure true:=rfl
theorem PU{d:aV}(ar:cU d){l:List aN}(ZN:l.length<=40)(ah:∀ s∈l,s.length<=10000):sJ.sh (d,l)=M.pure ((gI (g_ d) l).1,(gI (g_ d) l).2,0):=by
 have e:sJ.sh (d,l)=M.pure (vY d l):=M.bE ⟨ar.gz,ar.gr,by show l.length<2 ^ 63;omega,ah⟩ _;rw[e];unfold vY;rw[if_neg (by rw[ar.Zp];decide),if_neg (by omega)]
theorem Gp{d:aV}{l:List aN}{n:Int}(h1:e' d.1)(h2:H.h' d.2)(h3:l.length<2 ^ 63):El.sh (d,l,n)=M.pure (!uo d l&&decide (ji d=0)&&decide ((l.length:Int)<=n)):=M.bE ⟨h1,h2,h3⟩ _
end Go.Fer.W
namespace Go.Proofs
open Go.Shelf
theorem ch{P:Program}{k:Nat}{f g:Func}(h:P.funcs[k]?=some f)(e:f=g:=by kernel_rfl):P.funcs[k]?=some g:=h.trans (congrArg some e)
open Tryz
def Tryz.ZO:Go.Shelf.Ren:=⟨fun | 156=>258 | 165=>318 | 166=>319 | 169=>320 | 240=>358 | 241=>359 | 276=>386 | 277=>387 | n=>n,fun | 31=>48 | 9=>9 | 3=>3 | 4=>4 | 0=>0 | 20=>20 | 72=>345 | 76=>267 | 70=>343 | 37=>171 | 75=>266 | 127=>380 | 164=>405 | 5=>5 | 80=>347 | n=>n,fun | n=>n⟩
theorem Tryz.ZP : Go.Proofs.Lays.n156 Tryz.prog Tryz.ZO := {
  mixed:=by kernel_rfl
  f156:=ch func258
  f165:=ch func318
  f166:=ch func319
  f169:=ch func320
  f240:=ch func358
  f241:=ch func359
  f276:=ch func386
  f277:=ch func387
  t0:=underlying0
  a0:=isAgg0
  z0:=sizeOf0
  v0:=zeroValue0
  t3:=underlying3
  a3:=isAgg3
  z3:=sizeOf3
  v3:=zeroValue3
  t4:=underlying4
  a4:=isAgg4
  z4:=sizeOf4
  v4:=zeroValue4
  t9:=underlying9
  a9:=isAgg9
  z9:=sizeOf9
  v9:=zeroValue9
  t20:=underlying20
  a20:=isAgg20
  z20:=sizeOf20
  v20:=zeroValue20
  t31:=underlying48
  a31:=isAgg48
  z31:=sizeOf48
  v31:=zeroValue48
  t37:=underlying171
  a37:=isAgg171
  z37:=sizeOf171
  v37:=zeroValue171
  t70:=underlying343
  a70:=isAgg343
  z70:=sizeOf343
  v70:=zeroValue343
  t72:=underlying345
  a72:=isAgg345
  z72:=sizeOf345
  v72:=zeroValue345
  t75:=underlying266
  a75:=isAgg266
  z75:=sizeOf266
  v75:=zeroValue266
  t76:=underlying267
  a76:=isAgg267
  z76:=sizeOf267
  v76:=zeroValue267
  t127:=underlying380
  a127:=isAgg380
  z127:=sizeOf380
  v127:=zeroValue380
  t164:=underlying405
  a164:=isAgg405
  z164:=sizeOf405
  v164:=zeroValue405 }
theorem Tryz.ZQ : Builder.Extra Tryz.prog Tryz.ZO := {
  sizeBuilder:=by kernel_rfl
  liesBuilder:=by kernel_rfl
  t5:=underlying5
  a5:=isAgg5
  z5:=sizeOf5
  v5:=zeroValue5
  infoByte:=by kernel_rfl
  cellsByte:=by kernel_rfl
  sizeByte:=by kernel_rfl
  neB5:=by decide }
def Tryz.aro:Go.Shelf.Ren:=⟨fun | 171=>204 | 243=>264 | 246=>330 | 283=>368 | 284=>369 | 285=>370 | 286=>371 | 129=>291 | 317=>392 | 318=>393 | 319=>394 | 320=>395 | 337=>399 | 338=>400 | n=>n,fun | 3=>3 | 9=>9 | 2=>2 | 4=>4 | 171=>386 | 0=>0 | 53=>285 | 37=>171 | 5=>5 | 173=>388 | 212=>418 | 51=>282 | 20=>20 | 213=>419 | 46=>228 | 232=>423 | 233=>424 | n=>n,fun | 17=>5 | 18=>6 | 19=>7 | n=>n⟩
theorem Tryz.ZR : Go.Proofs.LaysM.n171 Tryz.prog Tryz.aro := {
  mixed:=by kernel_rfl
  f129:=ch func291
  f171:=ch func204
  f243:=ch func264
  f246:=ch func330
  f283:=ch func368
  f284:=ch func369
  f285:=ch func370
  f286:=ch func371
  f317:=ch func392
  f318:=ch func393
  f319:=ch func394
  f320:=ch func395
  f337:=ch func399
  f338:=ch func400
  t0:=underlying0
  a0:=isAgg0
  z0:=sizeOf0
  v0:=zeroValue0
  t2:=underlying2
  a2:=isAgg2
  z2:=sizeOf2
  v2:=zeroValue2
  t3:=underlying3
  a3:=isAgg3
  z3:=sizeOf3
  v3:=zeroValue3
  t4:=underlying4
  a4:=isAgg4
  z4:=sizeOf4
  v4:=zeroValue4
  t5:=underlying5
  a5:=isAgg5
  z5:=sizeOf5
  v5:=zeroValue5
  t9:=underlying9
  a9:=isAgg9
  z9:=sizeOf9
  v9:=zeroValue9
  t20:=underlying20
  a20:=isAgg20
  z20:=sizeOf20
  v20:=zeroValue20
  t37:=underlying171
  a37:=isAgg171
  z37:=sizeOf171
  v37:=zeroValue171
  t46:=underlying228
  a46:=isAgg228
  z46:=sizeOf228
  v46:=zeroValue228
  t51:=underlying282
  a51:=isAgg282
  z51:=sizeOf282
  v51:=zeroValue282
  t53:=underlying285
  a53:=isAgg285
  z53:=sizeOf285
  v53:=zeroValue285
  t171:=underlying386
  a171:=isAgg386
  z171:=sizeOf386
  v171:=zeroValue386
  t173:=underlying388
  a173:=isAgg388
  z173:=sizeOf388
  v173:=zeroValue388
  t212:=underlying418
  a212:=isAgg418
  z212:=sizeOf418
  v212:=zeroValue418
  t213:=underlying419
  a213:=isAgg419
  z213:=sizeOf419
  t232:=underlying423
  a232:=isAgg423
  z232:=sizeOf423
  v232:=zeroValue423
  t233:=underlying424
  a233:=isAgg424
  z233:=sizeOf424
  v233:=zeroValue424
  g17:=by kernel_rfl
  g18:=by kernel_rfl
  g19:=by kernel_rfl
  i0:=by kernel_rfl
  i2:=by kernel_rfl
  i3:=by kernel_rfl
  i4:=by kernel_rfl
  i5:=by kernel_rfl
  i9:=by kernel_rfl
  i20:=by kernel_rfl
  i37:=by kernel_rfl
  i46:=by kernel_rfl
  i51:=by kernel_rfl
  i53:=by kernel_rfl
  i171:=by kernel_rfl
  i173:=by kernel_rfl
  i212:=by kernel_rfl
  i232:=by kernel_rfl
  i233:=by kernel_rfl
  m17:=by kernel_rfl
  m18:=by kernel_rfl
  m19:=by kernel_rfl }
def Tryz.arp:Go.Shelf.Ren:=⟨fun | 172=>203 | 244=>262 | 245=>263 | 247=>325 | 279=>326 | 280=>327 | 281=>328 | 282=>329 | 287=>365 | 316=>366 | 171=>204 | 205=>367 | 321=>390 | 322=>391 | 243=>264 | 246=>330 | 283=>368 | 284=>369 | 285=>370 | 286=>371 | 129=>291 | 317=>392 | 318=>393 | 319=>394 | 320=>395 | 337=>399 | 338=>400 | n=>n,fun | 9=>9 | 3=>3 | 75=>266 | 76=>267 | 4=>4 | 5=>5 | 167=>351 | 37=>171 | 0=>0 | 85=>352 | 2=>2 | 168=>354 | 53=>285 | 175=>381 | 46=>228 | 210=>384 | 127=>380 | 145=>416 | 143=>414 | 21=>21 | 171=>386 | 173=>388 | 212=>418 | 51=>282 | 20=>20 | 213=>419 | 232=>423 | 233=>424 | 80=>347 | n=>n,fun | 15=>1 | 16=>2 | 17=>5 | 18=>6 | 19=>7 | n=>n⟩
theorem Tryz.PV : Go.Proofs.LaysC.n172 Tryz.prog Tryz.arp := {
  mixed:=by kernel_rfl
  f129:=ch func291
  f171:=ch func204
  f172:=ch func203
  f205:=ch func367
  f243:=ch func264
  f244:=ch func262
  f245:=ch func263
  f246:=ch func330
  f247:=ch func325
  f279:=ch func326
  f280:=ch func327
  f281:=ch func328
  f282:=ch func329
  f283:=ch func368
  f284:=ch func369
  f285:=ch func370
  f286:=ch func371
  f287:=ch func365
  f316:=ch func366
  f317:=ch func392
  f318:=ch func393
  f319:=ch func394
  f320:=ch func395
  f321:=ch func390
  f322:=ch func391
  f337:=ch func399
  f338:=ch func400
  t0:=underlying0
  a0:=isAgg0
  z0:=sizeOf0
  v0:=zeroValue0
  t2:=underlying2
  a2:=isAgg2
  z2:=sizeOf2
  v2:=zeroValue2
  t3:=underlying3
  a3:=isAgg3
  z3:=sizeOf3
  v3:=zeroValue3
  t4:=underlying4
  a4:=isAgg4
  z4:=sizeOf4
  v4:=zeroValue4
  t5:=underlying5
  a5:=isAgg5
  z5:=sizeOf5
  v5:=zeroValue5
  t9:=underlying9
  a9:=isAgg9
  z9:=sizeOf9
  v9:=zeroValue9
  t20:=underlying20
  a20:=isAgg20
  z20:=sizeOf20
  v20:=zeroValue20
  t21:=underlying21
  a21:=isAgg21
  z21:=sizeOf21
  v21:=zeroValue21
  t37:=underlying171
  a37:=isAgg171
  z37:=sizeOf171
  v37:=zeroValue171
  t46:=underlying228
  a46:=isAgg228
  z46:=sizeOf228
  v46:=zeroValue228
  t51:=underlying282
  a51:=isAgg282
  z51:=sizeOf282
  v51:=zeroValue282
  t53:=underlying285
  a53:=isAgg285
  z53:=sizeOf285
  v53:=zeroValue285
  t75:=underlying266
  a75:=isAgg266
  z75:=sizeOf266
  v75:=zeroValue266
  t76:=underlying267
  a76:=isAgg267
  z76:=sizeOf267
  v76:=zeroValue267
  t85:=underlying352
  a85:=isAgg352
  z85:=sizeOf352
  v85:=zeroValue352
  t127:=underlying380
  a127:=isAgg380
  z127:=sizeOf380
  v127:=zeroValue380
  t143:=underlying414
  a143:=isAgg414
  z143:=sizeOf414
  v143:=zeroValue414
  t145:=underlying416
  a145:=isAgg416
  z145:=sizeOf416
  v145:=zeroValue416
  t167:=underlying351
  a167:=isAgg351
  z167:=sizeOf351
  v167:=zeroValue351
  t168:=underlying354
  a168:=isAgg354
  z168:=sizeOf354
  v168:=zeroValue354
  t171:=underlying386
  a171:=isAgg386
  z171:=sizeOf386
  v171:=zeroValue386
  t173:=underlying388
  a173:=isAgg388
  z173:=sizeOf388
  v173:=zeroValue388
  t175:=underlying381
  a175:=isAgg381
  z175:=sizeOf381
  v175:=zeroValue381
  t210:=underlying384
  a210:=isAgg384
  z210:=sizeOf384
  v210:=zeroValue384
  t212:=underlying418
  a212:=isAgg418
  z212:=sizeOf418
  v212:=zeroValue418
  t213:=underlying419
  a213:=isAgg419
  z213:=sizeOf419
  t232:=underlying423
  a232:=isAgg423
  z232:=sizeOf423
  v232:=zeroValue423
  t233:=underlying424
  a233:=isAgg424
  z233:=sizeOf424
  v233:=zeroValue424
  g15:=by kernel_rfl
  g16:=by kernel_rfl
  g17:=by kernel_rfl
  g18:=by kernel_rfl
  g19:=by kernel_rfl
  t80:=underlying347
  a80:=isAgg347
  z80:=sizeOf347
  v80:=zeroValue347
  i0:=by kernel_rfl
  i2:=by kernel_rfl
  i3:=by kernel_rfl
  i4:=by kernel_rfl
  i5:=by kernel_rfl
  i9:=by kernel_rfl
  i20:=by kernel_rfl
  i21:=by kernel_rfl
  i37:=by kernel_rfl
  i46:=by kernel_rfl
  i51:=by kernel_rfl
  i53:=by kernel_rfl
  i75:=by kernel_rfl
  i76:=by kernel_rfl
  i80:=by kernel_rfl
  i85:=by kernel_rfl
  i127:=by kernel_rfl
  i143:=by kernel_rfl
  i145:=by kernel_rfl
  i167:=by kernel_rfl
  i168:=by kernel_rfl
  i171:=by kernel_rfl
  i173:=by kernel_rfl
  i175:=by kernel_rfl
  i210:=by kernel_rfl
  i212:=by kernel_rfl
  i232:=by kernel_rfl
  i233:=by kernel_rfl
  m15:=by kernel_rfl
  m16:=by kernel_rfl
  m17:=by kernel_rfl
  m18:=by kernel_rfl
  m19:=by kernel_rfl
  c0:=by kernel_rfl
  c2:=by kernel_rfl
  c3:=by kernel_rfl
  c4:=by kernel_rfl
  c5:=by kernel_rfl
  c9:=by kernel_rfl
  c20:=by kernel_rfl
  c21:=by kernel_rfl
  c37:=by kernel_rfl
  c46:=by kernel_rfl
  c51:=by kernel_rfl
  c53:=by kernel_rfl
  c75:=by kernel_rfl
  c76:=by kernel_rfl
  c80:=by kernel_rfl
  c85:=by kernel_rfl
  c127:=by kernel_rfl
  c143:=by kernel_rfl
  c145:=by kernel_rfl
  c167:=by kernel_rfl
  c168:=by kernel_rfl
  c171:=by kernel_rfl
  c173:=by kernel_rfl
  c175:=by kernel_rfl
  c210:=by kernel_rfl
  c212:=by kernel_rfl
  c213:=by kernel_rfl
  c232:=by kernel_rfl
  c233:=by kernel_rfl }
open Go.RowKit in
theorem Tryz.strconv_Atoi_ok(s:ByteArray)(y2:s.size<=9223372036854775806)(v:Int)(h:Lib.atoiAll s.data.toList=.ok v)(w:World) :
  Calls Tryz.prog 203 #[.string s] w λe w'=>e=.returned (.tuple #[.int .i64 v,.nilIface])/\(w'=w\/∃ t,w'=Lib.bytesWorld w 5 t):=Any.strconv_Atoi_ok Tryz.PV s y2 v h w
open Go.RowKit in
theorem Tryz.strconv_Atoi_syntax(s:ByteArray)(rJ:s.size<=281474976710656)(h:Lib.atoiAll s.data.toList=Lib.atoiAll [])(hW:Value)(w:World)(hv:w.cell? ⟨1,0,none⟩=some hW)(pk:hW=.nilIface\/∃ te pe,hW=.iface te pe) :
  Calls Tryz.prog 203 #[.string s] w λe w'=>∃ N,e=.returned (.tuple #[.int .i64 (0),.iface 354 (.pointer (some ⟨N,0,none⟩))])/\w.heap.size<=N/\w'.heap[N]?=some (.cells #[.string ⟨#[65,116,111,105]⟩,.string s,hW] 384 (0,0))/\Below w.heap.size w w':=Any.strconv_Atoi_syntax Tryz.PV s rJ h hW w hv pk
open Go.RowKit in
theorem Tryz.strconv_Atoi_range(s:ByteArray)(rJ:s.size<=281474976710656)(h:Lib.atoiAll s.data.toList=.range)(hW:Value)(w:World)(hv:w.cell? ⟨2,0,none⟩=some hW)(pk:hW=.nilIface\/∃ te pe,hW=.iface te pe) :
  Calls Tryz.prog 203 #[.string s] w λe w'=>∃ N,e=.returned (.tuple #[.int .i64 (Lib.atoiSat s.data.toList),.iface 354 (.pointer (some ⟨N,0,none⟩))])/\w.heap.size<=N/\w'.heap[N]?=some (.cells #[.string ⟨#[65,116,111,105]⟩,.string s,hW] 384 (0,0))/\Below w.heap.size w w':=Any.strconv_Atoi_range Tryz.PV s rJ h hW w hv pk
def Tryz.arq:Go.Shelf.Ren:=⟨fun | 146=>139 | 221=>202 | 268=>259 | 138=>260 | 143=>261 | 195=>321 | 197=>322 | 218=>323 | 219=>324 | 260=>360 | 217=>361 | 225=>362 | 224=>363 | 267=>364 | 266=>388 | 314=>389 | n=>n,fun | 9=>9 | 31=>48 | 3=>3 | 4=>4 | 0=>0 | 105=>348 | 21=>21 | 5=>5 | 46=>228 | 119=>408 | 139=>411 | 138=>410 | 146=>283 | 51=>282 | n=>n,fun | 1=>0 | 3=>3 | 4=>4 | n=>n⟩
theorem Tryz.ars : Go.Proofs.Lays.n146 Tryz.prog Tryz.arq := {
  mixed:=by kernel_rfl
  f138:=ch func260
  f143:=ch func261
  f146:=ch func139
  f195:=ch func321
  f197:=ch func322
  f217:=ch func361
  f218:=ch func323
  f219:=ch func324
  f221:=ch func202
  f224:=ch func363
  f225:=ch func362
  f260:=ch func360
  f266:=ch func388
  f267:=ch func364
  f268:=ch func259
  f314:=ch func389
  t0:=underlying0
  a0:=isAgg0
  z0:=sizeOf0
  v0:=zeroValue0
  t3:=underlying3
  a3:=isAgg3
  z3:=sizeOf3
  v3:=zeroValue3
  t4:=underlying4
  a4:=isAgg4
  z4:=sizeOf4
  v4:=zeroValue4
  t5:=underlying5
  a5:=isAgg5
  z5:=sizeOf5
  v5:=zeroValue5
  t9:=underlying9
  a9:=isAgg9
  z9:=sizeOf9
  v9:=zeroValue9
  t21:=underlying21
  a21:=isAgg21
  z21:=sizeOf21
  v21:=zeroValue21
  t31:=underlying48
  a31:=isAgg48
  z31:=sizeOf48
  v31:=zeroValue48
  t46:=underlying228
  a46:=isAgg228
  z46:=sizeOf228
  v46:=zeroValue228
  t51:=underlying282
  a51:=isAgg282
  z51:=sizeOf282
  v51:=zeroValue282
  t105:=underlying348
  a105:=isAgg348
  z105:=sizeOf348
  v105:=zeroValue348
  t119:=underlying408
  a119:=isAgg408
  z119:=sizeOf408
  t138:=underlying410
  a138:=isAgg410
  z138:=sizeOf410
  v138:=zeroValue410
  t139:=underlying411
  a139:=isAgg411
  z139:=sizeOf411
  v139:=zeroValue411
  t146:=underlying283
  a146:=isAgg283
  z146:=sizeOf283
  v146:=zeroValue283
  g1:=by kernel_rfl
  g3:=by kernel_rfl
  g4:=by kernel_rfl }
def Tryz.art:Go.Shelf.Ren:=⟨fun | 189=>161 | 125=>215 | 257=>214 | 128=>290 | 129=>291 | 294=>281 | 295=>282 | 296=>283 | 297=>284 | 298=>285 | 299=>286 | 216=>287 | 300=>288 | 301=>289 | 328=>340 | 329=>341 | 330=>342 | 331=>343 | 332=>344 | 215=>339 | 343=>383 | n=>n,fun | 28=>27 | 3=>3 | 46=>228 | 0=>0 | 51=>282 | 53=>285 | 4=>4 | 183=>314 | 182=>313 | 131=>193 | 5=>5 | 9=>9 | 218=>359 | 222=>363 | 228=>398 | 229=>331 | n=>n,fun | n=>n⟩
theorem Tryz.ZS : Go.Proofs.Lays.n189 Tryz.prog Tryz.art := {
  mixed:=by kernel_rfl
  f125:=ch func215
  f128:=ch func290
  f129:=ch func291
  f189:=ch func161
  f215:=ch func339
  f216:=ch func287
  f257:=ch func214
  f294:=ch func281
  f295:=ch func282
  f296:=ch func283
  f297:=ch func284
  f298:=ch func285
  f299:=ch func286
  f300:=ch func288
  f301:=ch func289
  f328:=ch func340
  f329:=ch func341
  f330:=ch func342
  f331:=ch func343
  f332:=ch func344
  f343:=ch func383
  t0:=underlying0
  a0:=isAgg0
  z0:=sizeOf0
  v0:=zeroValue0
  t3:=underlying3
  a3:=isAgg3
  z3:=sizeOf3
  v3:=zeroValue3
  t4:=underlying4
  a4:=isAgg4
  z4:=sizeOf4
  v4:=zeroValue4
  t5:=underlying5
  a5:=isAgg5
  z5:=sizeOf5
  v5:=zeroValue5
  t9:=underlying9
  a9:=isAgg9
  z9:=sizeOf9
  v9:=zeroValue9
  t28:=underlying27
  a28:=isAgg27
  z28:=sizeOf27
  v28:=zeroValue27
  t46:=underlying228
  a46:=isAgg228
  z46:=sizeOf228
  v46:=zeroValue228
  t51:=underlying282
  a51:=isAgg282
  z51:=sizeOf282
  v51:=zeroValue282
  t53:=underlying285
  a53:=isAgg285
  z53:=sizeOf285
  v53:=zeroValue285
  t131:=underlying193
  a131:=isAgg193
  z131:=sizeOf193
  v131:=zeroValue193
  t182:=underlying313
  a182:=isAgg313
  z182:=sizeOf313
  v182:=zeroValue313
  t183:=underlying314
  a183:=isAgg314
  z183:=sizeOf314
  v183:=zeroValue314
  t218:=underlying359
  a218:=isAgg359
  z218:=sizeOf359
  v218:=zeroValue359
  t222:=underlying363
  a222:=isAgg363
  z222:=sizeOf363
  v222:=zeroValue363
  t228:=underlying398
  a228:=isAgg398
  z228:=sizeOf398
  v228:=zeroValue398
  t229:=underlying331
  a229:=isAgg331
  z229:=sizeOf331
  v229:=zeroValue331 }
def Tryz.aru:Go.Shelf.Ren:=⟨fun | 4=>257 | n=>n,fun | 22=>27 | 25=>3 | 3=>3 | 4=>4 | 9=>9 | 20=>20 | 0=>0 | n=>n,fun | n=>n⟩
theorem Tryz.ZT : Go.Proofs.Lays8.n4 Tryz.prog Tryz.aru := {
  mixed:=by kernel_rfl
  f4:=⟨Tryz.f257.name,by decide,ch func257⟩
  t0:=underlying0
  a0:=isAgg0
  z0:=sizeOf0
  v0:=zeroValue0
  t3:=underlying3
  a3:=isAgg3
  z3:=sizeOf3
  v3:=zeroValue3
  t4:=underlying4
  a4:=isAgg4
  z4:=sizeOf4
  v4:=zeroValue4
  t9:=underlying9
  a9:=isAgg9
  z9:=sizeOf9
  v9:=zeroValue9
  t20:=underlying20
  a20:=isAgg20
  z20:=sizeOf20
  v20:=zeroValue20
  t22:=underlying27
  a22:=isAgg27
  z22:=sizeOf27
  v22:=zeroValue27 }
def Tryz.arv:Go.Shelf.Ren:=⟨fun | 4=>256 | n=>n,fun | 22=>34 | 25=>125 | 3=>3 | 4=>4 | 9=>9 | 20=>20 | 0=>0 | n=>n,fun | n=>n⟩
theorem Tryz.ZU : Go.Proofs.Lays8.n4 Tryz.prog Tryz.arv := {
  mixed:=by kernel_rfl
  f4:=⟨Tryz.f256.name,by decide,ch func256⟩
  t0:=underlying0
  a0:=isAgg0
  z0:=sizeOf0
  v0:=zeroValue0
  t3:=underlying3
  a3:=isAgg3
  z3:=sizeOf3
  v3:=zeroValue3
  t4:=underlying4
  a4:=isAgg4
  z4:=sizeOf4
  v4:=zeroValue4
  t9:=underlying9
  a9:=isAgg9
  z9:=sizeOf9
  v9:=zeroValue9
  t20:=underlying20
  a20:=isAgg20
  z20:=sizeOf20
  v20:=zeroValue20
  t22:=underlying34
  a22:=isAgg34
  z22:=sizeOf34
  v22:=zeroValue34 }
end Go.Proofs
namespace Go.Fer.W
theorem ZV:∀ s:aN,(Go.Lib.index s [32]=-1/\cJ s=[s])\/∃ t r,s=t++32::r/\Go.Lib.index s [32]=(t.length:Int)/\cJ s=t::cJ r
 | []=>.inl ⟨rfl,rfl⟩
 | b::l=>by
  unfold Go.Lib.index;by_cases aa:b=32
  ·subst aa;exact .inr ⟨[],l,rfl,by rfl,by rfl⟩
  ·have hp:List.isPrefixOf [32] (b::l)=false:=by
    grind
   rw[hp];have hs:=vS l;rcases ZV l with⟨h1,h2⟩ | ⟨t,r,h1,h2,h3⟩
   ·rw[h1];refine .inl ⟨rfl,?_⟩;unfold cJ;grind
   ·rw[h2];refine .inr ⟨b::t,r,by grind,?_,?_⟩
    ·rfl
    ·conv=>lhs;unfold cJ
     grind
theorem arw:∀ (n:Nat) (s:aN),s.length<=n->Go.Lib.splitK [32] 0 (Go.Lib.count s [32]) s=cJ s:=by
 intro n;induction n with
 | zero=>
  intro s h;have:s=[]:=List.eq_nil_of_length_eq_zero (by omega);subst this;rfl
 | succ n aG=>
  intro s h;rcases ZV s with⟨h1,h2⟩ | ⟨t,r,h1,h2,h3⟩
  ·rw[Go.Lib.count_miss h1,h2];rfl
  ·rw[Go.Lib.count_hit (by simp) h2,h3,Nat.add_comm,Go.Lib.splitK,h2];have:((t.length:Int) == -1)=false:=by rfl
   rw[this];have e:((t.length:Int)).toNat=t.length:=rfl;have WS:s.drop (t.length+1)=r:=by simp_all
   grind
end Go.Fer.W
namespace Go.Fer.nT
open Go Go.Proofs Go.RowKit
section
variable {P:Program} {F:Nat->Prop} {w:World}
theorem PW(x:List UInt8):(ByteArray.mk x.toArray).data.toList=x:=by simp
theorem I3(x:List UInt8):(ByteArray.mk x.toArray).size=x.length:=by rfl
theorem PX{args:List Value}{x:List UInt8}(h:eY P .str F w args x):args=[.string ⟨x.toArray⟩]/\x.length<2 ^ 63:=by
 obtain⟨v,rfl,hv⟩:=(ru rfl).1 h;obtain⟨rfl,ah⟩:=lO.1 hv;grind
theorem arx{args:List Value}{x y:List UInt8}(h:eY P (.aw .str .str) F w args (x,y)):args=[.string ⟨x.toArray⟩,.string ⟨y.toArray⟩]/\x.length<2 ^ 63/\y.length<2 ^ 63:=by
 obtain⟨v,us,rfl,hv,hu⟩:=EF h;obtain⟨rfl,ah⟩:=lO.1 hv;obtain⟨rfl,fS⟩:=PX hu;grind
theorem ary(w:World)(k:Nat)(os:Array Obj):Below w.heap.size w (Go.Sort.grow (w.drewN k) os):=by
 refine⟨rfl,rfl,rfl,?_,λj aB=>?_⟩
 ·simp
 ·show (w.heap++os)[j]?=_;grind
theorem I4(h:nj Tryz.prog F w){b:Nat}(aa:b<6):F b/\Qz b λi=>w.cell? ⟨b,i,none⟩:=h b (Nat.lt_of_lt_of_le aa (of_decide_eq_true (by rfl)))
end
theorem ZW(sep:ByteArray):∀ (k:Nat) (s:ByteArray),∀ x∈Lib.splitB sep 0 k s,x.size<=s.size
 | 0,s,x,hx=>by
  unfold Lib.splitB at hx;grind
 | k+1,s,x,hx=>by
  unfold Lib.splitB at hx;split at hx
  ·grind
  ·simp only[List.mem_cons]at hx;rcases hx with rfl | hx
   ·rw[ByteArray.size_extract];omega
   ·have:=ZW sep k _ x hx;rw[ByteArray.size_extract]at this;omega
def pV(s sep:List UInt8):List (List UInt8):=(Lib.splitB ⟨sep.toArray⟩ 0 (Lib.countB ⟨s.toArray⟩ ⟨sep.toArray⟩) ⟨s.toArray⟩).map (·.data.toList)
theorem arz(s:List UInt8):pV s [32]=W.cJ s:=by
 unfold pV;rw[Lib.splitB_data];exact W.arw s.length s (Nat.le_refl _)
abbrev arA:Code:=Tryz.f139.body.getD .skip
theorem arB:hK Tryz.prog 139 (.aw .str .str) (.slice .str) W.IJ.sh where
 enter:=tF Tryz.func139 (show Tryz.f139.body=some arA by rfl) (by rfl)
 iD:=λF w args x ba fQ aU hs=>by
  obtain⟨s,sep⟩:=x;obtain⟨hs,h1⟩:s.length<=10000/\sep=[32]:=hs;subst h1;obtain⟨rfl,ah,fS⟩:=arx aU;obtain⟨_,m,aj⟩:=I4 fQ (b:=0) (by decide);have bU:1<=(ByteArray.mk [32].toArray).size:=by decide
  refine (Any.strings_Split Tryz.ars (by kernel_rfl) ⟨s.toArray⟩ ⟨[32].toArray⟩ m w (by rw[I3];omega) aj bU).mono ?_;rintro e w' ⟨rfl,rfl⟩;have hlen:=Lib.splitB_all ⟨[32].toArray⟩ bU 0 _ ⟨s.toArray⟩ rfl;have qZ:=Lib.countB_le ⟨[32].toArray⟩ bU _ ⟨s.toArray⟩ (Nat.le_refl _);rw[I3]at qZ;have jX:=ZW ⟨[32].toArray⟩ (Lib.countB ⟨s.toArray⟩ ⟨[32].toArray⟩) ⟨s.toArray⟩;rw[I3]at jX;have wI:(pV s [32]).length=Lib.countB ⟨s.toArray⟩ ⟨[32].toArray⟩+1:=by unfold pV;grind
  refine⟨_,pV s [32],rfl,arz s,⟨[_],rfl,(ru rfl).2 ⟨_,rfl,(dw rfl).2 ⟨rfl,some ⟨w.heap.size,0,none⟩,Lib.countB ⟨s.toArray⟩ ⟨[32].toArray⟩+1,by rw[wI],by omega,by omega,nofun,λp hp hc=>?_⟩⟩⟩,?_⟩
  ·cases hp;refine⟨.inr ⟨Nat.le_refl _,by simp⟩,rfl,λi E=>?_⟩;have db:i<(Lib.splitB ⟨[32].toArray⟩ 0 (Lib.countB ⟨s.toArray⟩ ⟨[32].toArray⟩) ⟨s.toArray⟩).length:=by omega
   generalize aL:Lib.splitB ⟨[32].toArray⟩ 0 (Lib.countB ⟨s.toArray⟩ ⟨[32].toArray⟩) ⟨s.toArray⟩=B at db jX hlen;have je:(pV s [32])[i]=B[i].data.toList:=by
    have h2:pV s [32]=B.map (·.data.toList):=by unfold pV;rw[aL]
    grind
   have e0:Value.string B[i]=.string ⟨(B[i].data.toList).toArray⟩:=by simp
   refine⟨[.string B[i]],⟨.inr ⟨Nat.le_refl _,by simp⟩,rfl,λj aB=>?_⟩,?_,?_⟩
   ·have aB:j=0:=by grind
    subst aB;rw[uF (pJ w _)];have e1:0+i*ad.size .str+0=i:=by show 0+i*1+0=i;omega
    grind
   ·simp_all
   ·have:=jX _ (List.getElem_mem db);have e:(B[i]).data.toList.length=(B[i]).size:=Array.length_toList;grind
  ·exact (Below.refl _ _).alloc (Nat.le_refl _) _
theorem ZX{F : Nat -> Prop}{w : World}(h : nj Tryz.prog F w) : Lib.TabIs Tryz.prog w "internal/strconv.uint64pow10" .u64 Lib.pow10Tab := by
 have bu:∀ i,w.cell? ⟨5,i,none⟩=if i<20 then some (.int .u64 (10 ^ i)) else none:=(I4 h (b:=5) (by decide)).2
 unfold Lib.TabIs World.var?;rw[show Tryz.prog.globalNamed "internal/strconv.uint64pow10" = some 5 by rfl];show (match w.heap[5]? with | some (.cells cs _ _)=>some cs | _=>none)=_;have h0:=bu 0;cases af:w.heap[5]? with
 | none=>simp[World.cell?,af]at h0
 | some o=>
  cases o with
  | cells cs T ep=>
   simp only[Option.some.injEq];apply Array.ext_getElem?;intro i;have E:=bu i;simp only[World.cell?,af,Option.isSome_none,Bool.false_eq_true,if_false]at E;rw[E];split
   ·rename_i I5;simp only[List.getElem?_toArray,List.getElem?_map,Lib.pow10Tab];grind
   ·rename_i I5;rw[Array.getElem?_eq_none];simp[Lib.pow10Tab];omega
  | _=>simp[World.cell?,af]at h0
abbrev arC:Code:=Tryz.f204.body.getD .skip
theorem arD{P:Program}{F:Nat->Prop}{w:World}{args:List Value}{x:Int}(h:eY P (.int .i64) F w args x):args=[.int .i64 x]/\fw .i64 x:=by
 obtain⟨v,rfl,hv⟩:=(ru rfl).1 h;obtain⟨rfl,ah⟩:=gx.1 hv;grind
theorem arE{n:Int}(h:fw .i64 n):-9223372036854775808<=n/\n<=9223372036854775807:=h
theorem arF:hK Tryz.prog 204 (.int .i64) .str W.IA.sh where
 enter:=tF Tryz.func204 (show Tryz.f204.body=some arC by rfl) (by rfl)
 iD:=λF w args x ba fQ aU hs=>by
  change Int at x;obtain⟨rfl,G⟩:=arD aU;obtain⟨h0,h1⟩:=arE G;refine (Any.strconv_Itoa Tryz.ZR x h0 h1 w (ZX fQ)).mono ?_;rintro e w' ⟨rfl,k,os,rfl⟩;have hx:W.rn x=Lib.itoa x:=by unfold W.rn;rw[bo h0 (by omega)]
  refine⟨_,W.rn x,rfl,rfl,⟨[_],rfl,(ru rfl).2 ⟨_,rfl,lO.2 ⟨by rw[hx],Nat.lt_of_le_of_lt (W.Ph x) (by decide)⟩⟩⟩,ary w k os⟩
abbrev arG:Code:=Tryz.f258.body.getD .skip
theorem arH:hK Tryz.prog 258 (.aw (.slice .str) .str) .str W.Ee.sh where
 enter:=tF Tryz.func258 (show Tryz.f258.body=some arG by rfl) (by rfl)
 iD:=λF w args x ba fQ aU hs=>by
  obtain⟨l,sep⟩:=x;obtain⟨ax,hw,h1⟩:l.length<=60000/\(∀ w∈l,w.length<=21)/\sep.length=1:=hs;have zA:=W.Zq l sep 21 hw;have h1:sep.length=1:=h1;have ax:l.length<=60000:=ax;rw[h1]at zA;have aB:(Lib.join l sep).length<2 ^ 63:=by omega
  obtain⟨v,us,rfl,hv,hu⟩:=EF aU;obtain⟨rfl,_⟩:=PX hu;obtain⟨_,p,cap,hZ,c2,c3,c4,c5⟩:=(dw rfl).1 hv;obtain rfl:v=.slice p l.length cap:=by grind
  change l.length<=cap at c2;have fin:∀ w',Below w.heap.size w w'->∃ v y,Ending.returned (.string ⟨(Lib.join l sep).toArray⟩)=.returned v/\(W.Ee.sh (l,sep)).bB y/\sR Tryz.prog .str (uv F w w') w' v y/\Below w.heap.size w w':=λw' aa=>
   ⟨_,Lib.join l sep,rfl,rfl,⟨[_],rfl,(ru rfl).2 ⟨_,rfl,lO.2 ⟨rfl,aB⟩⟩⟩,aa⟩
  by_cases ah:l=[]
  ·subst ah;refine (Any.strings_Join_none Tryz.ZP Tryz.ZQ p cap ⟨sep.toArray⟩ w).mono ?_;rintro e w' ⟨rfl,rfl⟩;exact fin _ (Below.refl _ _)
  ·have kP:0<l.length:=List.length_pos_iff.2 ah;obtain⟨q,rfl⟩:∃ q,p=some q:=by
    cases p with
    | none=>grind
    | some q=>simp
   obtain⟨d1,d2,d3⟩:=c5 q rfl (by omega);obtain⟨arI,o,sp⟩:=q;obtain rfl:sp=none:=d2;have hlen:(l.map λx:List UInt8=>ByteArray.mk x.toArray).length=l.length:=List.length_map ..;have JK:(l.map λx:List UInt8=>ByteArray.mk x.toArray).map (·.data.toList)=l:=by rw[List.map_map];exact (List.map_congr_left λx _=>PW x).trans (List.map_id _)
   have:=Any.strings_Join Tryz.ZP Tryz.ZQ arI o cap (l.map λx:List UInt8=>ByteArray.mk x.toArray) ⟨sep.toArray⟩ w (λj x hx=>by
    rw[List.getElem?_map]at hx;obtain⟨y,aK,rfl⟩:=Option.map_eq_some_iff.1 hx;obtain⟨zA,rfl⟩:=List.getElem?_eq_some_iff.1 aK;obtain⟨a7,⟨_,_,e3⟩,e4⟩:=d3 j zA;obtain⟨rfl,_⟩:=e4;have:=e3 0 (by simp);simpa [ad.size]using this) (ba _ d1) (by omega) (by omega) (by grind)
   rw[hlen,JK,PW]at this;refine this.mono ?_;simp_all
end Go.Fer.nT
namespace Go.Proofs
open Go.RowKit
theorem Tryz.arJ{P:Program}{w w':World}{n:String}{k:IntKind}{zs:z1'}(h:Lib.TabIs P w n k zs)(aa:Below w.heap.size w w'):Lib.TabIs P w' n k zs:=by
 unfold Lib.TabIs World.var? at *
 cases az:P.globalNamed n with
 | none=>rw[az]at h;cases h
 | some g=>
  rw[az]at h;simp only[Option.bind_some]at h ⊢;by_cases b1:g<w.heap.size
  ·rw[aa.block g b1];exact h
  ·rw[Array.getElem?_eq_none (by omega)]at h;cases h
set_option maxHeartbeats 4000000 in
set_option maxRecDepth 1000000 in
theorem Tryz.arK(s:ByteArray)(w:World)(v:Int)(y2:s.size<=9223372036854775806)(h:Lib.atoiAll s.data.toList=.ok v)(h0:-9223372036854775808<=v)(h1:v<=9223372036854775807)
  (arL : Lib.TabIs Tryz.prog w "internal/strconv.uint64pow10" .u64 Lib.pow10Tab) :
  Calls Tryz.prog 140 #[.string s] w λe w'=>e=.returned (.tuple #[.int .i64 v,.bool (decide (s.size<=6)&&decide (0<=v)&&decide (Lib.itoa v=s.data.toList))])/\Below w.heap.size w w':=by
 go_enter Tryz.func140,Tryz.ntmps140;go_wp2_with fail;refine (Tryz.strconv_Atoi_ok s y2 v h w).mono ?_;rintro e b2 ⟨rfl,lu⟩;have l0:Below w.heap.size w b2:=by
  rcases lu with rfl | ⟨t,rfl⟩
  ·exact Below.refl _ _
  ·exact Lib.bytesWorld_below w 5 t
 have arM:=Tryz.arJ arL l0;clear lu;by_cases aM:(s.size:Int)<=6
 ·by_cases aO:v>=0
  ·go_wp2_with fail;refine (Any.strconv_Itoa Tryz.ZR v h0 h1 b2 arM).mono ?_;rintro e cF ⟨rfl,k,os,rfl⟩;have pQ:Below w.heap.size w (Go.Sort.grow (b2.drewN k) os):=l0.trans ⟨rfl,rfl,rfl,by show _<=(b2.heap++os).size;simp,λj aB=>by
    have:=l0.size;show (b2.heap++os)[j]?=_;rw[Array.getElem?_append_left (by omega)]⟩
   generalize Go.Sort.grow (b2.drewN k) os=cF at pQ;go_wp2;go_returns;refine⟨congrArg Ending.returned (congrArg Value.tuple ?_),pQ⟩;show #[Value.int IntKind.i64 v,Value.bool (Lib.itoa v == s.toList)]=_;rw[Go.ByteArray.toList_eq,show decide (s.size<=6)=true from decide_eq_true (by omega),show decide (0<=v)=true from decide_eq_true aO,Bool.true_and,Bool.true_and,show (Lib.itoa v == s.data.toList)=decide (Lib.itoa v=s.data.toList) by rw[Bool.eq_iff_iff];simp]
  ·go_wp2;go_returns;refine⟨congrArg Ending.returned (congrArg Value.tuple ?_),l0⟩;show #[Value.int IntKind.i64 v,Value.bool false]=_;rw[show decide (0<=v)=false from decide_eq_false (by omega),Bool.and_false,Bool.false_and]
 ·go_wp2;go_returns;refine⟨congrArg Ending.returned (congrArg Value.tuple ?_),l0⟩;show #[Value.int IntKind.i64 v,Value.bool false]=_;rw[show decide (s.size<=6)=false from decide_eq_false (by omega),Bool.false_and,Bool.false_and]
set_option maxHeartbeats 4000000 in
set_option maxRecDepth 1000000 in
theorem Tryz.arN(s:ByteArray)(w:World)(rJ:s.size<=281474976710656)(h:Lib.atoiAll s.data.toList=Lib.atoiAll [])(hW:Value)(hv:w.cell? ⟨1,0,none⟩=some hW)(pk:hW=.nilIface\/∃ te pe,hW=.iface te pe) :
  Calls Tryz.prog 140 #[.string s] w λe w'=>e=.returned (.tuple #[.int .i64 0,.bool false])/\Below w.heap.size w w':=by
 go_enter Tryz.func140,Tryz.ntmps140;go_wp2_with fail;refine (Tryz.strconv_Atoi_syntax s rJ h hW w hv pk).mono ?_;rintro e b2 ⟨N,rfl,_,_,l0⟩;go_wp2;go_returns;exact⟨rfl,l0⟩
set_option maxHeartbeats 4000000 in
set_option maxRecDepth 1000000 in
theorem Tryz.arO(s:ByteArray)(w:World)(rJ:s.size<=281474976710656)(h:Lib.atoiAll s.data.toList=.range)(hW:Value)(hv:w.cell? ⟨2,0,none⟩=some hW)(pk:hW=.nilIface\/∃ te pe,hW=.iface te pe) :
  Calls Tryz.prog 140 #[.string s] w λe w'=>e=.returned (.tuple #[.int .i64 (Lib.atoiSat s.data.toList),.bool false])/\Below w.heap.size w w':=by
 go_enter Tryz.func140,Tryz.ntmps140;go_wp2_with fail;refine (Tryz.strconv_Atoi_range s rJ h hW w hv pk).mono ?_;rintro e b2 ⟨N,rfl,_,_,l0⟩;go_wp2;go_returns;exact⟨rfl,l0⟩
end Go.Proofs
namespace Go.Fer.W
open M (V)
theorem ZY:∀ (s:aN) (n:Int),0<=n->fJ s n≠-1->n<=fJ s n
 | [],n,_,_=>Int.le_refl _
 | c::s,n,h,h1=>by
  unfold fJ at h1 ⊢;split at h1
  ·omega
  ·rename_i hc;rw[if_neg hc];simp only[Bool.or_eq_true,decide_eq_true_eq,not_or]at hc;have:=ZY s _ (by omega) h1;omega
theorem PY(d:UInt8):∀ (s:aN) (n:Int),0<=n->fJ (s++[d]) n=if fJ s n=-1 then -1 else if (decide ((d.toNat:Int)<48)||decide ((d.toNat:Int) > 57))=true then -1 else 10*fJ s n+((d.toNat:Int) - 48)
 | [],n,h=>by
  show fJ [d] n=if n=-1 then _ else _
  rw[if_neg (by omega)];rfl
 | c::s,n,h=>by
  rw[List.cons_append];conv=>lhs;unfold fJ
  by_cases hc:(decide ((c.toNat:Int)<48)||decide ((c.toNat:Int) > 57))=true
  ·rw[if_pos hc,show fJ (c::s) n=-1 by unfold fJ;grind,if_pos rfl]
  ·rw[if_neg hc,show fJ (c::s) n=fJ s (10*n+((c.toNat:Int) - 48)) from (if_neg hc:(if (decide ((c.toNat:Int)<48)||decide ((c.toNat:Int) > 57))=true then (-1:Int) else _)=_)];simp only[Bool.or_eq_true,decide_eq_true_eq,not_or]at hc;exact PY d s _ (by omega)
theorem PZ(k:Nat)(h:k<10):((UInt8.ofNat (48+k)).toNat:Int)=48+k:=by
 have:(UInt8.ofNat (48+k)).toNat=(48+k) % 256:=UInt8.toNat_ofNat';omega
theorem arP(u:Nat):fJ (Go.Lib.decDigits u) 0=u:=by
 induction u using Nat.strongRecOn with
 | _ u aG=>
  unfold Go.Lib.decDigits;split
  ·rename_i h;have:=PZ u h;unfold fJ;rw[if_neg (by grind),this];show (10*0+(48+(u:Int) - 48))=u;omega
  ·rename_i h;have ar:=PZ (u % 10) (by omega);rw[PY _ _ _ (Int.le_refl _),aG (u / 10) (by omega),if_neg (by omega),if_neg (by grind),ar];omega
theorem arQ(u:Nat):Go.Lib.decDigits u≠[]/\(1<(Go.Lib.decDigits u).length->((Go.Lib.decDigits u).getD 0 0).toNat≠48):=by
 induction u using Nat.strongRecOn with
 | _ u aG=>
  by_cases h:u<10
  ·rw[Go.Lib.decDigits_one h];simp
  ·obtain⟨h1,h2⟩:=aG (u / 10) (by omega);have e:Go.Lib.decDigits u=Go.Lib.decDigits (u / 10)++[UInt8.ofNat (48+u % 10)]:=by
    conv=>lhs;unfold Go.Lib.decDigits
    grind
   rw[e];refine⟨by simp,λ_=>?_⟩;have ah:0<(Go.Lib.decDigits (u / 10)).length:=List.length_pos_iff.2 h1;rw[show (Go.Lib.decDigits (u / 10)++[UInt8.ofNat (48+u % 10)]).getD 0 0=(Go.Lib.decDigits (u / 10)).getD 0 0 by
    grind]
   by_cases h3:1<(Go.Lib.decDigits (u / 10)).length
   ·omega
   ·have pF:u / 10<10:=by
     refine Classical.byContradiction λax=>h3 ?_;have e2:Go.Lib.decDigits (u / 10)=Go.Lib.decDigits (u / 10 / 10)++[UInt8.ofNat (48+u / 10 % 10)]:=by
      conv=>lhs;unfold Go.Lib.decDigits
      grind
     grind
    rw[Go.Lib.decDigits_one pF];have:=PZ (u / 10) pF;grind
theorem arR:∀ (n:Nat) (s:aN),s.length=n->s≠[]->(1<s.length->(s.getD 0 0).toNat≠48)->fJ s 0≠-1->Go.Lib.decDigits (fJ s 0).toNat=s:=by
 intro n;induction n with
 | zero=>simp
 | succ n aG=>
  intro s h1 h2 h3 aQ;obtain⟨a,d,rfl⟩:∃ a d,s=a++[d]:=⟨s.dropLast,s.getLast h2,(List.dropLast_concat_getLast h2).symm⟩
  rw[PY _ _ _ (Int.le_refl _)]at aQ ⊢;split at aQ
  ·omega
  ·rename_i aU;split at aQ
   ·omega
   ·rename_i ar;rw[if_neg aU,if_neg ar];simp only[Bool.or_eq_true,decide_eq_true_eq,not_or]at ar;have LD:UInt8.ofNat (48+(d.toNat - 48))=d:=by
     apply UInt8.toNat_inj.1;rw[UInt8.toNat_ofNat'];omega
    by_cases ax:a=[]
    ·subst ax;have e:(10*fJ [] 0+((d.toNat:Int) - 48)).toNat=d.toNat - 48:=by show (10*0+((d.toNat:Int) - 48)).toNat=_;omega
     rw[e,Go.Lib.decDigits_one (by omega),LD];rfl
    ·have ah:0<a.length:=List.length_pos_iff.2 ax;have cy:(a.getD 0 0).toNat≠48:=by
      grind
     have hp:1<=fJ a 0:=by
      cases a with
      | nil=>grind
      | cons c r=>
       unfold fJ at aU ⊢;split at aU
       ·omega
       ·rename_i hc;rw[if_neg hc];simp only[Bool.or_eq_true,decide_eq_true_eq,not_or]at hc;have axp:c.toNat≠48:=cy;have:=ZY r _ (by omega) aU;omega
     have E:=aG a (by grind) ax (λ_=>cy) aU;have e1:(10*fJ a 0+((d.toNat:Int) - 48)).toNat / 10=(fJ a 0).toNat:=by omega
     have e2:(10*fJ a 0+((d.toNat:Int) - 48)).toNat % 10=d.toNat - 48:=by omega
     conv=>lhs;unfold Go.Lib.decDigits
     grind
theorem arS{s:aN}{v:Int}(h:Go.Lib.atoiAll s=.ok v):(decide (s.length<=6)&&decide (0<=v)&&decide (Go.Lib.itoa v=s))=decide (0<=eW s):=by
 rw[Bool.eq_iff_iff];simp only[Bool.and_eq_true,decide_eq_true_eq];constructor
 ·rintro⟨⟨cW,hv⟩,E⟩;obtain⟨u,rfl⟩:∃ u:Nat,v=u:=⟨v.toNat,by omega⟩
  have e:Go.Lib.itoa (u:Int)=Go.Lib.decDigits u:=by rfl
  rw[e]at E;obtain⟨aM,aO⟩:=arQ u;rw[E]at aM aO;unfold eW;rw[if_neg]
  ·have:=arP u;grind
  grind
 ·intro ax;have e:=PL ax;rw[h]at e;obtain rfl:v=eW s:=by grind
  refine⟨⟨?_,ax⟩,?_⟩
  ·unfold eW at ax;grind
  ·have e:Go.Lib.itoa (eW s)=Go.Lib.decDigits (eW s).toNat:=by unfold Go.Lib.itoa;grind
   rw[e];unfold eW at ax ⊢;split at ax
   ·omega
   ·rename_i aa;rw[if_neg aa];simp only[Bool.or_eq_true,Bool.and_eq_true,decide_eq_true_eq,not_or,not_and]at aa;exact arR _ s rfl (λe=>aa.1.1 (by grind)) aa.2 (by omega)
theorem ZZ{s:aN}(h:∀ v,Go.Lib.atoiAll s≠.ok v):decide (0<=eW s)=false:=decide_eq_false λax=>h _ (PL ax)
end Go.Fer.W
namespace Go.Fer.nT
open Go Go.Proofs Go.RowKit
abbrev arT:Code:=Tryz.f140.body.getD .skip
theorem arU:hK Tryz.prog 140 .str (.aw (.int .i64) .bool) W.Eg.sh where
 enter:=tF Tryz.func140 (show Tryz.f140.body=some arT by kernel_rfl) (by kernel_rfl)
 iD:=λF w args x ba fQ aU hs=>by
  change List UInt8 at x;have hs:x.length<=10000:=hs;obtain⟨rfl,ah⟩:=PX aU;have aa:=PW x;have a8:=I3 x;have fin:∀ (n:Int) (b:Bool) (w':World),fw .i64 n->W.qP x=(n,b)->Below w.heap.size w w'->∃ v y,Ending.returned (.tuple #[.int .i64 n,.bool b])=.returned v/\(W.Eg.sh x).bB y/\sR Tryz.prog (.aw (.int .i64) .bool) (uv F w w') w' v y/\Below w.heap.size w w':=λn b w' G he ym=>
   ⟨_,(n,b),rfl,he.symm,⟨[.int .i64 n,.bool b],rfl,Bk.2 ⟨gx.2 ⟨rfl,G⟩,(ru rfl).2 ⟨_,rfl,eQ.2 rfl⟩⟩⟩,ym⟩
  cases he:Lib.atoiAll x with
  | ok v=>
   have hv:=Lib.atoiAll_bounds he;refine (Tryz.arK ⟨x.toArray⟩ w v (by rw[a8];omega) (by rw[aa];exact he) hv.1 hv.2 (ZX fQ)).mono ?_;rintro e w' ⟨rfl,ym⟩;refine fin v _ w' hv ?_ ym;rw[aa,a8,W.arS he];unfold W.qP W.sF;rw[he]
  | range=>
   obtain⟨_,hW,hv,pk⟩:=I4 fQ (b:=2) (by decide);refine (Tryz.arO ⟨x.toArray⟩ w (by rw[a8];omega) (by rw[aa];exact he) hW hv pk).mono ?_;rintro e w' ⟨rfl,ym⟩;rw[aa]at *
   refine fin _ _ w' (Lib.atoiSat_bounds x) ?_ ym;unfold W.qP W.sF;rw[he,W.ZZ λv h=>by rw[he]at h;cases h]
  | _=>
   obtain⟨_,hW,hv,pk⟩:=I4 fQ (b:=1) (by decide);refine (Tryz.arN ⟨x.toArray⟩ w (by rw[a8];omega) (by rw[aa];exact he) hW hv pk).mono ?_;rintro e w' ⟨rfl,ym⟩;refine fin 0 _ w' (by decide) ?_ ym;unfold W.qP W.sF;rw[he,W.ZZ λv h=>by rw[he]at h;cases h]
end Go.Fer.nT
namespace Go.Fer
open Go.RowKit
abbrev mg:ad:=.int .i64
def P0(x:z1'×Unit):M (z1'×Unit):=M.dt (x.1.length<4611686018427387904) (x.1.mergeSort (λa b=>decide (a<=b)),())
def pD:IOC:=⟨⟨[(0,.own 200001)],[(200001,.a6 mg)]⟩,⟨[],[(200001,.a6 mg)]⟩,[],1,P0⟩
section
variable {P:Program} {F:Nat->Prop} {w:World}
theorem Z0{cs:Array Value}{off:Nat}{xs:z1'}(h:lb P mg F w cs off xs){i:Nat}(E:i<xs.length):cs[off+i]?=some (.int .i64 xs[i])/\fw .i64 xs[i]:=by
 obtain⟨a7,h1,h2,h3⟩:=h i E;subst h2;have:=h1 0 (by simp);refine⟨?_,h3⟩;have e:off+i*ad.size mg+0=off+i:=by show off+i*1+0=off+i;omega
 rw[e]at this;exact this
theorem arV{cs:Array Value}{off:Nat}{xs:z1'}(h:∀ i (h:i<xs.length),cs[off+i]?=some (.int .i64 xs[i])/\fw .i64 xs[i]):lb P mg F w cs off xs:=λi E=>by
 obtain⟨h1,h2⟩:=h i E;refine⟨[.int .i64 xs[i]],λj aB=>?_,rfl,h2⟩;have aB:j=0:=by simpa using aB
 subst aB;have e:off+i*ad.size mg+0=off+i:=by show off+i*1+0=off+i;omega
 rw[e];exact h1
theorem arW{cs:Array Value}{T:TypeId}{b off:Nat}{xs:z1'}(aa:w.heap[b]?=some (.cells cs T (0,0)))(h:lb P mg F w cs off xs):Go.Sort.Holds (Value.int .i64) w b off xs.toArray:=λj aB=>by
 have fx:j<xs.length:=by simpa using aB
 obtain⟨h1,_⟩:=Z0 h fx;refine⟨?_,by simp[World.frozen?,aa]⟩;simp only[World.cell?,aa];simp only[Option.isSome_none,Bool.false_eq_true,if_false];rw[h1];simp[fx]
theorem arX{cs:Array Value}{off:Nat}{xs ys:z1'}(ah:ys.length=xs.length)(hin:∀ y∈ys,fw .i64 y)(bU:off+xs.length<=cs.size):lb P mg F w (Go.Sort.putCells (Value.int .i64) off ys.toArray cs) off ys:=by
 refine arV λi E=>⟨?_,hin _ (List.getElem_mem E)⟩
 have h1:off+i<cs.size:=by omega
 simp[Go.Sort.putCells,h1,E]
end
section
variable {P:Program} {U:dd}
theorem arY{k:FuncId}(he:∀ args w,(callFunc k args).run P w=.ok (.enter k args) w)
  (h1:∀ (ab off cap:Nat) (zs:z1') (w:World),Go.Sort.Holds (Value.int .i64) w ab off zs.toArray->ab<w.heap.size->zs.length<4611686018427387904->Calls P k #[.slice (some ⟨ab,off,none⟩) zs.length cap] w λe w'=>
   e=.returned (.tuple #[])/\∃ n os,w'=Go.Sort.grow (Go.Sort.putRow (Value.int .i64) (Go.Sort.ahead w n) ab off (zs.mergeSort λx y=>decide (x<=y)).toArray) os)
  (h0:∀ (p:Option Addr) (cap:Nat) (w:World),Calls P k #[.slice p 0 cap] w λe w'=>e=.returned (.tuple #[])/\w'=w):IoSpec P U k pD where
 enter:=he
 iD C a w κ F A i_ zM G ar qY s6 h hs:=by
  obtain⟨xs,u⟩:=A;have hlen:xs.length<4611686018427387904:=hs;have bU:a.tmps.size=1:=h.df.trans qY;have pZ:=h.bD 0;have aa:=h.bl 200001;change jl C.P _ κ F w (κ 200001) (.a6 mg xs) at aa;have hv:a.tmps.getD 0 undef=(κ 200001).slice xs.length:=pZ.2 rfl rfl;have aU:a.tmps=#[(κ 200001).slice xs.length]:=by
   apply Array.ext (by simp[bU]);intro i E dn;have:i=0:=by omega
   subst this;rw[<-hv];simp[Array.getD,bU]
  have p4:∀ τ,τ=((xs.mergeSort (λx y=>decide (x<=y)),()):z1'×Unit)->(pD.sh (xs,u)).bB τ:=λτ e=>e;have nC:∀ {w':World} {F':Nat->Prop} {ys:z1'},a_ C (ay.mk (pD.b3.st (xs,u)).au λi=>if i=200001 then ⟨0,.a6 mg ys⟩ else (pD.b3.st (xs,u)).ab i) a w' κ F'->a_ { C with nt:=0 } (pD.bB.st (ys,())) { tmps:=#[],defers:=[] } w' κ F':=λ{w' F' ys} jA=>by
   have e:(pD.bB.st (ys,())).ab=λi=>if i=200001 then (⟨0,.a6 mg ys⟩:bt) else (pD.b3.st (xs,u)).ab i:=by
    funext i;show ek [(200001,bA.a6 mg ys)] i=if i=200001 then _ else ek [(200001,bA.a6 mg xs)] i
    simp only[ek];by_cases E:i=200001
    ·rw[if_pos E,if_pos E]
    ·rw[if_neg E,if_neg E,if_neg E]
   refine { df:=rfl,dfr:=ar.symm,bD:=λi=>trivial,bl:=λb=>?_,own:=λb=>?_,inj:=λb aZ=>?_,cK:=jA.cK,gK:=jA.gK,hy:=jA.hy,gV:=jA.gV,d':=jA.d',size:=jA.size,dO:=jA.dO,fO:=Nat.zero_le _,j6:=jA.j6,jm:=λb r=>?_,jN:=jA.jN,j7:=λb k=>?_,pro:=λl aH L n st e=>(by cases e),jn:=jA.jn,ie:=jA.ie }
   ·rw[e];exact jA.bl b
   ·rw[e];exact jA.own b
   ·rw[e];exact jA.inj b aZ
   ·rw[e];exact jA.jm b r
   ·rw[e];exact jA.j7 b k
  subst i_;rw[aU];by_cases ax:(κ 200001).eI=true
  ·have hx:xs=[]:=aa.1 ax;subst hx;have hZ:(κ 200001).slice 0=.slice none 0 0:=by simp[bk.slice,ax]
   rw[show ([]:z1').length=0 from rfl,hZ];refine (h0 none 0 w).mono ?_;rintro e w' ⟨rfl,rfl⟩;refine⟨_,([],()),[],κ,F,rfl,p4 _ (congrArg (λl=>(l,())) List.mergeSort_nil.symm),⟨[],rfl,rfl,rfl⟩,nC ?_⟩;have e:(λi=>if i=200001 then (⟨0,.a6 mg []⟩:bt) else (pD.b3.st ([],u)).ab i)=(pD.b3.st ([],u)).ab:=by
    funext i;by_cases E:i=200001
    ·subst E;rfl
    ·rw[if_neg E]
   rw[e];exact h
  ·have ax:(κ 200001).eI=false:=by simpa using ax
   obtain⟨cs,T,dr,eC,mi,rs,EA⟩:=aa.2 ax;have fP:((pD.b3.st (xs,u)).ab 200001).body.bI (κ 200001)=true:=by show (!(κ 200001).eI)=true;rw[ax];rfl
   have af:=h.own 200001 fP;have hZ:(κ 200001).slice xs.length=.slice (some ⟨(κ 200001).ab,(κ 200001).off,none⟩) xs.length (κ 200001).cap:=by simp[bk.slice,ax]
   rw[hZ];refine (h1 (κ 200001).ab (κ 200001).off (κ 200001).cap xs w (arW dr EA) af.1 hlen).mono ?_;rintro e w' ⟨rfl,n,os,rfl⟩;have hp:(xs.mergeSort λx y=>decide (x<=y)).Perm xs:=List.mergeSort_perm _ _;generalize jS:(xs.mergeSort λx y=>decide (x<=y))=ys at hp p4;have Z1:ys.length=xs.length:=hp.length_eq;have EZ:(κ 200001).off+xs.length<=cs.size:=by
    have:(κ 200001).cap*ad.size mg=(κ 200001).cap:=Nat.mul_one _;omega
   have hin:∀ y∈ys,fw .i64 y:=λy aK=>by
    have:=hp.mem_iff.1 aK;obtain⟨i,E,rfl⟩:=List.getElem_of_mem this;exact (Z0 EA E).2
   have arZ:(Go.Sort.putRow (Value.int .i64) (Go.Sort.ahead w n) (κ 200001).ab (κ 200001).off ys.toArray).heap[(κ 200001).ab]?=some (.cells (Go.Sort.putCells (Value.int .i64) (κ 200001).off ys.toArray cs) T (0,0)):=by
    simp[Go.Sort.putRow,Go.Sort.mapBlock,Go.Sort.ahead,Array.getElem?_modify,dr,Go.Sort.onCells]
   have wb:a_ C ((pD.b3.st (xs,u)).b_ 200001 ⟨0,.a6 mg ys⟩) a (Go.Sort.putRow (Value.int .i64) (Go.Sort.ahead w n) (κ 200001).ab (κ 200001).off ys.toArray) κ F:=by
    refine h.oL (b:=200001) (x:=⟨0,.a6 mg ys⟩) fP ?_ ?_ nofun nofun (λr G=>?_) (by simp[Go.Sort.putRow,Go.Sort.mapBlock,Go.Sort.ahead]) ⟨rfl,rfl,rfl⟩ (λH mu hU jW=>⟨λhc=>absurd (ax.symm.trans hc) nofun,λ_=>?_⟩)
    ·show (!(κ 200001).eI)=true;rw[ax];rfl
    ·intro b;by_cases aa:b=200001
     ·subst aa;exact⟨Nat.le_refl _,λ_=>⟨nofun,λ_=>⟨rfl,rfl,Z1,rfl⟩,nofun,nofun⟩⟩
     ·show pI _ (if b=200001 then _ else _) _ _;rw[if_neg aa];exact pI.refl _ _
    ·simp[Go.Sort.putRow,Go.Sort.mapBlock,Go.Sort.ahead,Array.getElem?_modify,Ne.symm G]
    ·refine⟨_,T,arZ,?_,?_,rs,arX Z1 hin EZ⟩
     ·simpa [Go.Sort.putCells]using eC
     ·show ys.length<=_;omega
   refine⟨_,(ys,()),[],κ,_,rfl,p4 _ rfl,⟨[],rfl,rfl,rfl⟩,nC (wb.grow ?_)⟩;refine⟨rfl,rfl,rfl,by simp[Go.Sort.grow],λk an=>?_⟩;simp only[Go.Sort.grow];rw[Array.getElem?_append_left an]
end
end Go.Fer
namespace Go.Fer
open Go.RowKit
def ar0(e:ad)(x:Int×Unit):M (List e.ag×Unit):=M.dt (0<=x.1/\x.1<60000) ([],())
def uq(e:ad):IOC:=⟨⟨[(0,.cQ),(1,.val (.int .i64))],[]⟩,⟨[(0,.own 50000)],[(50000,.a6 e)]⟩,[none],2,ar0 e⟩
section
variable {P:Program} {U:dd} {e:ad}
theorem Z2{C:bP}{a:Act}{w w':World}{κ:Nat->bk}{F:Nat->Prop}{A:(uq e).b3.ag}(h:a_ C ((uq e).b3.st A) a w κ F)(ar:C.dfr=[]){kb:bk}{v:Value}
  (hv:v=kb.slice 0) (bU:w.heap.size<=w'.heap.size) (hw:∀ r,r<w.heap.size->w'.heap[r]?=w.heap[r]?) (hc:cL w w') (kQ:kb.eI=false->kb.ab=w.heap.size/\w.heap.size<w'.heap.size)
  (aL:kb.eI=false->∃ cs T,w'.heap[kb.ab]?=some (.cells cs T (0,0))/\kb.off+kb.cap*e.size<=cs.size/\kb.cap<2 ^ 63) :
  a_ { C with nt:=1 } ((uq e).bB.st ([],())) { tmps:=#[v],defers:=[] } w' (λi=>if i=50000 then kb else κ i) F:=by
 have aa:∀ b,((uq e).bB.st ([],())).ab b=if b=50000 then ⟨0,.a6 e []⟩ else ⟨0,.fb⟩:=λb=>rfl
 have aU:∀ b,b≠50000->((uq e).bB.st ([],())).ab b=⟨0,.fb⟩:=λb ax=>by rw[aa,if_neg ax]
 have bu:((uq e).bB.st ([],())).ab 50000=⟨0,.a6 e []⟩:=rfl;have fP:∀ b,(((uq e).bB.st ([],())).ab b).body.bI (if b=50000 then kb else κ b)=true->b=50000/\kb.eI=false:=λb af=>by
  by_cases e:b=50000
  ·subst e;rw[bu,if_pos rfl]at af;exact⟨rfl,by simpa [bA.bI]using af⟩
  ·rw[aU b e]at af;cases af
 refine { df:=rfl,dfr:=ar.symm,bD:=λi=>?_,bl:=λb=>?_,own:=λb af=>?_,inj:=λb aZ h1 h2 _=>?_,cK:=λr G=>Nat.lt_of_lt_of_le (h.cK r G) bU,gK:=h.gK,hy:=h.hy,gV:=h.gV,d':=λr G=>?_,size:=Nat.le_trans h.size bU,dO:=h.dO.trans hc,fO:=(by unfold eo;exact (by decide:1<=100000)),j6:=h.j6,jm:=λb r G iJ=>?_,jN:=h.jN,j7:=λb k an _ E=>?_,pro:=λl aH L n st e=>(by cases e),jn:=h.jn,ie:=h.ie.mono (λ_ h=>h) ⟨bU,λr G=>hw r (h.cK r G)⟩ }
 ·by_cases E:i=0
  ·subst E;refine⟨⟨Nat.le_refl _,?_⟩,λ_ _=>?_⟩
   ·show v.oneCell'=true;rw[hv];unfold bk.slice;split<;>rfl
   ·show v=_;rw[hv];show kb.slice 0=(if (50000:Nat)=50000 then kb else κ 50000).slice 0;rw[if_pos rfl]
  ·have:((uq e).bB.st ([],())).au i=.undef:=by
    show e5 [(0,aC.own 50000 0)] i=.undef;simp[e5,E]
   rw[this];trivial
 ·unfold cf;by_cases e1:b=50000
  ·subst e1;rw[bu];show jl _ _ _ _ _ (if (50000:Nat)=50000 then kb else κ 50000) (.a6 e []);rw[if_pos rfl];refine⟨λ_=>rfl,λax=>?_⟩;obtain⟨cs,T,h1,h2,h3⟩:=aL ax;exact⟨cs,T,h1,h2,Nat.zero_le _,h3,λi E=>absurd E (Nat.not_lt_zero _)⟩
  ·rw[aU b e1];trivial
 ·obtain⟨rfl,ax⟩:=fP b af;obtain⟨h1,h2⟩:=kQ ax;rw[if_pos rfl,h1];refine⟨h2,λaq=>?_,λan=>?_⟩
  ·have:=h.cK _ aq;omega
  ·have:=h.gV _ an;have:=h.size;omega
 ·rw[(fP b h1).1,(fP aZ h2).1]
 ·have h1:=h.gV r G;rw[hw r (Nat.lt_of_lt_of_le h1 h.size)];exact h.d' r G
 ·by_cases e1:b=50000
  ·subst e1;rw[bu]at iJ;rcases iJ with h | h<;>cases h
  ·rw[aU b e1]at iJ;rcases iJ with h | h<;>cases h
 ·by_cases e1:b=50000
  ·subst e1;have:=h.jN _ _ an;unfold wu at this;omega
  ·rw[aU b e1]at E;cases E
theorem Z3{k:FuncId}(he:∀ args w,(callFunc k args).run P w=.ok (.enter k args) w)
  (h0:∀ w:World,Calls P k #[.slice none 0 0,.int .i64 0] w λe w'=>e=.returned (.slice none 0 0)/\w'=w)
  (h1:∀ (n:Nat) (w:World),0<n->n<60000->Calls P k #[.slice none 0 0,.int .i64 (n:Int)] w λy w'=>∃ (bV:Nat) (T:TypeId) (cs:Array Value),y=.returned (.slice (some ⟨w.heap.size,0,none⟩) 0 bV)/\
   w'=w.drew.alloc (.cells cs T)/\bV<2 ^ 63/\bV*e.size<=cs.size):IoSpec P U k (uq e) where
 enter:=he
 iD C a w κ F A i_ zM G ar qY s6 h hs:=by
  obtain⟨n,u⟩:=A;change Int at n;obtain⟨rO,pT⟩:0<=n/\n<60000:=hs;have bU:a.tmps.size=2:=h.df.trans qY;have ar1:a.tmps.getD 0 undef=.slice none 0 0:=h.bD 0;have pK:a.tmps.getD 1 undef=.int .i64 n:=(gx.1 (h.bD 1)).1;have aU:a.tmps=#[.slice none 0 0,.int .i64 n]:=by
   apply Array.ext (by simp[bU]);intro i E dn;have:i=0\/i=1:=by omega
   rcases this with rfl | rfl
   ·rw[<-ar1];simp[Array.getD,bU]
   ·rw[<-pK];simp[Array.getD,bU]
  subst i_;rw[aU];by_cases a8:n=0
  ·subst a8;refine (h0 w).mono ?_;rintro y w' ⟨rfl,rfl⟩;refine⟨_,([],()),[.slice none 0 0],_,F,rfl,rfl,⟨[.slice none 0 0],rfl,rfl,[],rfl,rfl⟩,Z2 h ar (kb:=⟨0,0,0,true⟩) rfl (Nat.le_refl _) (λ_ _=>rfl) (cL.refl _) nofun nofun⟩
  ·obtain⟨m,rfl⟩:∃ m:Nat,n=m:=⟨n.toNat,by omega⟩
   refine (h1 m w (by omega) (by omega)).mono ?_;rintro y w' ⟨bV,T,cs,rfl,rfl,fQ,oO⟩;refine⟨_,([],()),[.slice (some ⟨w.heap.size,0,none⟩) 0 bV],_,F,rfl,rfl,⟨[_],rfl,rfl,[],rfl,rfl⟩,Z2 h ar (kb:=⟨w.heap.size,0,bV,false⟩) rfl (by simp) (λr G=>?_) ⟨rfl,rfl,rfl⟩ (λ_=>⟨rfl,by simp⟩) (λ_=>⟨cs,T,?_,by simpa using oO,fQ⟩)⟩
   ·exact oK w.drew _ G
   ·show (w.drew.heap.push _)[w.heap.size]?=_;exact Array.getElem?_push_size
theorem Z4{aD:Go.Shelf.Ren}(L:Go.Proofs.Lays8.n4 P aD)(w:World):Calls P (aD.f 4) #[.slice none 0 0,.int .i64 0] w λe w'=>e=.returned (.slice none 0 0)/\w'=w:=
 Go.Proofs.Any8.slices_Grow_room L none 0 0 0 w (Nat.le_refl _) (by decide) (by decide) (Nat.le_refl _)
theorem Z5{aD:Go.Shelf.Ren}(L:Go.Proofs.Lays8.n4 P aD)(aF:bO P e (aD.t 25))(hs:e.size≠0)(n:Nat)(w:World)(h0:0<n)(h1:n<60000) :
  Calls P (aD.f 4) #[.slice none 0 0,.int .i64 (n:Int)] w λy w'=>∃ (bV:Nat) (T:TypeId) (cs:Array Value),y=.returned (.slice (some ⟨w.heap.size,0,none⟩) 0 bV)/\w'=w.drew.alloc (.cells cs T)/\bV<2 ^ 63/\bV*e.size<=cs.size:=by
 obtain⟨i0,z,n5,bU,aa,Kf,ar2,_⟩:=j_ aF.j9;have mF:0<i0.size:=by omega
 have ti:=(BK (P:=P) e ar2).2;refine (Go.Proofs.Any8.slices_Grow_grow L i0 z n5 Kf mF none 0 0 n [] w (Nat.le_refl _) (by omega) ?_ (by omega) (by simp) (λ_=>rfl) nofun).mono ?_
 ·have:(0+n)*i0.bytes<=(0+n)*1024:=Nat.mul_le_mul_left _ aa;omega
 ·rintro y w' ⟨rfl,rfl⟩;refine⟨_,_,_,rfl,rfl,?_,?_⟩
  ·have:=grownCap_le_maxLen w (0+n) 0 (aD.t 25) (by unfold maxLen;omega);unfold maxLen at this;omega
  ·have:=grownCap_ge w (0+n) 0 (aD.t 25);generalize grownCap w (0+n) 0 (aD.t 25)=bV at this;simp only[Array.size_append,size_zeroCells,ti];have e1:(0+n - 0)*e.size+(bV - (0+n))*e.size=bV*e.size:=by rw[<-Nat.add_mul];congr 1;omega
   have e2:(#[]:Array Value).size=0:=rfl;omega
end
end Go.Fer
namespace Go.Fer.nT
open Go.Proofs
def En(U:dd)(c:IOC)(sh:Nat->c.b3.ag->M c.bB.ag):List Nat->Prop
 | []=>True
 | k::l=>IoSpec Tryz.prog U k { c with sh:=sh k }/\En U c sh l
theorem En.mem{U:dd}{c:IOC}{sh:Nat->c.b3.ag->M c.bB.ag}:∀ {l:List Nat},En U c sh l->∀ k∈l,IoSpec Tryz.prog U k { c with sh:=sh k }
 | [],_,k,h=>by cases h
 | j::l,h,k,an=>by
  rcases List.mem_cons.1 an with rfl | an
  ·exact h.1
  ·exact En.mem h.2 k an
theorem yn{k:Nat}{e:ad}{f:List e.ag×Unit->M (List e.ag×Unit)}{sh:(ad.slice e).ag->M (ad.slice e).ag}(h:IoSpec Tryz.prog noU k ⟨⟨[(0,.val (.slice e))],[]⟩,⟨[(0,.own 60)],[(60,.a6 e)]⟩,[none],1,f⟩)
  (hp:∀ x:List e.ag,(sh x).b4->(f (x,())).b4/\∀ τ,(f (x,())).bB τ->τ.1=(sh x).val (ad.slice e).cM):nm (SC.ow ⟨.slice e,.slice e,sh,true⟩).tr=true/\BY Tryz.prog k (SC.ow ⟨.slice e,.slice e,sh,true⟩):=
 ail (by simp) h l5 (b0:=60) (λx=>(x,())) (λx=>rfl) rfl (by show 1<=eo;decide) rfl (λτ=>τ.1) (λτ=>⟨rfl,rfl⟩) hp
abbrev ar3:Code:=Tryz.f161.body.getD .skip
theorem ar4(U:dd):IoSpec Tryz.prog U 161 pD:=
 arY (tF Tryz.func161 (show Tryz.f161.body=some ar3 by kernel_rfl) (by kernel_rfl)) (λab off cap zs w h1 h2 h3=>calls_of_every_depth λD=>AnyS.slices_Sort_int_in Tryz.ZS D ab off cap zs w h1 h2 h3)
  λp cap w=>Any.slices_Sort_int_none Tryz.ZS p cap w
theorem ar5:P0=H.xL:=by
 funext x;unfold P0 H.xL;rw[show x.1.mergeSort (λa b=>decide (a<=b))=H.e7 H.gU x.1 from (H.z_ ((List.pairwise_mergeSort (le:=λa b:Int=>decide (a<=b)) (λa b c h1 h2=>by simp at h1 h2 ⊢;omega) (λa b=>by simp;omega) x.1).imp λh=>by simpa using h) (List.mergeSort_perm _ _).symm).symm]
def P1:IOC:=⟨⟨[(0,.own 200001)],[(200001,.a6 t3)]⟩,⟨[],[(200001,.a6 t3)]⟩,[],1,H.xL⟩
theorem Z6:IoSpec Tryz.prog noU 161 P1:=by
 have:=ar4 noU;unfold pD at this;rw[ar5]at this;exact this
abbrev ar6:Code:=Tryz.f257.body.getD .skip
abbrev ar7:Code:=Tryz.f256.body.getD .skip
def Z7:IOC:=⟨⟨[(0,.cQ),(1,.val t3)],[]⟩,⟨[(0,.own 50000)],[(50000,.a6 t3)]⟩,[none],2,H.Ip⟩
def Z8:IOC:=⟨⟨[(0,.cQ),(1,.val t3)],[]⟩,⟨[(0,.own 50000)],[(50000,.a6 H.gS)]⟩,[none],2,H.Iq⟩
theorem ar8:IoSpec Tryz.prog noU 257 Z7:=
 Z3 (e:=t3) (tF Tryz.func257 (show Tryz.f257.body=some ar6 by kernel_rfl) (by kernel_rfl)) (Z4 Tryz.ZT) (Z5 Tryz.ZT (nH.bR (id:=3) rfl (by decide)) (by decide))
theorem ar9:IoSpec Tryz.prog noU 256 Z8:=
 Z3 (e:=H.gS) (tF Tryz.func256 (show Tryz.f256.body=some ar7 by kernel_rfl) (by kernel_rfl)) (Z4 Tryz.ZU) (Z5 Tryz.ZU (nH.bR (id:=125) rfl (by decide)) (by decide))
def g1:=aij.cons (n:=139) (c:=W.IJ.c6) ⟨arB,λ_ _=>M.u_⟩
def dP:=g1.cons (n:=204) (c:=W.IA.c6) ⟨arF,λ_ _=>M.u_⟩
def g3:=dP.cons (n:=258) (c:=W.Ee.c6) ⟨arH,λ_ _=>M.u_⟩
def ar_:=g3.cons (n:=140) (c:=W.Eg.c6) ⟨arU,λ_ _=>M.u_⟩
end Go.Fer.nT
namespace Go.Fer.W
open M (V)
open H (hr)
theorem ar'{d:aV}(h:cU d):oG.sh d=M.pure 0:=by
 have e:oG.sh d=M.pure (ji d):=M.bE ⟨h.gz,h.h'⟩ _;rw[e,h.Zp]
theorem asa{d:aV}(ar:cU d)(ax:pB d){l:List aN}(ZN:l.length<=40)(ah:∀ s∈l,s.length<=10000):sJ.sh (d,l)=M.pure ((gI d l).1,(gI d l).2,0):=by
 have:=PU ar ZN ah;rwa [aqR ar ax]at this
theorem abI(x:aV×List aN×Int)(h1:e' x.1.1)(h2:H.h' x.1.2)(h3:x.2.1.length<2 ^ 63):Oj oG.sh sJ.sh Ej.sh El.sh Em.sh yk.sh x=M.pure true:=by
 obtain⟨d,l,c⟩:=x;unfold Oj;rw[Gp h1 h2 h3,M.aE,arn];by_cases G:(!uo d l&&decide (ji d=0)&&decide ((l.length:Int)<=40))=true
 ·rw[G];by_cases hc:0<=c/\c<=(l.length:Int)
  ·obtain⟨ar,ax,asb⟩:=arh h1 h2 G;obtain⟨k,rfl⟩:∃ k:Nat,c=k:=⟨c.toNat,by omega⟩
   have an:k<=l.length:=by omega
   have ax:l.length<=40:=by omega
   have jW:=ZC ar;have ah:∀ s∈l,s.length<=10000:=λs hs=>by have:=asb s hs;omega
   have aF:∀ s∈l.take k,s.length<=10000:=λs hs=>ah s (List.mem_of_mem_take hs);have asc:∀ s∈l.drop k,s.length<=10000:=λs hs=>ah s (List.mem_of_mem_drop hs);rw[if_neg (by simp;omega),PU ar ax ah,M.aE];have q2:=PU ar (l:=l.take k) (by simp;omega) aF;have aK:=ZD jW aF;have q3:=asa (l:=l.drop k) aK (aqU (aqQ ar) _) (by simp;omega) asc;have e:=ap5 (g_ d) (l.take k) (l.drop k);rw[List.take_append_drop]at e;have hx:=ZD jW ah;have aa:=Zn (g_ d) (l.take k);have aq:=Zn (g_ d) l;rw[e]at aq hx ⊢;simp only[bH,Int.toNat_natCast,List.take_length,q2,M.iC,M.fg,q3,ar' aK,M.ki,M.aE,M.bf,List.nil_append];have pQ:(gI (g_ d) (l.take k)).1.length<=40:=by rw[aa];simp;omega
   rw[ZL (by simp only[List.length_append]at aq ⊢;omega),arc hx];have eD:bX (gI (g_ d) (l.take k)).1.length:=hr (by omega);have nU:bX ((gI (g_ d) (l.take k)).1.length+(gI (gI (g_ d) (l.take k)).2 (l.drop k)).1.length):=hr (by simp only[List.length_append]at aq;omega);simp[M.ki,an,ax,M.bn];rw[M.bn eD,M.bn nU]
  ·rw[if_pos (by simp;omega),M.aE]
 ·rw[if_pos (by rw[Bool.not_eq_true]at G;rw[G];rfl),M.aE]
end Go.Fer.W
namespace Go.Fer.nT
open Go.Proofs Go.Proofs.Tryz
open M (V)
set_option maxRecDepth 100000
noncomputable section
abbrev L:cd:=.ei
abbrev S(a b:cd):cd:=.seq a b
abbrev D:cd:=S L L
abbrev C(a b:cd):cd:=.cond a b
abbrev B(a:cd):cd:=.block a
abbrev J(s:List (Nat×bG))(b:List (Nat×bM))(x y:cd):cd:=.join ⟨s,b⟩ x y
abbrev W(s:List (Nat×bG))(b:List (Nat×bM))(x:cd):cd:=.loop ⟨s,b⟩ x
abbrev bV(s:List (Nat×bG))(b:List (Nat×bM))(t:List (Nat×bG))(c:List (Nat×bM))(u:List (Nat×bG))(d:List (Nat×bM))(x y:cd):cd:=.range ⟨s,b⟩ ⟨t,c⟩ ⟨u,d⟩ x y
abbrev v2:bG:=.val t2
abbrev a2:bM:=.a6 t2
abbrev v4:bG:=.val t4
abbrev v9:bG:=.val t9
abbrev a9:bM:=.a6 t9
abbrev v22:bG:=.val t22
abbrev rq:bG:=.val C9
abbrev v24:bG:=.val GK
abbrev P2:bM:=.fH tH
abbrev dS:bG:=.val t27
abbrev Eo:bM:=.a6 t27
abbrev v28:bG:=.val t28
abbrev A6:bG:=.val GL
abbrev pE:bG:=.val zR
abbrev yo:bM:=.fH t32
abbrev nd:bG:=.val p7
abbrev v34:bG:=.val t34
abbrev Z9:bM:=.fH Mw
abbrev I6:bM:=.fH sM
abbrev Ep:bM:=.fH wc
abbrev P3:bM:=.a6 zQ
abbrev rr:bG:=.val EB
abbrev I7:bM:=.a6 xu
abbrev P4:bM:=.fH xu
abbrev asd:bM:=.a6 u5
abbrev A7:bM:=.a6 q1
abbrev ase:bM:=.fH q1
abbrev asf:bM:=.a6 xw
abbrev Z_:bM:=.fH xw
abbrev asg:bG:=.val My
abbrev Er:bM:=.fH p8
abbrev Z':bG:=.val Ue
abbrev A8:bG:=.val C_
abbrev aaa:bG:=.val iM
abbrev v':bM:=.a6 iM
abbrev P5:bG:=.val u6
abbrev aab:bG:=.val Uf
abbrev aac:bG:=.val o9
abbrev Es:bM:=.a6 o9
abbrev ash:bG:=.val Ug
abbrev aad:bG:=.val MA
abbrev aae:bG:=.val MB
abbrev gw:bM:=.a6 p9
abbrev yp:bM:=.fH p9
abbrev P6:bG:=.val MC
abbrev kn:bG:=.val oi
abbrev asi:bG:=.val Um
abbrev aaf:bM:=.fH Mx
abbrev P7:bM:=.a6 zO
abbrev aag:bM:=.fH zO
abbrev P8:bG:=.val GJ
abbrev aah:bM:=.a6 xv
abbrev asj:bM:=.a6 zP
abbrev aai:bM:=.fH zP
abbrev asl:bG:=.val Un
abbrev P9:bG:=.val ME
abbrev v228:bG:=.val t228
abbrev asm:bG:=.val Uq
abbrev asn:bG:=.val Ur
abbrev aso:bG:=.val Us
abbrev A9:bG:=.val Ut
abbrev asp:bG:=.val Uu
abbrev asq:bG:=.val Uv
abbrev I8:bG:=.val Da
abbrev mT:List (Nat×bG):=[(6,.loc 17 0),(56,.hh [30000,30001,30002,30003,30004,30005,30006,30007,30008,30009]),(57,v2)]
abbrev nf:List (Nat×bG):=[(1,.loc 1 0)]
abbrev aaj:List (Nat×bG):=[(1,.loc 1 0),(2,.loc 2 0),(3,.loc 1 0),(38,v2),(39,v2)]
abbrev aak:List (Nat×bG):=[(2,.loc 2 0),(7,.loc 22 0),(8,.loc 8 0),(9,.loc 9 0),(10,.own 10),(11,.loc 11 0),(24,v22),(25,v2),(26,v2)]
abbrev aal:List (Nat×bG):=[(2,.loc 2 0),(3,.loc 3 0),(4,.own 4),(5,.own 5),(7,P5),(8,v2),(9,v2),(23,v2),(29,P6),(30,v2),(31,v2)]
abbrev sK:List (Nat×bG):=[(1,.loc 1 0),(3,v2)]
abbrev aam:List (Nat×bG):=[(2,.loc 2 0),(7,.loc 30 0),(10,v2),(11,v2),(46,v2),(47,v2),(52,rq),(53,v2),(54,v2),(61,v2),(62,v2)]
abbrev asr:List (Nat×bG):=[(1,.loc 1 0),(2,.loc 2 0),(3,.loc 1 0),(5,.iE 22),(38,v2),(39,v2),(60,v2),(61,v2)]
abbrev aan:List (Nat×bG):=[(0,kn),(1,dS),(2,v2),(3,.gJ),(9,v2),(29,v28),(30,v2),(31,v2),(1000000,.tr t27)]
abbrev aao:List (Nat×bG):=[(0,kn),(1,.own 200001),(2,pE),(3,v2),(4,.fk 100002),(16,nd),(17,v2),(18,v2)]
abbrev P_:List (Nat×bG):=[(1,.loc 1 0),(2,.loc 2 0)]
abbrev aap:List (Nat×bG):=[(2,.loc 2 0),(3,.loc 3 0),(4,.own 4),(5,.own 5),(7,P5),(8,v2),(9,v2),(23,v2)]
abbrev aaq:List (Nat×bG):=[(2,.loc 2 0),(7,.loc 30 0),(10,v2),(46,v2),(47,v2),(52,rq),(53,v2),(54,v2)]
abbrev aar:List (Nat×bG):=[(0,.gJ),(2,.dx u6),(10,aae),(11,v2),(1000000,.tr (.aw iM t2))]
abbrev aas:List (Nat×bG):=[(2,v2),(6,.loc 6 0),(8,.loc 8 0),(9,v4),(17,aad),(18,v2),(19,v2)]
abbrev aat:List (Nat×bG):=[(4,.loc 4 0),(5,.loc 5 0),(10,.fk 24),(28,P6),(29,v2),(30,v2)]
abbrev aau:List (Nat×bG):=[(2,.loc 2 0),(3,.loc 3 0),(4,.own 4),(5,.own 5),(7,P5),(23,v2)]
abbrev A_:List (Nat×bG):=[(1,.loc 1 0),(5,v2)]
abbrev aav:List (Nat×bG):=[(0,Z'),(1,v2),(2,v2),(3,v2),(9,v2),(18,dS),(19,v2),(20,v2)]
abbrev aaw:List (Nat×bG):=[(1,v2),(6,kn),(8,.own 8),(9,.own 50260),(29,v2),(30,v2)]
abbrev aax:List (Nat×bG):=[(1,rr),(2,.loc 2 0),(5,v2),(6,v2),(7,v2),(8,v2),(10,v2)]
abbrev I9:List (Nat×bG):=[(1,.loc 1 0),(3,v2),(4,v2)]
abbrev aay:List (Nat×bG):=[(1,ash),(4,.loc 4 0),(5,v4),(13,P6),(14,v2),(15,v2)]
abbrev aaz:List (Nat×bG):=[(0,kn),(1,pE),(5,.own 50140),(6,v2),(16,v2),(17,v2)]
abbrev I_:List (Nat×bG):=[(2,.loc 2 0),(3,.loc 3 0)]
abbrev P':List (Nat×bG):=[(2,.loc 2 0),(3,.loc 3 0),(7,v2)]
abbrev jj:List (Nat×bM):=[(17,.cells C' [dS,.own 30000,.own 30001,.own 30002,.own 30003,.own 30004,.own 30005,.own 30006,.own 30007,.own 30008,.own 30009]),(30000,gw),(30001,gw),(30002,gw),(30003,gw),(30004,gw),(30005,gw),(30006,gw),(30007,gw),(30008,gw),(30009,gw),(100000,.cells q4 [nd,v34,dS,nd,v2,v2,v2,v2,v2,v2,v2,v34,.own 100002]),(100002,Es)]
abbrev sL:List (Nat×bM):=[(12,yp),(17,.cells C' [dS,.own 30000,.own 30001,.own 30002,.own 30003,.own 30004,.own 30005,.own 30006,.own 30007,.own 30008,.own 30009]),(30000,gw),(30001,gw),(30002,gw),(30003,gw),(30004,gw),(30005,gw),(30006,gw),(30007,gw),(30008,gw),(30009,gw),(100000,.cells q4 [nd,v34,dS,nd,v2,v2,v2,v2,v2,v2,v2,v34,.own 100002]),(100002,Es)]
abbrev I':List (Nat×bM):=[(1,.cells t32 [.own 17,.own 22,v2,.own 27,.own 84,.own 87,.own 90,.own 93,v2]),(2,.cells t32 [.cQ,.cQ,v2,.cQ,.cQ,.cQ,.cQ,.cQ,v2]),(17,P7),(22,aah),(27,P3),(84,a2),(87,asf),(90,asd),(93,A7)]
abbrev aaA:List (Nat×bM):=[(1,.cells t32 [.own 17,.own 22,v2,.own 27,dS,v28,A6,pE,v2]),(2,.cells t32 [.cQ,.cQ,v2,.cQ,.cQ,.cQ,.cQ,.cQ,v2]),(17,P7),(22,.fN xv (.own 50530)),(27,P3),(50530,asj)]
abbrev wa:List (Nat×bM):=[(2,yo),(28,.mp q1 t2),(30,.cells t222 [v22,rq,v2,v24,dS,v28,A6,pE,v2,.cQ,.fk 28])]
abbrev aaB:List (Nat×bM):=[(1,.cells t32 [.own 17,.own 22,v2,.own 27,dS,v28,A6,pE,v2]),(2,.cells t32 [.cQ,.cQ,v2,.cQ,.cQ,.cQ,.cQ,.cQ,v2]),(17,P7),(22,aah),(27,P3)]
abbrev aaC:List (Nat×bM):=[(4,a9),(5,.cells wc [.cQ,.cQ,v2,.cQ,.cQ,.cQ,.cQ,.cQ,v2,.cQ,.cQ,.cQ,.cQ,v2,v2,v2,v2,v2,v2,v2]),(50230,Er)]
abbrev A':List (Nat×bM):=[(2,I6),(3,.gg t2),(4,a2),(5,a2)]
abbrev aaD:List (Nat×bM):=[(2,yo),(28,.mp q1 t2),(30,.cells t222 [v22,rq,v2,v24,dS,v28,A6,pE,v2,.own 109,.fk 28]),(109,I7)]
abbrev aaE:List (Nat×bM):=[(28,.mp q1 t2),(30,.cells t222 [v22,rq,v2,v24,dS,v28,A6,pE,v2,.own 109,.fk 28]),(109,I7)]
abbrev aaF:List (Nat×bM):=[(100000,.cells q4 [nd,v34,dS,nd,v2,v2,v2,v2,v2,v2,v2,v34,.own 100002]),(100002,Es)]
abbrev ng:List (Nat×bM):=[(1,P2)]
abbrev nS:List (Nat×bM):=[(1,I6)]
abbrev aaG:List (Nat×bM):=[(2,.gg tH),(22,.cells xx [v22,rq,v2,v24,.own 61]),(61,Eo)]
abbrev yq:List (Nat×bM):=[(2,P2),(3,P2)]
abbrev qq:List (Nat×bM):=[(1,yo)]
abbrev Qa:List (Nat×bM):=[(100002,.mp t2 t2),(200001,a2)]
abbrev Et:List (Nat×bM):=[(2,I6),(3,I6)]
abbrev Eu:List (Nat×bM):=[(5,yo),(6,yo)]
abbrev e0:cd:=S L (C D L)
abbrev e10:cd:=C L L
abbrev e1:cd:=S L e10
abbrev e2:cd:=S L D
abbrev mh:cd:=S L e0
abbrev e3:cd:=S L (S e10 (S (B mh) L))
abbrev e4:cd:=S L (S e10 (S (B D) L))
abbrev dD:cd:=S e1 (S (B e0) L)
abbrev kK:cd:=S L (S L (S L (J P_ aaB (S L (B (W aaj aaB (S L (S e10 (J aaj aaA (B (S L (S L (S (.nu 5 L) (S L (B (W asr aaA e4))))))) (.FL 22 L))))))) (S L (J P_ I' (S L (B (W [(1,.loc 1 0),(2,.loc 2 0),(100,v2),(101,v2)] I' e4))) (J P_ I' (S L (B (W [(1,.loc 1 0),(2,.loc 2 0),(119,v2),(120,v2)] I' e4))) D))))))
abbrev sZ:cd:=S L (J [(0,dS),(1,v2)] [] e1 (S L (J [(0,dS),(6,v228)] [] e1 (S L (S L (J [(7,.own 30)] [(30,a2)] (B (W [(7,.own 30),(8,v2)] [(30,a2)] (S e1 (B L)))) D))))))
abbrev aaH:cd:=S L (S L (J [(4,.fk 12)] [(12,.mp t2 iM)] (S L (B (W [(4,.fk 12),(13,v34),(14,v2),(15,v2)] [(12,.mp t2 iM)] (S L (S e10 (S (B (S L (S mh L))) L)))))) (S L (J [(9,.own 9)] [(9,v')] (S L (B (W [(4,.fk 12),(9,.own 9),(39,dS),(40,v2),(41,v2)] [(9,v'),(12,.iT t2 iM)] e4))) D))))
abbrev e9:cd:=S L (S e0 D)
abbrev yr:cd:=S e1 (S (B mh) L)
abbrev yt:cd:=S L (S L (S e0 e2))
abbrev yu:cd:=B (S L (S L e1))
abbrev e20:cd:=S L e2
abbrev ur:cd:=S L e20
abbrev Ev:cd:=S e1 (S (B L) L)
abbrev aaI:cd:=S L (J [] [] (S L (B (W [(0,dS),(3,v2)] [] dD))) D)
abbrev yv:cd:=B (S L e1)
abbrev aaJ:cd:=S L (B (W [(1,.loc 1 0),(4,v2)] qq dD))
abbrev aaK:cd:=S L (S (S L (B (S L (C D e0)))) D)
abbrev iA0:=IOC.mk ⟨[(0,.loc 100000 0),(1,.val t27)],[(100000,.fH p8)]⟩ ⟨[(0,.val t9)],[(100000,.fH p8)]⟩ [none] 2
def ass:=mk ar_ func208 b5 e2 amR
def ast:=mk ass func148 H.b5 e2 H.aj2
def asu:=mk ast func147 H.vf e2 H.aj6
def asv:=mk asu func149 H.fcSlip e9 H.aj8
def asw:=mk asv func67 H.vh (S L (S e0 (J nf nS (S L (B (W sK nS dD))) (J nf nS (S L (B (W [(1,.loc 1 0),(4,v2)] nS dD))) (J nf nS (S L (B (W A_ nS dD))) (J [] [] (S L (B (W [(1,.loc 1 0),(6,v2)] nS yr))) D)))))) H.akC
def asx:=mk asw func68 H.G' e2 H.aka
def asy:=mk asx func26 H.hH (S L (S e0 (J [] [] (S L (B (W sK nS (S e1 (J sK nS (B (S L (B (W I9 nS dD)))) L))))) D))) H.akE
def asz:=mk asy func251 oB e2 amW
def asA:=mk asz func316 tZ aaI amX
def asB:=mk asA func252 sw (S L (J nf [(1,aai)] (S L (B (W sK [(1,aai)] dD))) D)) amZ
def asC:=mk asB func253 po e2 amS
def asD:=mk asC func317 AF e2 amU
def asE:=mk asD func254 rf e2 amV
def asF:=mk asE func179 sx (S L (S e0 (J nf ng (S L (B (W sK ng yr))) (J nf ng (S L (B (W A_ ng (S e1 (J A_ ng (B (S e0 (S L (B (W [(1,.loc 1 0),(5,v2),(6,v2)] ng dD))))) L))))) (J [] [] (S L (B (W [(1,.loc 1 0),(7,v2)] ng yr))) D))))) am1
def asG:=mk asF func104 hH (S L (S e0 (J [] [] (S L (B (W sK ng (S e1 (J sK ng (B (S L (B (W I9 ng yr)))) L))))) D))) am3
def asH:=mk asG func105 b5 e2 anY
def asI:=mk asH func180 HR (S L (J [] [] (S L (B (W [(0,dS),(1,v2),(5,v2)] [] dD))) D)) an2
def asJ:=mk asI func106 HT e9 aoa
def asK:=mk asJ func107 HU e2 aob
def asL:=mk asK func48 py (S L (S mh (S e0 (J nf qq aaJ (J nf qq (S L (B (W A_ qq dD))) (J nf qq (S L (B (W [(1,.loc 1 0),(6,v2)] qq dD))) (J [] [] (S L (B (W [(1,.loc 1 0),(7,v2)] qq yr))) D))))))) aoc
def xG:=mk asL func15 W.oG e9 W.aqZ
def asM:=mk xG func276 (kD jH) (S L (J [] [] (S L (B (W [(0,v24),(1,asl),(7,v2),(8,v2)] [] e3))) D)) (sd jH)
def asN:=mk asM func206 (iO jH) e2 (se jH)
def asO:=jB asN [] func207 (vF jH) 1 e2 (DV jH)
def asP:=lD asO [(207,1)] func144 (fcAllF jH) e2 (DW jH)
def asQ:=mk asP func145 b5 e2 ana
def asR:=mk asQ func266 xZ e2 anc
def asS:=mk asR func267 oB e2 anb
def asT:=mk asS func265 HK e2 ank
def asU:=mk asT func292 (kD tI) (S L (J [] [] (S L (B (W [(0,dS),(1,aab),(7,v2),(8,v2)] [] e3))) D)) (sd tI)
def asV:=mk asU func227 (iO tI) e2 (se tI)
def asW:=jB asV [] func331 (vF tI) 1 e2 (DV tI)
def asX:=lD asW [(331,1)] func269 (fcAllF tI) e2 (DW tI)
def asY:=mk asX func270 tZ aaI ang
def asZ:=lD asY [] func268 sw e2 anl
def as0:=mk asZ func372 (kD tSlot) (S L (J [] [] (S L (B (W [(0,P8),(1,aso),(7,v2),(8,v2)] [] e3))) D)) (sd tSlot)
def as1:=mk as0 func332 (iO tSlot) e2 (se tSlot)
def as2:=jB as1 [] func333 (vF tSlot) 1 e2 (DV tSlot)
def as3:=lD as2 [(333,1)] func272 (fcAllF tSlot) e2 (DW tSlot)
def as4:=jB as3 [] func271 AJ 1 e2 anm
def as5:=mk as4 func64 po e2 ane
def as6:=mk as5 func65 rf e2 anf
def as7:=jB as6 [] func273 AK 1 e2 ano
def as8:=mk as7 func373 (kD kl) (S L (J [] [] (S L (B (W [(0,v22),(1,asp),(7,v2),(8,v2)] [] e3))) D)) (sd kl)
def as9:=mk as8 func334 (iO kl) e2 (se kl)
def as_:=jB as9 [] func335 (vF kl) 1 e2 (DV kl)
def as':=lD as_ [(335,1)] func274 (fcAllF kl) e2 (DW kl)
def ata:=mk as' func374 (kD kG) (S L (J [] [] (S L (B (W [(0,rq),(1,asq),(7,v2),(8,v2)] [] e3))) D)) (sd kG)
def atb:=mk ata func336 (iO kG) e2 (se kG)
def atc:=jB atb [] func337 (vF kG) 1 e2 (DV kG)
def atd:=lD atc [(337,1)] func275 (fcAllF kG) e2 (DW kG)
def ate:=lD atd [(271,1),(273,1)] func205 sx (S L (S L ur)) anp
def atf:=mk ate func141 hH (S L (S e0 (S L (J [] [] (S L (B (W [(3,.fk 12),(14,v24),(15,v2),(16,v2)] [(12,.mp q1 t2)] (S L (S e10 (S (B (S L (S L (S mh L)))) L)))))) D)))) anu
def atg:=mk atf func164 b5 e2 anX
def ath:=mk atg func220 fcHund e2 anZ
def ati:=mk ath func221 fcRising (S L (J [] [] (S L (B (W [(0,dS),(1,aab),(7,dS),(8,v2),(9,v2)] [] e3))) D)) an1
def atj:=jB ati [] func222 D0 1 e2 an5 (hc:=λx h=>by obtain⟨w,p,aq,_⟩:=h;exact r9 ⟨⟨trivial,q5 (congrArg (λo=>o.1) aq)⟩,q5 (congrArg (λo=>o.2) aq)⟩)
def atk:=jB atj [(222,1)] func219 D1 1 e2 an6 (hc:=λx h=>by obtain⟨_,w,aq,_⟩:=h;exact r9 ⟨trivial,q5 aq⟩)
def atl:=mk atk func224 fcHund e2 an0
def atm:=lD atl [] func223 D2 e2 an7
def atn:=jB atm [] func225 D3 1 e2 an8 (hc:=λx h=>by obtain⟨w,aq,_⟩:=h;exact r9 ⟨trivial,q5 aq⟩)
def ato:=mk atn func226 D4 e2 an9
def atp:=mk ato func293 (kD mQ) (S L (J [] [] (S L (B (W [(0,v28),(1,asm),(7,v2),(8,v2)] [] e3))) D)) (sd mQ)
def atq:=mk atp func228 (iO mQ) e2 (se mQ)
def atr:=mk atq func294 (kD tWi) (S L (J [] [] (S L (B (W [(0,A6),(1,asi),(7,v2),(8,v2)] [] e3))) D)) (sd tWi)
def ats:=mk atr func229 (iO tWi) e2 (se tWi)
def att:=mk ats func295 (kD pw) (S L (J [] [] (S L (B (W [(0,pE),(1,asn),(7,v2),(8,v2)] [] e3))) D)) (sd pw)
def atu:=mk att func230 (iO pw) e2 (se pw)
def atv:=lD atu [(219,1),(225,1)] func171 OJ (S L (S L (S L ur))) an_
def Qb:=mk atv func100 py (S L (S mh (S e0 D))) an'
def aaL:IOC:=⟨⟨[(0,.cQ),(1,.val MD)],[]⟩,⟨[(0,.own 50000)],[(50000,.a6 t2)]⟩,[none],2,H.Aa⟩
theorem atw:IoSpec Tryz.prog noU 213 aaL:=mkI Qb [] trivial func213 (S L (S (S L (B (bV [(2,.loc 2 0)] [(2,.cells t27 [.own 50000]),(50000,a2)] [(2,.loc 100002 0),(7,v2)] [(100002,.cells t27 [.own 150000]),(150000,a2)] [] [(100002,.cells t27 [.own 150000]),(150000,a2)] L (B L)))) D)) H.akw
def aaM:IOC:=⟨⟨[(0,.val MD)],[]⟩,⟨[(0,.own 50040)],[(50040,.a6 t2)]⟩,[none],1,H.Aa⟩
theorem atx:IoSpec Tryz.prog noU 160 aaM:=mkI Qb [(213,.io aaL)] ⟨atw,trivial⟩ func160 e2 H.akx
def Qc:=pa Qb l5 [(160,.io aaM),(161,.io P1)] ⟨atx,Z6,trivial⟩ func86 H.sf ur H.aky
def aaN:IOC:=⟨⟨[(0,.gJ),(1,.dx GN),(1000000,.tr t2)],[]⟩,⟨[(1000000,.tr t2)],[]⟩,[],2,H.Nw⟩
theorem aty:IoSpec Tryz.prog noU 277 aaN:=mkI (S:=H.Nw) Qc [] trivial func277 (S L (B (W [(0,.gJ),(5,.jM 5),(1000000,.tr t2)] [(5,.b6 t2 iM)] (S L (S e10 yv))))) (λx=>M.le_refl _)
theorem atz:wk Tryz.prog 277 ⟨[GN],t2,H.jD⟩:=Ms (c:=aaN) aty l5 (λx l L=>(l,x.getD [],(l,L,[],false),())) rfl (by decide) (by simp[fM])
 (λx l L i hx=>by
  obtain⟨T,hT⟩:=hx;obtain⟨m,aj,_⟩:=hT;subst aj;by_cases h0:i=0
  ·subst h0;exact .inr (.inr (.inl ⟨rfl,rfl⟩))
  ·by_cases h1:i=1
   ·subst h1;exact .inr (.inl ⟨by decide,by decide,_,_,rfl,rfl⟩)
   by_cases h2:i=TRS
   ·subst h2;exact .inr (.inr (.inr ⟨rfl,rfl⟩))
   ·refine .inl ?_;exact (if_neg h0).trans ((if_neg h1).trans (if_neg h2)))
 rfl (λτ=>⟨_,_,_,_,rfl⟩) (λx l hx=>by
  obtain⟨T,hT⟩:=hx;obtain⟨m,aj,_⟩:=hT;subst aj;have h:=H.aly l m;refine⟨h.1,λτ hτ l' L' p hsl=>?_⟩;have e:aC.tr τ.1.1 t2 τ.1.2.1 τ.1.2.2.1 τ.1.2.2.2=.tr l' t2 L' p false:=hsl;injection e with e1 e2 e3 e4 dD
  rw[<-e4];exact h.2 τ hτ dD)
def atA:=pa Qc (Qc.u [] [(277,⟨[GN],t2,H.jD⟩)] ⟨atz,trivial⟩) [] trivial func210 H.xM e2 H.akB
def atB:=mk atA func154 H.Ah aaH H.akM
def atC:=mk atB func85 H.b5 e2 H.aj3
def atD:=mk atC func209 (H.kD H.gS) (S L (J [] [] (S L (B (W [(0,v34),(1,P9),(7,v2),(8,v2)] [] e3))) D)) H.akb
def atE:=mk atD func151 (H.iO H.gS) e2 H.akc
def atF:=mk atE func231 H.vf (S L (J nf [(1,Z9)] (S L (B (W [(1,.loc 1 0),(13,.own 13),(14,v2),(15,v2)] [(1,Z9),(13,a2)] e3))) D)) H.aj7
def atG:=mk atF func76 H.vd e2 H.aj5
def atH:=mk atG func233 H.fcSlip e20 H.aj9
def atI:=jB atH [] func232 H.Dx 1 e2 H.aj_
def atJ:=mk atI func234 H.z8 e2 H.aj'
def atK:=lD atJ [(232,1)] func172 H.vh (S L (S e0 (J nf nS (S L (B (W [(1,.loc 1 0),(38,nd),(39,v2),(40,v2)] nS e3))) (J nf nS (S L (B (W [(1,.loc 1 0),(57,nd),(58,v2),(59,v2)] nS e3))) e20)))) H.akD
def atL:=mk atK func101 H.hH (S L (S e0 (S mh D))) H.akO
def atM:=mk atL func46 W.oG e9 W.aqM
def Qd:=pa atM l5 [(256,.io Z8)] ⟨ar9,trivial⟩ func184 H.Is (S L (S L (J [(0,A9),(3,v2)] [] (S L (B (W [(0,A9),(3,v2),(9,A9),(10,v2),(11,v2)] [] (S L (S e10 (J [(0,A9),(3,v2),(9,A9),(10,v2),(11,v2)] [] yu L)))))) (S L (J [(6,.own 50240)] [(50240,v')] (S L (B (W [(6,.own 50240),(25,A9),(26,v2),(27,v2)] [(50240,v')] e4))) D))))) H.apK
def aaO:IOC:=⟨⟨[(0,.val C_)],[]⟩,⟨[(0,.own 50240)],[(50240,.a6 t3)]⟩,[none],1,H.It⟩
theorem atN:IoSpec Tryz.prog noU 185 aaO:=mkI Qd [(257,.io Z7)] ⟨ar8,trivial⟩ func185 (S L (S L (J [(0,A8),(3,v2)] [] (S L (B (W [(0,A8),(3,v2),(9,A8),(10,v2),(11,v2)] [] (S L (S e10 (J [(0,A8),(3,v2),(9,A8),(10,v2),(11,v2)] [] yu L)))))) (S L (J [(6,.own 50240)] [(50240,a2)] (S L (B (W [(6,.own 50240),(25,A8),(26,v2),(27,v2)] [(50240,a2)] e4))) D))))) H.apL
def aaP:IOC:=⟨⟨[(0,.own 200001)],[(200001,.a6 t3)]⟩,⟨[(0,.sub 200001)],[(200001,.a6 t3)]⟩,[none],1,H.Iv⟩
theorem atO:IoSpec Tryz.prog noU 186 aaP:=mkI Qd [] trivial func186 (S L (S e0 (J [(0,.own 200001)] [(200001,a2)] (S L (B (W [(0,.own 200001),(3,v2)] [(200001,a2)] (S e1 (J [(0,.own 200001),(3,v2)] [(200001,a2)] (B (S L (C (S L (J [(0,.own 200001),(3,v2)] [(200001,a2)] (S L (B (W [(0,.own 200001),(3,v2),(4,.sub 200001),(5,v2)] [(200001,a2)] (S e1 (J [(0,.own 200001),(3,v2),(4,.sub 200001),(5,v2)] [(200001,a2)] (B e0) L))))) e2)) L))) L))))) D))) H.apR
def atP:=mk Qd func187 H.Ed e9 H.apZ
def uu:=pa atP l5 [(161,.io P1),(185,.io aaO),(186,.io aaP)] ⟨Z6,atN,atO,trivial⟩ func117 H.A0 (S L (S mh (S L (S L (S mh (S L (S e0 (S L yt)))))))) H.ap1
def atQ:IOC:=⟨⟨[(0,.val t22)],[]⟩,⟨[(0,.own 60)],[(60,.a6 zO)]⟩,[none],1,W.qp⟩
theorem atS:IoSpec Tryz.prog noU 188 atQ:=mkI uu [] trivial func188 e9 W.vZ
abbrev Qe:eH:=.ow (SC.ow (W.fv kl).c6)
theorem aaQ:eH.Ok Tryz.prog noU 188 Qe:=yn (sh:=(W.fv kl).sh) atS (λx h=>⟨h,λτ hτ=>by have h:τ=_:=hτ;subst h;exact (M.gm).symm⟩)
def atT:IOC:=⟨⟨[(0,.val C9)],[]⟩,⟨[(0,.own 60)],[(60,.a6 xv)]⟩,[none],1,W.qp⟩
theorem atU:IoSpec Tryz.prog noU 189 atT:=mkI uu [] trivial func189 e9 W.vZ
abbrev Qf:eH:=.ow (SC.ow (W.fv kG).c6)
theorem aaR:eH.Ok Tryz.prog noU 189 Qf:=yn (sh:=(W.fv kG).sh) atU (λx h=>⟨h,λτ hτ=>by have h:τ=_:=hτ;subst h;exact (M.gm).symm⟩)
def atV:IOC:=⟨⟨[(0,.val GK)],[]⟩,⟨[(0,.own 60)],[(60,.a6 zQ)]⟩,[none],1,W.qp⟩
theorem atW:IoSpec Tryz.prog noU 190 atV:=mkI uu [] trivial func190 e9 W.vZ
abbrev Qg:eH:=.ow (SC.ow (W.fv jH).c6)
theorem aaS:eH.Ok Tryz.prog noU 190 Qg:=yn (sh:=(W.fv jH).sh) atW (λx h=>⟨h,λτ hτ=>by have h:τ=_:=hτ;subst h;exact (M.gm).symm⟩)
def Qh:IOC:=⟨⟨[(0,.val GJ)],[]⟩,⟨[(0,.own 60)],[(60,.a6 zP)]⟩,[none],1,W.qp⟩
theorem aaT:IoSpec Tryz.prog noU 191 Qh:=mkI uu [] trivial func191 e9 W.vZ
def aaU:IOC:=⟨⟨[(0,.val t27)],[]⟩,⟨[(0,.own 60)],[(60,.a6 t3)]⟩,[none],1,W.IC⟩
theorem aaV:IoSpec Tryz.prog noU 192 aaU:=mkI uu [] trivial func192 e9 W.aqr
abbrev Qi:eH:=.ow (SC.ow H.fcClone.c6)
theorem aaW:eH.Ok Tryz.prog noU 192 Qi:=yn (sh:=H.fcClone.sh) aaV (λx h=>⟨h,λτ hτ=>by have h:τ=_:=hτ;subst h;exact (M.gm).symm⟩)
def atX:IOC:=⟨⟨[(0,.val t28)],[]⟩,⟨[(0,.own 60)],[(60,.a6 xw)]⟩,[none],1,W.qp⟩
theorem atY:IoSpec Tryz.prog noU 193 atX:=mkI uu [] trivial func193 e9 W.vZ
abbrev Qj:eH:=.ow (SC.ow (W.fv mQ).c6)
theorem aaX:eH.Ok Tryz.prog noU 193 Qj:=yn (sh:=(W.fv mQ).sh) atY (λx h=>⟨h,λτ hτ=>by have h:τ=_:=hτ;subst h;exact (M.gm).symm⟩)
def atZ:IOC:=⟨⟨[(0,.val GL)],[]⟩,⟨[(0,.own 60)],[(60,.a6 u5)]⟩,[none],1,W.qp⟩
theorem at0:IoSpec Tryz.prog noU 194 atZ:=mkI uu [] trivial func194 e9 W.vZ
abbrev Ja:eH:=.ow (SC.ow (W.fv tWi).c6)
theorem Qk:eH.Ok Tryz.prog noU 194 Ja:=yn (sh:=(W.fv tWi).sh) at0 (λx h=>⟨h,λτ hτ=>by have h:τ=_:=hτ;subst h;exact (M.gm).symm⟩)
def at1:IOC:=⟨⟨[(0,.val zR)],[]⟩,⟨[(0,.own 60)],[(60,.a6 q1)]⟩,[none],1,W.qp⟩
theorem at2:IoSpec Tryz.prog noU 195 at1:=mkI uu [] trivial func195 e9 W.vZ
abbrev Ql:eH:=.ow (SC.ow (W.fv pw).c6)
theorem aaY:eH.Ok Tryz.prog noU 195 Ql:=yn (sh:=(W.fv pw).sh) at2 (λx h=>⟨h,λτ hτ=>by have h:τ=_:=hτ;subst h;exact (M.gm).symm⟩)
def aaZ:=pa uu l5 [(188,Qe),(189,Qf),(190,Qg),(191,.io Qh),(192,Qi),(193,Qj),(194,Ja),(195,Ql)] ⟨aaQ,aaR,aaS,aaT,aaW,aaX,Qk,aaY,trivial⟩ func118 W.IF kK W.aqu
def aa0:IOC:=⟨⟨[(0,.val wc)],[]⟩,⟨[(0,.loc 17 0)],[(17,.fH p8)]⟩,[none],1,W.tT⟩
theorem at3:IoSpec Tryz.prog noU 57 aa0:=mkI aaZ [] trivial func57 e20 W.NW
def Ew:=mk aaZ func58 W.IL e2 W.aqH
def Jb:IOC:=⟨⟨[(0,.loc 100000 0),(1,.val t34),(2,.val t27)],[(100000,.fH p8)]⟩,⟨[(0,.val t9)],[(100000,.fH p8)]⟩,[none],3,W.A3⟩
theorem Qm:IoSpec Tryz.prog noU 196 Jb:=mkI Ew [] trivial func196 yt W.ap_
def Qn:IOC:=iA0 (W.shD 5 W.Pj)
theorem at4:IoSpec Tryz.prog noU 119 Qn:=mkI Ew [(196,.io Jb)] ⟨Qm,trivial⟩ func119 e2 W.ap'
def at5:IOC:=iA0 (W.shD 4 W.Pk)
theorem at6:IoSpec Tryz.prog noU 120 at5:=mkI Ew [(196,.io Jb)] ⟨Qm,trivial⟩ func120 e2 W.aqa
def at7:IOC:=iA0 (W.shD 1 W.Pl)
theorem aua:IoSpec Tryz.prog noU 121 at7:=mkI Ew [(196,.io Jb)] ⟨Qm,trivial⟩ func121 e2 W.NX
def aub:=mk Ew func339 H.Ha e2 H.akf
def q280:=mk aub func280 H.fcCmp (S L (S L (S L (S (S L (C (S e0 D) L)) (S e0 (S e0 (S e0 D))))))) H.akg
def auc:=mk q280 func279 H.lG e2 H.akh
def aud:=mk auc func211 HJ (S L (J [] [] (S L (B (W [(0,dS),(1,v2),(7,v2),(8,v2)] [] e3))) D)) ani
def aue:=mk aud func157 ov e2 anj
def Ex:=jB aue [] func156 H.Aq 1 e2 H.NX
abbrev yw:=zT (aii Ex) [(156,1)] []
def aa1:IOC:=⟨⟨[(0,.val t34)],[]⟩,⟨[(0,.own 9),(1,.val t4)],[(9,.a6 iM)]⟩,[none,none],1,H.Hh⟩
theorem auf:IoSpec Tryz.prog yw 154 aa1:=mkI Ex [] trivial func154 aaH H.akN
def aa2:IOC:=⟨⟨[(0,.own 200001),(1,.val ME)],[(200001,.a6 iM)]⟩,⟨[(0,.sub 200001)],[(200001,.a6 iM)]⟩,[none],2,H.Hj⟩
theorem aug:IoSpec Tryz.prog yw 155 aa2:=mkI Ex [] trivial func155 (S L (S L (S e0 (J [(0,.own 200001),(5,v2)] [(200001,v')] (S L (B (W [(0,.own 200001),(1,P9),(5,v2),(6,v2)] [(200001,v')] (S e1 (J [(0,.own 200001),(1,P9),(5,v2),(6,v2)] [(200001,v')] (B mh) L))))) e2)))) H.akP
def auh:=mk Ex func192 H.fcClone e9 H.akd
def aui:=mk auh func291 H.NA (S L (J [(0,v228),(2,v2)] [] e0 (J [(0,v228),(2,v2)] [] e0 (J [(0,v228),(2,v2)] [] e0 D)))) H.aki
def Ba:=mk aui func215 H.NB (S L (S (C D L) D)) (H.akj (λ_=>M.fail))
def aa3:IOC:=⟨⟨[(0,.own 200001),(1,.val t2),(2,.val t2),(3,.val Da)],[(200001,.a6 p9)]⟩,⟨[],[(200001,.a6 p9)]⟩,[],4,H.Hc⟩
theorem auj:IoSpec Tryz.prog yw 375 aa3:=mkI Ba [] trivial func375 (S L (B (W [(0,.own 200001),(1,v2),(2,v2),(3,I8),(8,v2)] [(200001,gw)] (S e1 (J [(0,.own 200001),(1,v2),(2,v2),(3,I8),(8,v2)] [(200001,gw)] (B (S L (B (W [(0,.own 200001),(1,v2),(2,v2),(3,I8),(8,v2),(9,v2)] [(200001,gw)] Ev)))) L))))) H.aks
def aa4:IOC:=⟨⟨[(0,.own 200001),(1,.val t2),(2,.val t2),(3,.val t2),(4,.val Da)],[(200001,.a6 p9)]⟩,⟨[],[(200001,.a6 p9)]⟩,[],5,H.He⟩
theorem auk:IoSpec Tryz.prog yw 338 aa4:=mkI Ba [(375,.io aa3)] ⟨auj,trivial⟩ func338 (S L (S L (B (W [(0,.own 200001),(1,v2),(2,v2),(3,v2),(4,I8),(10,v4),(11,v4)] [(200001,gw)] (B (S L (S e0 L))))))) H.akt
def aa5:IOC:=⟨⟨[(0,.own 200001),(1,.val Da)],[(200001,.a6 p9)]⟩,⟨[],[(200001,.a6 p9)]⟩,[],2,H.z'⟩
theorem aul:IoSpec Tryz.prog yw 278 aa5:=mkI Ba [(338,.io aa4)] ⟨auk,trivial⟩ func278 D H.akv
def aa6:IOC:=⟨⟨[(0,.loc 100000 0),(1,.val t27)],[(100000,.cells q4 [.val p7,.val t34,.val t27,.val p7,.val t2,.val t2,.val t2,.val t2,.val t2,.val t2,.val t2,.val t34,.own 100002]),(100002,.a6 o9)]⟩,⟨[(0,.val o9),(1,.val t4)],[(100000,.cells q4 [.val p7,.val t34,.val t27,.val p7,.val t2,.val t2,.val t2,.val t2,.val t2,.val t2,.val t2,.val t34,.own 100002]),(100002,.a6 o9)]⟩,[none,none],2,H.tT⟩
theorem aum:IoSpec Tryz.prog yw 212 aa6:=mkI Ba [(278,.io aa5)] ⟨aul,trivial⟩ func212 (S L (J [(0,.loc 100000 0),(1,dS),(6,.loc 17 0)] [(17,.cells C' [dS,.own 30000,.own 30001,.own 30002,.own 30003,.own 30004,.own 30005,.own 30006,.own 30007,.own 30008,.own 30009]),(100000,.cells q4 [nd,v34,dS,nd,v2,v2,v2,v2,v2,v2,v2,v34,.own 100002]),(100002,Es),(30000,gw),(30001,gw),(30002,gw),(30003,gw),(30004,gw),(30005,gw),(30006,gw),(30007,gw),(30008,gw),(30009,gw)] L (J [(6,.loc 17 0)] jj (S L (B (W [(1,dS),(6,.loc 17 0),(21,v34),(22,v2),(23,v2)] jj (S L (S e10 (J [(1,dS),(6,.loc 17 0),(21,v34),(22,v2),(23,v2)] jj (B (S L (.split 8 4 10 L))) L)))))) (J [(6,.loc 17 0)] jj (S L (B (.nz (.num 57 0 (S L (S e10 (J mT jj (B (S L (S L (S L (B (W [(6,.loc 17 0),(10,.own 30000),(56,.hh [30000,30001,30002,30003,30004,30005,30006,30007,30008,30009]),(57,v2),(62,.own 30000),(63,v2),(64,v2)] jj (S L (S e10 (S (B (S L (S L (J [(6,.loc 17 0),(10,.own 30000),(11,v2),(12,.loc 12 0),(13,v2),(56,.hh [30000,30001,30002,30003,30004,30005,30006,30007,30008,30009]),(57,v2),(62,.own 30000),(63,v2),(64,v2)] sL e1 e0)))) L))))))))) L)))) (.nz (.num 57 1 (S L (S e10 (J mT jj (B (S L (S L (S L (B (W [(6,.loc 17 0),(10,.own 30001),(56,.hh [30000,30001,30002,30003,30004,30005,30006,30007,30008,30009]),(57,v2),(62,.own 30001),(63,v2),(64,v2)] jj (S L (S e10 (S (B (S L (S L (J [(6,.loc 17 0),(10,.own 30001),(11,v2),(12,.loc 12 0),(13,v2),(56,.hh [30000,30001,30002,30003,30004,30005,30006,30007,30008,30009]),(57,v2),(62,.own 30001),(63,v2),(64,v2)] sL e1 e0)))) L))))))))) L)))) (.nz (.num 57 2 (S L (S e10 (J mT jj (B (S L (S L (S L (B (W [(6,.loc 17 0),(10,.own 30002),(56,.hh [30000,30001,30002,30003,30004,30005,30006,30007,30008,30009]),(57,v2),(62,.own 30002),(63,v2),(64,v2)] jj (S L (S e10 (S (B (S L (S L (J [(6,.loc 17 0),(10,.own 30002),(11,v2),(12,.loc 12 0),(13,v2),(56,.hh [30000,30001,30002,30003,30004,30005,30006,30007,30008,30009]),(57,v2),(62,.own 30002),(63,v2),(64,v2)] sL e1 e0)))) L))))))))) L)))) (.nz (.num 57 3 (S L (S e10 (J mT jj (B (S L (S L (S L (B (W [(6,.loc 17 0),(10,.own 30003),(56,.hh [30000,30001,30002,30003,30004,30005,30006,30007,30008,30009]),(57,v2),(62,.own 30003),(63,v2),(64,v2)] jj (S L (S e10 (S (B (S L (S L (J [(6,.loc 17 0),(10,.own 30003),(11,v2),(12,.loc 12 0),(13,v2),(56,.hh [30000,30001,30002,30003,30004,30005,30006,30007,30008,30009]),(57,v2),(62,.own 30003),(63,v2),(64,v2)] sL e1 e0)))) L))))))))) L)))) (.nz (.num 57 4 (S L (S e10 (J mT jj (B (S L (S L (S L (B (W [(6,.loc 17 0),(10,.own 30004),(56,.hh [30000,30001,30002,30003,30004,30005,30006,30007,30008,30009]),(57,v2),(62,.own 30004),(63,v2),(64,v2)] jj (S L (S e10 (S (B (S L (S L (J [(6,.loc 17 0),(10,.own 30004),(11,v2),(12,.loc 12 0),(13,v2),(56,.hh [30000,30001,30002,30003,30004,30005,30006,30007,30008,30009]),(57,v2),(62,.own 30004),(63,v2),(64,v2)] sL e1 e0)))) L))))))))) L)))) (.nz (.num 57 5 (S L (S e10 (J mT jj (B (S L (S L (S L (B (W [(6,.loc 17 0),(10,.own 30005),(56,.hh [30000,30001,30002,30003,30004,30005,30006,30007,30008,30009]),(57,v2),(62,.own 30005),(63,v2),(64,v2)] jj (S L (S e10 (S (B (S L (S L (J [(6,.loc 17 0),(10,.own 30005),(11,v2),(12,.loc 12 0),(13,v2),(56,.hh [30000,30001,30002,30003,30004,30005,30006,30007,30008,30009]),(57,v2),(62,.own 30005),(63,v2),(64,v2)] sL e1 e0)))) L))))))))) L)))) (.nz (.num 57 6 (S L (S e10 (J mT jj (B (S L (S L (S L (B (W [(6,.loc 17 0),(10,.own 30006),(56,.hh [30000,30001,30002,30003,30004,30005,30006,30007,30008,30009]),(57,v2),(62,.own 30006),(63,v2),(64,v2)] jj (S L (S e10 (S (B (S L (S L (J [(6,.loc 17 0),(10,.own 30006),(11,v2),(12,.loc 12 0),(13,v2),(56,.hh [30000,30001,30002,30003,30004,30005,30006,30007,30008,30009]),(57,v2),(62,.own 30006),(63,v2),(64,v2)] sL e1 e0)))) L))))))))) L)))) (.nz (.num 57 7 (S L (S e10 (J mT jj (B (S L (S L (S L (B (W [(6,.loc 17 0),(10,.own 30007),(56,.hh [30000,30001,30002,30003,30004,30005,30006,30007,30008,30009]),(57,v2),(62,.own 30007),(63,v2),(64,v2)] jj (S L (S e10 (S (B (S L (S L (J [(6,.loc 17 0),(10,.own 30007),(11,v2),(12,.loc 12 0),(13,v2),(56,.hh [30000,30001,30002,30003,30004,30005,30006,30007,30008,30009]),(57,v2),(62,.own 30007),(63,v2),(64,v2)] sL e1 e0)))) L))))))))) L)))) (.nz (.num 57 8 (S L (S e10 (J mT jj (B (S L (S L (S L (B (W [(6,.loc 17 0),(10,.own 30008),(56,.hh [30000,30001,30002,30003,30004,30005,30006,30007,30008,30009]),(57,v2),(62,.own 30008),(63,v2),(64,v2)] jj (S L (S e10 (S (B (S L (S L (J [(6,.loc 17 0),(10,.own 30008),(11,v2),(12,.loc 12 0),(13,v2),(56,.hh [30000,30001,30002,30003,30004,30005,30006,30007,30008,30009]),(57,v2),(62,.own 30008),(63,v2),(64,v2)] sL e1 e0)))) L))))))))) L)))) (.nz (.num 57 9 (S L (S e10 (J mT jj (B (S L (S L (S L (B (W [(6,.loc 17 0),(10,.own 30009),(56,.hh [30000,30001,30002,30003,30004,30005,30006,30007,30008,30009]),(57,v2),(62,.own 30009),(63,v2),(64,v2)] jj (S L (S e10 (S (B (S L (S L (J [(6,.loc 17 0),(10,.own 30009),(11,v2),(12,.loc 12 0),(13,v2),(56,.hh [30000,30001,30002,30003,30004,30005,30006,30007,30008,30009]),(57,v2),(62,.own 30009),(63,v2),(64,v2)] sL e1 e0)))) L))))))))) L)))) (.nz (.num 57 10 (S L (S e10 L))) L))))))))))))) D)))) H.NW
def Qo(f:Nat):IOC:=⟨⟨[(0,.loc 100000 0),(1,.val t27)],[(100000,.cells q4 [.val p7,.val t34,.val t27,.val p7,.val t2,.val t2,.val t2,.val t2,.val t2,.val t2,.val t2,.val t34,.own 100002]),(100002,.a6 o9)]⟩,⟨[],[(100000,.cells q4 [.val p7,.val t34,.val t27,.val p7,.val t2,.val t2,.val t2,.val t2,.val t2,.val t2,.val t2,.val t34,.own 100002]),(100002,.a6 o9)]⟩,[],2,H.xQ f⟩
theorem aa7:∀f,IoSpec Tryz.prog yw 158 (Qo f)
 |0=>MH func158 H.aln
 |f+1=>mkI Ba [(158,.io (Qo f)),(212,.io aa6)] ⟨aa7 f,aum,trivial⟩ func158 (S L (S (S L (C (J [] aaF (S L e1) L) L)) (S L (B (W [(0,.loc 100000 0),(1,dS),(4,v2),(7,v2)] aaF Ev))))) (H.alq f)
def aun:=pa Ba (Ex.u [(156,1)] [] trivial) [(154,.io aa1),(155,.io aa2),(158,.io (Qo 5))] ⟨auf,aug,aa7 5,trivial⟩ func74 H.vp (S L (S mh (S L (S L (S L (J [(7,.loc 15 0)] [(15,.cells q4 [nd,v34,dS,nd,v2,v2,v2,v2,v2,v2,v2,.sub 50200,.own 30000]),(50200,v'),(30000,Es)] e0 e9)))))) H.alv
def auo:=mk aun func77 H.Ar (S L (J [(4,.loc 4 0),(5,v4)] [(4,P4)] (S L (B (W aay [(4,P4)] (S L (S e10 (J aay [(4,P4)] (B (S L (S L (B (S L (C L e1)))))) L)))))) D)) H.alw
def aup:=jB auo [] func152 H.Ax 1 e2 H.alQ
def auq:=jB aup [(152,1)] func150 H.N8 1 e2 H.alR (hc:=λx h=>by obtain⟨_,f,aq,_⟩:=h;exact r9 ⟨trivial,q5 aq⟩)
def q89:=mk auq func89 H.vm (S L (S L (J [(7,v2)] [] (S L (B (W [(1,v2),(2,v2),(7,v2),(14,nd),(15,v2),(16,v2)] [] e4))) D))) H.akY
def aa8:IOC:=⟨⟨[(0,.gJ),(1,.dx o9),(2,.dx u6),(1000000,.tr (.aw iM t2))],[]⟩,⟨[(1000000,.tr (.aw iM t2))],[]⟩,[],3,(H.G6 H.vm.sh)⟩
theorem aur:IoSpec Tryz.prog noU 159 aa8:=mkI (S:=(H.G6 H.vm.sh)) q89 [] trivial func159 (S L (B (W aar [] (S L (S e10 (J aar [] (B (S L (S L (B (W [(0,.gJ),(2,.dx u6),(5,aad),(6,v2),(10,aae),(11,v2),(1000000,.tr (.aw iM t2))] [] (S e1 (S (B e1) L))))))) L)))))) (λx=>M.le_refl _)
theorem aus:wk Tryz.prog 159 ⟨[o9,u6],(.aw iM t2),H.su⟩:=Ms (c:=aa8) aur l5 (λx l L=>(l,x.1.getD none,x.2.getD none,(l,L,[],false),())) rfl (by decide) (by simp[fM])
 (λx l L i hx=>by
  obtain⟨T,hT⟩:=hx;obtain⟨t,b,h1,h2,hp,_⟩:=hT;obtain⟨wD,wC⟩:=x;change wD=some (some t) at h1;change wC=some (some b) at h2;subst h1;subst h2;by_cases h0:i=0
  ·subst h0;exact .inr (.inr (.inl ⟨rfl,rfl⟩))
  ·by_cases h1:i=1
   ·subst h1;exact .inr (.inl ⟨by decide,by decide,_,_,rfl,rfl⟩)
   by_cases h3:i=2
   ·subst h3;exact .inr (.inl ⟨by decide,by decide,_,_,rfl,rfl⟩)
   by_cases h2:i=TRS
   ·subst h2;exact .inr (.inr (.inr ⟨rfl,rfl⟩))
   ·refine .inl ?_;exact (if_neg h0).trans ((if_neg h1).trans ((if_neg h3).trans (if_neg h2))))
 rfl (λτ=>⟨_,_,_,_,rfl⟩) (λx l hx=>by
  obtain⟨T,hT⟩:=hx;obtain⟨t,b,h1,h2,hp,_⟩:=hT;obtain⟨wD,wC⟩:=x;change wD=some (some t) at h1;change wC=some (some b) at h2;subst h1;subst h2;have h:=H.alB l t b hp;refine⟨h.1,λτ hτ l' L' p hsl=>?_⟩;have e:aC.tr τ.1.1 (.aw iM t2) τ.1.2.1 τ.1.2.2.1 τ.1.2.2.2=.tr l' (.aw iM t2) L' p false:=hsl;injection e with e1 e2 e3 e4 dD
  rw[<-e4];exact h.2 τ hτ dD)
def aut:=pa q89 (q89.u [] [(159,⟨[o9,u6],(.aw iM t2),H.su⟩)] ⟨aus,trivial⟩) [] trivial func79 H.As e2 H.alF
def auu:=jB aut [] func153 H.N9 1 (S L (S (S L (B (bV [(2,.dx t2),(3,.dx Mz),(5,.loc 5 0),(6,.loc 6 0)] [(5,.cells t2 [v2]),(6,.cells t4 [v4])] [(2,.dx t2),(3,.dx Mz),(5,.loc 100005 0),(6,.loc 100006 0),(12,aaa),(13,v2)] [(100005,.cells t2 [v2]),(100006,.cells t4 [v4])] [] [(100005,.cells t2 [v2]),(100006,.cells t4 [v4])] D (B e0)))) D)) H.alS (hc:=λx h=>by obtain⟨_,_,_,_,rfl,_⟩:=h;exact r9 ⟨⟨⟨trivial,rfl⟩,rfl⟩,rfl⟩)
def auv:=lD auu [(150,1),(153,1)] func70 H.Ay (S L (S L (S e0 e9))) H.alT
def auw:=mk auv func71 H.xS e2 H.alU
def auy:=lD auw [] func34 H.Hq e2 H.alV
def auz:=mk auy func199 W.yf (S L (S e0 (S L (J [(3,.own 3)] [(3,a9)] (S L (B (W [(3,.own 3),(9,dS),(10,v2),(11,v2)] [(3,a9)] e4))) D)))) W.ap7
def auA:=mk auz func198 W.qo aaK W.ap8
def aa9:=mk auA func197 W.yg e2 W.ap9
def auB:IOC:=iA0 (W.shD 1 W.Pm)
theorem auC:IoSpec Tryz.prog noU 122 auB:=mkI aa9 [] trivial func122 e2 W.aqb
def auD:=mk aa9 func73 H.vn e9 H.ak0
def auE:=jB auD [] func72 H.xT 1 e2 H.alW
def aa_:=lD auE [(72,1)] func35 H.Hs e2 H.alY
def auF:IOC:=iA0 (W.shD 1 W.Pn)
theorem auG:IoSpec Tryz.prog noU 123 auF:=mkI aa_ [] trivial func123 e2 W.aqc
def auH:=jB aa_ [] func75 H.N_ 1 e2 H.alZ
def auI:=jB auH [] func78 H.N' 1 (S L (S L (S (S L (B (bV [(2,.dx t2),(3,.dx sM),(7,.loc 7 0)] [(7,.cells t2 [v2])] [(2,.dx t2),(3,.dx sM),(7,.loc 100007 0),(13,aaa),(14,v2)] [(100007,.cells t2 [v2])] [] [(100007,.cells t2 [v2])] D (B e1)))) D))) H.al0 (hc:=λx h=>by obtain⟨_,_,_,_,rfl,_⟩:=h;exact r9 ⟨⟨⟨trivial,rfl⟩,rfl⟩,rfl⟩)
def aa':=lD auI [(75,1),(78,1)] func36 H.Hu yt H.al3
def auJ:IOC:=iA0 (W.shD 1 W.Po)
theorem auK:IoSpec Tryz.prog noU 124 auJ:=mkI aa' [] trivial func124 e2 W.aqd
def auL:=mk aa' func81 H.xK e2 H.aj4
def auM:=jB auL [] func80 H.Az 1 e2 H.Xs
def auN:=mk auM func83 H.xU (S L (S L (S L (J [(6,.loc 6 0),(8,.loc 8 0),(9,v4)] [(6,yp),(8,yp)] (S L (B (W aas [(6,yp),(8,yp)] (S L (S e10 (J aas [(6,yp),(8,yp)] yv L)))))) D)))) H.al5
def auO:=jB auN [] func82 H.Od 1 (S L (S L (J [(6,v2)] [] (S L (B (W [(0,aac),(1,.dx t2),(2,.dx sM),(6,v2),(10,v2)] [] (S L (S e10 (J [(0,aac),(1,.dx t2),(2,.dx sM),(6,v2),(10,v2)] [] yu L)))))) D))) H.al8 (hc:=λx h=>by obtain⟨_,_,_,rfl,_⟩:=h;exact r9 ⟨⟨trivial,rfl⟩,rfl⟩)
def aba:=lD auO [(80,1),(82,1)] func37 H.Hw yt H.al_
def auP:IOC:=iA0 (W.shD 1 W.Pp)
theorem auQ:IoSpec Tryz.prog noU 125 auP:=mkI aba [] trivial func125 e2 W.aqe
def Qp:=jB aba [] func84 H.Og 1 e2 H.amc (hc:=λx h=>by obtain⟨a,b,aq⟩:=h;exact r9 ⟨⟨trivial,q5 (congrArg (λo=>o.1) aq)⟩,q5 (congrArg (λo=>o.2) aq)⟩)
def abb:IOC:=⟨⟨[(0,.gJ),(1,.dx GM),(1000000,.tr t2)],[]⟩,⟨[(1000000,.tr t2)],[]⟩,[],2,H.Nv⟩
theorem auR:IoSpec Tryz.prog noU 162 abb:=mkI (S:=H.Nv) Qp [] trivial func162 (S L (B (W [(0,.gJ),(5,.jM 5),(1000000,.tr t2)] [(5,.b6 t2 t2)] (S L (S e10 yv))))) (λx=>M.le_refl _)
theorem auS:wk Tryz.prog 162 ⟨[GM],t2,H.jD⟩:=Ms (c:=abb) auR l5 (λx l L=>(l,x.getD [],(l,L,[],false),())) rfl (by decide) (by simp[fM])
 (λx l L i hx=>by
  obtain⟨T,hT⟩:=hx;obtain⟨m,aj,_⟩:=hT;subst aj;by_cases h0:i=0
  ·subst h0;exact .inr (.inr (.inl ⟨rfl,rfl⟩))
  ·by_cases h1:i=1
   ·subst h1;exact .inr (.inl ⟨by decide,by decide,_,_,rfl,rfl⟩)
   by_cases h2:i=TRS
   ·subst h2;exact .inr (.inr (.inr ⟨rfl,rfl⟩))
   ·refine .inl ?_;exact (if_neg h0).trans ((if_neg h1).trans (if_neg h2)))
 rfl (λτ=>⟨_,_,_,_,rfl⟩) (λx l hx=>by
  obtain⟨T,hT⟩:=hx;obtain⟨m,aj,_⟩:=hT;subst aj;have h:=H.alx l m;refine⟨h.1,λτ hτ l' L' p hsl=>?_⟩;have e:aC.tr τ.1.1 t2 τ.1.2.1 τ.1.2.2.1 τ.1.2.2.2=.tr l' t2 L' p false:=hsl;injection e with e1 e2 e3 e4 dD
  rw[<-e4];exact h.2 τ hτ dD)
def auT:=pa Qp (Qp.u [] [(162,⟨[GM],t2,H.jD⟩)] ⟨auS,trivial⟩) [] trivial func87 H.Hf e2 H.akA
def abc:=lD auT [(84,1)] func38 H.Hx (S L (S L (S e0 (S L (J [(10,.fk 24)] [(24,.mp t2 t2)] (S L (B (W aat [(4,.gg t2),(5,.gg t2),(24,.mp t2 t2)] (S L (S e10 (J aat [(4,.gg t2),(5,.gg t2),(24,.mp t2 t2)] yu L)))))) D))))) H.amd
def auU:IOC:=iA0 (W.shD 2 W.Pr)
theorem auV:IoSpec Tryz.prog noU 126 auU:=mkI abc [] trivial func126 (S L (S L (S e0 (S e0 D)))) W.aqh
def auW:=jB abc [] func88 H.Az 1 e2 H.al7
def abd:=lD auW [(88,1)] func39 H.Hy (S L (S L (S e0 (J [(4,.own 4),(5,.own 5)] [(4,a2),(5,a2)] (S L (B (W aau A' (S L (S e10 (J aau A' (B (S L (S L (J aap A' (S L (B (W aal A' (S L (S e10 (J aal A' yu L)))))) (J aap A' e1 e1))))) L)))))) D)))) H.ami
def auX:IOC:=iA0 (W.shD 1 W.Pt)
theorem auY:IoSpec Tryz.prog noU 127 auX:=mkI abd [] trivial func127 (S L e9) W.aqj
def auZ:=mk abd func143 fcFitsAt e20 anw
def au0:=jB auZ [] func142 x0 1 e2 anx (hc:=λx h=>by obtain⟨i,w,n,aq,_⟩:=h;exact r9 ⟨⟨⟨trivial,q5 (congrArg (λo=>o.1) aq)⟩,q5 (congrArg (λo=>o.2.1) aq)⟩,q5 (congrArg (λo=>o.2.2) aq)⟩)
def au1:=lD au0 [(142,1)] func63 AL (S L (S mh (S e0 (S L (J [(7,.loc 22 0)] [(22,.cells xx [v22,rq,v2,v24,.own 61]),(61,Eo)] (S L (B (W [(2,.loc 2 0),(7,.loc 22 0),(24,v22),(25,v2),(26,v2)] aaG (S L (S e10 (J [(2,.loc 2 0),(7,.loc 22 0),(24,v22),(25,v2),(26,v2)] aaG (B (S L (S L (J [(2,.loc 2 0),(7,.loc 22 0),(10,.own 10),(24,v22),(25,v2),(26,v2)] [(2,.gg tH),(10,a2),(22,.cells xx [v22,rq,v2,v24,.own 61]),(61,Eo)] (S L (B (W aak [(2,.gg tH),(8,.gg t2),(9,aag),(10,a2),(11,.cells t2 [v2]),(22,.cells xx [v22,rq,v2,v24,.own 61]),(61,Eo)] (S e1 (J aak [(2,.gg tH),(8,.gg t2),(9,aag),(10,a2),(11,.gg t2),(22,.cells xx [v22,rq,v2,v24,.own 61]),(61,Eo)] yv (S D L)))))) (S e0 L))))) L)))))) D))))) anD
def Dn:=mk au1 func24 xY yt anL
def Bb:IOC:=⟨⟨[(0,.val t32)],[]⟩,⟨[(0,.val t22),(1,.val C9),(2,.val t2),(3,.own 28),(4,.own 11),(5,.own 16),(6,.own 20),(7,.own 24),(8,.val t2)],[(28,.a6 zQ),(11,.a6 t2),(16,.a6 xw),(20,.a6 u5),(24,.a6 q1)]⟩,[some 9],1,W.v7⟩
theorem Ey:IoSpec Tryz.prog noU 118 Bb:=mkI Dn [(188,Qe),(189,Qf),(190,Qg),(191,.io Qh),(192,Qi),(193,Qj),(194,Ja),(195,Ql)] ⟨aaQ,aaR,aaS,aaT,aaW,aaX,Qk,aaY,trivial⟩ func118 kK W.sClo
def au2:IOC:=iA0 (W.shD 4 W.vT)
theorem au3:IoSpec Tryz.prog noU 128 au2:=mkI Dn [(118,.io Bb)] ⟨Ey,trivial⟩ func128 (S L (S L (S L (S L (S e0 (S mh e2)))))) W.aqx
def au4:=mk Dn func146 HH aaK anE
def au5:=mk au4 func66 HO (S L (S L (J [(0,Z'),(1,v2),(9,v2)] [] (S L (B (W aav [] (S L (S e10 (J aav [] yv L)))))) D))) anJ
def q8:=mk au5 func23 AI (S L e9) anN
def au6:IOC:=iA0 (W.shD 3 W.Pu)
theorem au7:IoSpec Tryz.prog noU 129 au6:=mkI q8 [] trivial func129 (S L e9) W.aql
def Ez:IOC:=⟨⟨[(0,.loc 100000 0),(1,.val t32)],[(100000,.fH p8)]⟩,⟨[(0,.val t9)],[(100000,.fH p8)]⟩,[none],2,W.v8⟩
theorem Jc:IoSpec Tryz.prog noU 200 Ez:=mkI q8 [] trivial func200 (S L (S e0 e2)) W.aqv
def au8:IOC:=iA0 (W.shD 2 W.vU)
theorem au9:IoSpec Tryz.prog noU 130 au8:=mkI q8 [(118,.io Bb),(200,.io Ez)] ⟨Ey,Jc,trivial⟩ func130 yt W.aqy
def au_:IOC:=iA0 (W.shD 3 W.Pv)
theorem au':IoSpec Tryz.prog noU 131 au_:=mkI q8 [(118,.io Bb),(200,.io Ez)] ⟨Ey,Jc,trivial⟩ func131 ur W.aqz
def ava:IOC:=iA0 (W.shD 4 W.Pw)
theorem avb:IoSpec Tryz.prog noU 132 ava:=mkI q8 [(118,.io Bb),(200,.io Ez)] ⟨Ey,Jc,trivial⟩ func132 ur W.aqA
def avc:IOC:=iA0 (W.shD 5 W.Px)
theorem avd:IoSpec Tryz.prog noU 133 avc:=mkI q8 [(118,.io Bb),(200,.io Ez)] ⟨Ey,Jc,trivial⟩ func133 ur W.aqB
def abe:IOC:=⟨⟨[(0,.own 200001),(1,.val t3),(2,.val t3)],[(200001,.a6 u5)]⟩,⟨[(0,.sub 200001)],[(200001,.a6 u5)]⟩,[none],3,(W.ID W.IH)⟩
theorem ave:IoSpec Tryz.prog noU 201 abe:=mkI q8 [] trivial func201 (S L (S L (S e0 ur))) (W.aqs W.IH)
def avf:IOC:=iA0 (W.shD 1 W.vV)
theorem avg:IoSpec Tryz.prog noU 134 avf:=mkI q8 [(194,Ja),(201,.io abe)] ⟨Qk,ave,trivial⟩ func134 (S L (S e0 (S .FM D))) W.aqC
def avh:=mk q8 func217 sz (S L (S L (S L (S L (S L (S L (S L (S L ur)))))))) aoe
def avi:=mk avh func165 sz (S L (S (C e2 L) e2)) (aog (λ_=>M.fail))
def avj:=mk avi func163 HY (S L (J [(0,nd),(1,v2)] [] e1 (S L (J [(0,nd),(6,v228)] [] e1 (S L (S L (J [(7,.own 30)] [(30,I7)] (B (W [(7,.own 30),(8,v2)] [(30,I7)] (S e1 (B L)))) D))))))) aoo
def avk:=mk avj func90 AQ (S L (S mh (S e0 (S L (J [(2,.loc 2 0),(7,.loc 30 0)] wa (S L (C mh L)) (J [(2,.loc 2 0),(7,.loc 30 0)] wa (S L (B (W [(2,.loc 2 0),(7,.loc 30 0),(46,v2),(47,v2)] wa (S L (S e10 (J [(2,.loc 2 0),(7,.loc 30 0),(46,v2),(47,v2)] wa (B (S L (S L (B (W aaq wa (S L (S e10 (J aaq wa (B (S L (S L (B (W aam wa (S L (S e10 (J aam wa yu L)))))))) L)))))))) L)))))) (J [(2,.loc 2 0),(7,.loc 30 0)] aaD (S L (B (W [(2,.loc 2 0),(7,.loc 30 0),(92,dS),(93,v2),(94,v2)] aaD e4))) (J [(7,.loc 30 0)] aaE (S L (B (W [(7,.loc 30 0),(114,pE),(115,v2),(116,v2)] aaE e4))) D)))))))) aoC
def abf:=mk avk func91 OL e2 aor
def abg:IOC:=⟨⟨[(0,.val t27),(1,.val t3)],[]⟩,⟨[(0,.own 30)],[(30,.a6 t3)]⟩,[none],2,vG⟩
theorem avl:IoSpec Tryz.prog noU 92 abg:=mkI abf [] trivial func92 sZ YJ
def q168:=mk abf func168 vH (S L (S (B (S L (C D (S L (C D e0))))) D)) aot
def abh:=mk q168 func96 H6 (S L (S L (J [(6,.own 6)] [(6,A7)] (S L (B (W [(0,kn),(6,.own 6),(14,dS),(15,v2),(16,v2)] [(6,A7)] (S L (S e10 (J [(0,kn),(6,.own 6),(14,dS),(15,v2),(16,v2)] [(6,A7)] (B (S L (S e1 (S L (S L (J [(0,kn),(6,.own 6),(10,.loc 10 0),(11,v2),(14,dS),(15,v2),(16,v2)] [(6,A7),(10,Z_)] (S L (B (S L (C D e1)))) (S e0 (S L (B (W [(0,kn),(6,.own 6),(10,.loc 10 0),(11,v2),(14,dS),(15,v2),(16,v2),(58,dS),(59,v2),(60,v2)] [(6,A7),(10,Z_)] e4)))))))))) L)))))) D))) aoO
def abi:IOC:=⟨⟨[(0,.val t27),(1,.val t2)],[]⟩,⟨[(0,.own 30)],[(30,.a6 t2)]⟩,[none],2,vG⟩
theorem avm:IoSpec Tryz.prog noU 92 abi:=mkI abh [] trivial func92 sZ YJ
def abj:=mk abh func169 fcGood e2 aoZ
def Qq(f:Nat):IOC:=⟨⟨[(0,.val oi),(1,.own 200001),(2,.val zR),(3,.val t2),(4,.fk 100002)],[(100002,.mp t2 t2),(200001,.a6 t2)]⟩,⟨[(0,.val t4)],[(100002,.mp t2 t2),(200001,.a6 t2)]⟩,[none],5,uh f⟩
theorem abk:∀f,IoSpec Tryz.prog noU 170 (Qq f)
 |0=>MH func170 ao8
 |f+1=>mkI abj [(170,.io (Qq f))] ⟨abk f,trivial⟩ func170 (S L (J [] Qa (S L (B (W aao Qa (S L (S e10 (J aao Qa (B (S L (S e1 (S L (S L (C e2 L)))))) L)))))) D)) (ao7 f)
def avn:=pa abj l5 [(92,.io abi),(170,.io (Qq 201))] ⟨avm,abk 201,trivial⟩ func98 H_ (S L (S L (S L (J [(6,v2)] [] (S L (B (W aaz [(50140,a2)] (S L (S e10 (J aaz [(50140,a2)] yv L)))))) D)))) ao_
def avo:=mk avn func93 vO e20 ao'
def abl:=pa avo l5 [(92,.io abg)] ⟨avl,trivial⟩ func40 Ii (S L (S L (S e0 (S L (S L (J [(8,.own 8)] [(8,a2)] (S L (B (W aaw [(8,a2),(50260,a2)] (S L (S e10 (J aaw [(8,a2),(50260,a2)] yu L)))))) D)))))) apw
def avp:IOC:=iA0 (W.shD 1 W.Py)
theorem avq:IoSpec Tryz.prog noU 135 avp:=mkI abl [] trivial func135 e20 W.aqn
def avr:=mk abl func181 OM e2 aos
def avt:=mk avr func108 HZ (S L (J [(1,dS),(2,.loc 2 0)] [(2,yo)] (S L (B (W [(1,dS),(2,.loc 2 0),(7,dS),(8,v2),(9,v2)] [(2,yo)] e3))) D)) aou
def avu:=mk avt func109 sC (S L (J [(4,v2)] [] (S L (B (W [(0,kn),(4,v2),(7,dS),(8,v2),(9,v2)] [] (S L (S e10 (J [(0,kn),(4,v2),(7,dS),(8,v2),(9,v2)] [] yv L)))))) D)) aoQ
def abm:=mk avu func49 Ij (S L (S L (S e0 (S e0 D)))) apy
def avv:IOC:=iA0 (W.shD 0 W.Pz)
theorem avw:IoSpec Tryz.prog noU 136 avv:=mkI abm [(192,.io aaU)] ⟨aaV,trivial⟩ func136 (S L (S L (J [(0,.loc 100000 0),(5,.own 50100)] [(50100,a2),(100000,Er)] (S L (B (W [(0,.loc 100000 0),(5,.own 50100),(12,v2),(13,v2)] [(50100,a2),(100000,Er)] e4))) e2))) W.aqo
def Qr:=mk abm func92 HW sZ aon
def Jd(f:Nat):IOC:=⟨⟨[(0,.val oi),(1,.val t27),(2,.val t2),(3,.gJ),(1000000,.tr t27)],[]⟩,⟨[(0,.val t4),(1000000,.tr t27)],[]⟩,[none],4,rm f⟩
theorem Qs:∀f,IoSpec Tryz.prog noU 167 (Jd f)
 |0=>MH func167 apj
 |f+1=>mkI Qr [(167,.io (Jd f))] ⟨Qs f,trivial⟩ func167 (S L (S L (S e0 (J [(0,kn),(1,dS),(2,v2),(3,.gJ),(9,v2),(1000000,.tr t27)] [] (S L (B (W aan [] (S L (S e10 (J aan [] (B (S L (S e1 e0))) L)))))) D)))) (api f)
def abn:IOC:=⟨⟨[(0,.val oi),(1,.gJ),(1000000,.tr t27)],[]⟩,⟨[(1000000,.tr t27)],[]⟩,[],2,(G2 (rm 10))⟩
theorem avx:IoSpec Tryz.prog noU 218 abn:=mkI (S:=(G2 (rm 10))) Qr [(167,.io (Jd 10))] ⟨Qs 10,trivial⟩ func218 L (λx=>M.le_refl _)
def Je:ITC:=⟨oi,t27,x',Ib⟩
theorem avy:Cy Tryz.prog 218 Je:=T5 (c:=abn) avx l5 (ic:=Je) (λx l L=>(x,l,(l,L,[],false),())) rfl (by decide) (by simp[Je])
 (λx l L i=>by
  by_cases h0:i=0
  ·subst h0;exact .inr (.inl ⟨by decide,rfl⟩)
  ·by_cases h1:i=1
   ·subst h1;exact .inr (.inr (.inl ⟨rfl,rfl⟩))
   ·by_cases h2:i=TRS
    ·subst h2;exact .inr (.inr (.inr ⟨rfl,rfl⟩))
    ·refine .inl ?_;exact (if_neg h0).trans ((if_neg h1).trans (if_neg h2)))
 rfl (λτ=>⟨_,_,_,_,rfl⟩) (λx l hp=>by
  obtain⟨s,hs,hv⟩:=hp;subst hs;have h:=apk s hv l;refine⟨h.1,λτ hτ l' L' n hsl=>?_⟩;have e:aC.tr τ.1.1 t27 τ.1.2.1 τ.1.2.2.1 τ.1.2.2.2=.tr l' t27 L' n false:=hsl;injection e with e1 e2 e3 e4 dD
  exact e4.symm.trans ((h.2 τ hτ).2.2 dD))
def avz:=pa Qr l5 [(218,.b6 Je)] ⟨avy,trivial⟩ func166 Pb (S L (S L (S (S L (B (bV [(1,.loc 1 0),(3,.loc 3 0)] [(1,.cells oi [kn]),(3,.cells t27 [dS])] [(1,.loc 100001 0),(3,.loc 100003 0),(15,dS)] [(100001,.cells oi [kn]),(100003,.cells t27 [dS])] [] [(100001,.cells oi [kn]),(100003,.cells t27 [dS])] L (B e1)))) D))) apr
def avA:=mk avz func94 Pd (S L e9) aps
def Qt:=mk avA func41 If e2 apt
def avB:IOC:=iA0 (W.shD 0 W.PA)
theorem avC:IoSpec Tryz.prog noU 137 avB:=mkI Qt [] trivial func137 e20 W.aqp
def abo:IOC:=⟨⟨[(0,.val oi),(1,.gJ),(1000000,.tr t27)],[]⟩,⟨[(1000000,.tr t27)],[]⟩,[],2,(G3 (rm 10))⟩
theorem avD:IoSpec Tryz.prog noU 95 abo:=mkI (S:=(G3 (rm 10))) Qt [(167,.io (Jd 10))] ⟨Qs 10,trivial⟩ func95 L (λx=>M.le_refl _)
def Jf:ITC:=⟨oi,t27,x',O9⟩
theorem avE:Cy Tryz.prog 95 Jf:=T5 (c:=abo) avD l5 (ic:=Jf) (λx l L=>(x,l,(l,L,[],false),())) rfl (by decide) (by simp[Jf])
 (λx l L i=>by
  by_cases h0:i=0
  ·subst h0;exact .inr (.inl ⟨by decide,rfl⟩)
  ·by_cases h1:i=1
   ·subst h1;exact .inr (.inr (.inl ⟨rfl,rfl⟩))
   ·by_cases h2:i=TRS
    ·subst h2;exact .inr (.inr (.inr ⟨rfl,rfl⟩))
    ·refine .inl ?_;exact (if_neg h0).trans ((if_neg h1).trans (if_neg h2)))
 rfl (λτ=>⟨_,_,_,_,rfl⟩) (λx l hp=>by
  obtain⟨s,hs,hv⟩:=hp;subst hs;have h:=apl s hv l;refine⟨h.1,λτ hτ l' L' n hsl=>?_⟩;have e:aC.tr τ.1.1 t27 τ.1.2.1 τ.1.2.2.1 τ.1.2.2.2=.tr l' t27 L' n false:=hsl;injection e with e1 e2 e3 e4 dD
  exact e4.symm.trans ((h.2 τ hτ).2.2 dD))
def avF:=mk Qt func97 O3 (S L (J [] [] (S L (B (W [(0,kn),(9,pE),(10,v2),(11,v2)] [] (S L (S e10 (J [(0,kn),(9,pE),(10,v2),(11,v2)] [] (B (S L (S L (J [(0,kn),(7,v4),(9,pE),(10,v2),(11,v2)] [] (S L (B (W [(0,kn),(6,.loc 6 0),(7,v4),(9,pE),(10,v2),(11,v2),(20,v2),(21,v2)] [(6,ase)] e4))) e0)))) L)))))) D)) ao1
def Qu:=pa avF l5 [(95,.b6 Jf)] ⟨avE,trivial⟩ func42 Ih (S L (S L (S e0 (S L (S (S L (B (bV [(4,.loc 4 0),(6,.loc 6 0)] [(4,.cells oi [kn]),(6,.cells t2 [v2])] [(4,.loc 100004 0),(6,.loc 100006 0),(21,dS)] [(100004,.cells oi [kn]),(100006,.cells t2 [v2])] [] [(100004,.cells oi [kn]),(100006,.cells t2 [v2])] L (B (S L (S e1 (S L e1))))))) (S e0 D)))))) apu
def avG:IOC:=iA0 (W.shD 0 W.PB)
theorem avH:IoSpec Tryz.prog noU 138 avG:=mkI Qu [] trivial func138 e20 W.aqq
theorem avI:∀ k∈[119,120,121,122,123,124,125,126,127,128,129,130,131,132,133,134,135,136,137,138],IoSpec Tryz.prog noU k {Qn with sh:=W.Eh k}:=En.mem (l:=[119,120,121,122,123,124,125,126,127,128,129,130,131,132,133,134,135,136,137,138]) ⟨at4,at6,aua,auC,auG,auK,auQ,auV,auY,au3,au7,au9,au',avb,avd,avg,avq,avw,avC,avH,trivial⟩
def abp:IOC:=⟨⟨[(0,.loc 100000 0),(1,.val My),(2,.val t9)],[(100000,.fH p8)]⟩,⟨[(0,.val t9)],[(100000,.fH p8)]⟩,[none],3,W.IN⟩
theorem avJ:IoSpec Tryz.prog noU 59 abp:=mkI Qu [(999999,.Fw Qn W.Eh [119,120,121,122,123,124,125,126,127,128,129,130,131,132,133,134,135,136,137,138])] ⟨avI,trivial⟩ func59 (S L (S L (S L (S mh (S L (J [(0,.loc 100000 0),(8,.loc 8 0),(11,.own 48)] [(8,aaf),(48,a2),(100000,Er)] (S L (B (W [(0,.loc 100000 0),(8,.loc 8 0),(11,.own 48),(50,rr),(51,v2),(52,v2)] [(8,aaf),(48,a2),(100000,Er)] (S L (S e10 (S (B (S L (S L (S e0 L)))) L)))))) D)))))) W.aqK
def Nk:=pa Qu l5 [(57,.io aa0),(59,.io abp)] ⟨at3,avJ,trivial⟩ func20 W.sJ (S L (S mh (S e0 (S L (J [(4,.own 4),(5,.loc 5 0),(8,.loc 50230 0)] aaC (S L (B (W [(4,.own 4),(5,.loc 5 0),(8,.loc 50230 0),(9,asg),(25,rr),(26,v2),(27,v2)] aaC e4))) D))))) W.aqV
def avK:=mk Nk func62 W.um (S L (S e0 (J [] [] (S L (B (W [(0,dS),(1,dS),(5,v2)] [] dD))) D))) W.aq_
def avL:=mk avK func60 W.IZ (S L (S e0 (J I_ Et (S L (B (W [(2,.loc 2 0),(3,.loc 3 0),(5,v2)] Et dD))) (J I_ Et (S L (B (W [(2,.loc 2 0),(3,.loc 3 0),(6,v2)] Et dD))) (J [] [] (S L (B (W P' Et dD))) D))))) W.aq'
def avM:=mk avL func61 W.I0 (S L (S e0 (J I_ yq (S L (B (W [(2,.loc 2 0),(3,.loc 3 0),(5,v2)] yq dD))) (J I_ yq (S L (B (W [(2,.loc 2 0),(3,.loc 3 0),(6,v2)] yq dD))) (J [] [] (S L (B (W P' yq (S e1 (J P' yq (B (S L (S e0 (S L (B (W [(2,.loc 2 0),(3,.loc 3 0),(7,v2),(8,P8),(9,P8),(10,v2)] yq dD)))))) L))))) D))))) W.ara
def Nl:=mk avM func22 W.Ej (S L (S L (S e0 (J [(5,.loc 5 0),(6,.loc 6 0)] Eu (S L (B (W [(5,.loc 5 0),(6,.loc 6 0),(7,v2)] Eu yr))) (J [(5,.loc 5 0),(6,.loc 6 0)] Eu (S L (B (W [(5,.loc 5 0),(6,.loc 6 0),(10,v2)] Eu yr))) (J [] [] (S L (B (W [(5,.loc 5 0),(6,.loc 6 0),(13,v2)] Eu dD))) D)))))) W.arb
def avN:=mk Nl func110 vt (S L (S e0 (J nf ng (S L (B (W sK ng (S e1 (J sK ng (B (S e0 (S L (B (W I9 ng dD))))) L))))) (S e0 (J nf ng (S L (B (W A_ ng dD))) D))))) anU
def avO:=mk avN func50 Ik (S L (S e0 (J nf qq (S L (B (W sK qq dD))) (J nf qq aaJ (S e0 (S L (J A_ qq (S L (B (W [(1,.loc 1 0),(5,v2),(6,v2)] qq Ev))) D))))))) apB
def avP:=mk avO func51 H.vt (S L (S e0 (S e0 (S L (J [(3,v2)] [] (S L (B (W I9 nS Ev))) D))))) H.amk
def avQ:=mk avP func111 W.IV (S L (S L (J [(3,.own 5)] [(5,a9)] (S L (B (W [(0,v9),(3,.own 5),(4,v2)] [(5,a9)] (S e1 (J [(0,v9),(3,.own 5),(4,v2)] [(5,a9)] (B e1) L))))) D))) W.aq3
def avR:=mk avQ func112 W.IU (S L (S e0 (S L (J [(3,v2)] [] (S L (B (W [(0,v9),(3,v2),(4,v2)] [] (S e1 (S (B (S e0 L)) L))))) D)))) W.aq2
def avS:=mk avR func113 W.IW (S L ur) W.aq5
def avT:=mk avS func52 W.IY (S L (S L (J [(3,.own 3),(5,rr)] [(3,a2)] (S L (B (W [(3,.own 3),(5,rr),(6,v2)] [(3,a2)] (S e1 (S (B (S L (S e0 L))) L))))) (S L (J [] [] (S L (B (W [(3,.own 3),(5,rr),(8,rr),(9,dS),(10,dS),(11,v2)] [(3,a2)] dD))) D))))) W.aq6
def sa:=mk avT func14 W.I2 (S L (S e0 (S L (J [(1,rr),(2,.loc 2 0),(5,v2),(6,v2),(7,v2),(8,v2)] [(2,Ep)] (S L (B (W [(1,rr),(2,.loc 2 0),(5,v2),(6,v2),(7,v2),(8,v2),(9,v2)] [(2,Ep)] Ev))) (J [(2,.loc 2 0),(5,v2),(6,v2),(7,v2),(8,v2)] [(2,Ep)] (S L (B (W aax [(2,Ep)] (S e1 (J aax [(2,Ep)] (B (S e0 (S L (B (S L (C L (S L (C L (S L (C D e1)))))))))) L))))) D))))) W.are
def avU:=mk sa func28 W.El e2 W.arf
def avV:=mk avU func30 W.yk (S L (S e0 (J [] [] (S L (B (W [(0,rr),(1,rr),(5,v2)] [] dD))) D))) W.aq9
def avW:=mk avV func183 OH e2 anV
def avX:=mk avW func115 Il e2 apC
def avY:=mk avX func54 W.IS e2 W.aqX
def avZ:=mk avY func29 W.Em e20 W.arl
theorem abH:hK Tryz.prog 5 (.aw wc (.aw EB t3)) t4 (λx=>Oj W.oG.sh W.sJ.sh W.Ej.sh W.El.sh W.Em.sh W.yk.sh x):=GV avZ l5 (sp:=[]) trivial func5 (ann:=(S L (S e0 yt))) (λx=>M.le_refl _) (by kernel_rfl) λx=>by kernel_rfl
end
end Go.Fer.nT
namespace Go.Fer.nT
open Go Go.Proofs
theorem abE{H:Type}{enc:TypeId×Value->H}{a:Assume}{C:Checked}{os:Os}{f:FuncId}{fn:Func}{s:ChangeSpec}{conds:List PathCond}{apart Fv handsOn again:Bool}{X:World->Array Value->Prop}
  (zw:∀ (w w':World) (args:Array Value),w.heap=w'.heap->X w args->X w' args)
  (own:ownKnob C.prog.godebug=none) (started:os.Started) (av0:C.prog.inits.idxOf? f=none) (sN:C.prog.funcs[f]?=some fn)
  (witness:∃ (w:World) (tape:Tape) (i:Input),w.os=os/\(w.forCall tape i).Shaped C.prog/\i.vars=[]/\Input.okWide C.prog (w.forCall tape i) .any w.heap.size f i/\
   ((s.pre enc C.prog fn conds apart (w.forCall tape i).memory i.args/\X (w.forCall tape i).memory i.args)/\sizedMet enc C.prog fn (OpenSpec.ofChange s) apart (w.forCall tape i).memory i.args)/\a.holds C.prog (lone (Frame.enter C.prog f i.args .normal) [] (w.forCall tape i)))
  (av1:∀ (W:World) (base:Nat) (args:Array Value) (a7 gs:List (DataW H)) (before:List MemPlace),(∀ (j:Nat) t v,fn.params[j]?=some t->args[j]?=some v->Value.okWide C.prog W .any base t v)->
   DataW.Whole enc C.prog fn.params.toList s.vars apart W args.toList a7 gs before->
   W.ShapedOpen C.prog->X W args->
   Calls C.prog f args W λe p3=>∃ v,e=.returned v/\s.post enc C.prog fn apart Fv handsOn again W args v p3) :
  ReturnsInHanded a C os f .any (λw args=>(s.pre enc C.prog fn conds apart w args/\X w args)/\sizedMet enc C.prog fn (OpenSpec.ofChange s) apart w args) (s.post enc C.prog fn apart Fv handsOn again):=by
 refine returnsInHanded_of_calls own started av0 witness ?_;intro w tape i _ nh _ cn gj axq;obtain⟨_,_,_,av2,av3,_,_,_,_,xt⟩:=cn;have e:av2=fn:=Option.some.inj (av3.symm.trans sN);subst e;obtain⟨⟨⟨a7,gs,before,hw,hc⟩,hx⟩,a8⟩:=gj;have Cp:=DataW.Whole.of_heap (w':=w.forCall tape i) (by rfl) hw;refine (av1 (w.forCall tape i) w.heap.size i.args a7 gs before xt Cp nh (zw (w.forCall tape i).memory (w.forCall tape i) i.args rfl hx)).mono λe p3 ⟨v,he,hp⟩=>?_;subst he;exact ChangeSpec.post_blind hp
theorem Jh{P:Program}{w:World}:∀ {l:List (String×DataW Unit)} {ps:List MemPlace},DataW.LaidVars P w l ps->∀ n d,(n,d)∈l->∃ g t cs bW p,P.globalNamed n=some g/\(P.globals[g]?).map (·.type)=some t/\w.var? P n=some cs/\DataW.trod (λ_=>()) P w 0 (λ_=>true) false bW t cs.toList=some (d,p)
 | [],_,_,_,_,aj=>by cases aj
 | (iH,uz)::r,ps,h,n,d,aj=>by
  obtain⟨g,t,cs,bW,p,q,h1,h2,h3,aQ,bu,_⟩:=h;rcases List.mem_cons.1 aj with e | e
  ·cases e;exact⟨g,t,cs,bW,p,h1,h2,h3,aQ⟩
  ·exact Jh bu n d e
theorem abD{P:Program}{w:World}{n:String}{g:Nat}{t:TypeId}{d:DataW Unit}{bW:Nat}{cs:Array Value}{p:List MemPlace}(az:P.globalNamed n=some g)(hv:w.var? P n=some cs)(hu:∃ ms,P.underlying t=some (.interface ms))
  (h:DataW.trod (λ_=>()) P w 0 (λ_=>true) false bW t cs.toList=some (d,p)):∃ v,w.cell? ⟨g,0,none⟩=some v/\(v=.nilIface\/∃ te pe,v=.iface te pe):=by
 obtain⟨ms,hu⟩:=hu;have hc:w.cell? ⟨g,0,none⟩=cs[0]?:=by
  unfold World.var? at hv;rw[az]at hv;simp only[Option.bind_some]at hv;cases af:w.heap[g]? with
  | none=>rw[af]at hv;cases hv
  | some o=>
   rw[af]at hv;cases o with
   | cells a T ep=>cases hv;simp[World.cell?,af]
   | _=>cases hv
 have aF:cs[0]?=cs.toList[0]?:=by simp
 rw[hc,aF];generalize cs.toList=l at h;cases bW with
 | zero=>simp[DataW.trod]at h
 | succ bW=>
  match l with
  | []=>simp[DataW.trod,hu]at h
  | [.nilIface]=>exact⟨_,rfl,.inl rfl⟩
  | [.iface u v]=>exact⟨_,rfl,.inr ⟨u,v,rfl⟩⟩
  | _::_::_=>simp[DataW.trod,hu]at h
  | [x]=>cases x<;>first | exact⟨_,rfl,.inl rfl⟩ | exact⟨_,rfl,.inr ⟨_,_,rfl⟩⟩ | (simp[DataW.trod,hu]at h;done)
theorem av4:((List.range 8).all λb=>(((begin Tryz.prog (λ_ _=>0) default).world.heap[b]?).bind Obj.row?).isSome)=true:=by kernel_rfl
theorem abJ{W : World}(h : W.ShapedOpen Tryz.prog)(h1 : ∃ v, W.cell? ⟨1, 0, none⟩ = some v /\ (v = .nilIface \/ ∃ te pe, v = .iface te pe))(h2 : ∃ v, W.cell? ⟨2, 0, none⟩ = some v /\ (v = .nilIface \/ ∃ te pe, v = .iface te pe))(aF : Lib.TabIs Tryz.prog W "internal/strconv.uint64pow10" .u64 Lib.pow10Tab) : nj Tryz.prog (p6 W) W := λb aa => by
 have iS:b<8:=Nat.lt_of_lt_of_le aa (of_decide_eq_true (by kernel_rfl));refine⟨?_,?_⟩
 ·have G:=List.all_eq_true.1 av4 b (List.mem_range.2 iS);obtain⟨⟨zero,t⟩,a8⟩:=Option.isSome_iff_exists.1 G;obtain⟨cs,cy,_⟩:=h.1 b zero t aa a8;exact (Array.getElem?_eq_some_iff.1 cy).1
 ·match b,aa,iS with
  | 0,aa,_=>exact cell_of_shapedOpen_int (t:=3) (zero:=#[.int .i64 0]) h aa (by kernel_rfl) rfl (by kernel_rfl) (by kernel_rfl) Tryz.underlying3
  | 1,_,_=>exact h1
  | 2,_,_=>exact h2
  | 3,_,_=>trivial
  | 4,_,_=>trivial
  | 5,_,_=>
   show ∀ i,W.cell? ⟨5,i,none⟩=if i<20 then some (.int .u64 (10 ^ i)) else none
   unfold Lib.TabIs World.var? at aF;rw[show Tryz.prog.globalNamed "internal/strconv.uint64pow10" = some 5 by kernel_rfl]at aF;change (match W.heap[5]? with | some (.cells cs _ _)=>some cs | _=>none)=_ at aF;intro i;cases af:W.heap[5]? with
   | none=>rw[af]at aF;cases aF
   | some o=>
    rw[af]at aF;cases o with
    | cells cs T ep=>
     simp only[Option.some.injEq]at aF;simp only[World.cell?,af,aF];simp only[Option.isSome_none,Bool.false_eq_true,if_false,List.getElem?_toArray,List.getElem?_map,Lib.pow10Tab];split
     ·rename_i I5;rw[List.getElem?_range I5];simp
     ·rename_i I5;rw[List.getElem?_eq_none (by simp;omega)];rfl
    | _=>cases aF
  | 6,_,_=>trivial
  | 7,_,_=>trivial
end Go.Fer.nT
