/- Part 7 of the proof of Dropped: shallow programs of Go functions, and what they compute. No condition. -/
import Derived.Test.YtplfnoecifjgeaaGreatDoorDroppedF
import Derived.Shelf.SlGeneric
import Derived.Shelf.Spec.SlicesGrow
import Derived.Shelf.Strings.OnBuilder
import Derived.Shelf.LaysM
import Derived.Shelf.Strconv.Itoa3
import Derived.Shelf.LaysC
import Derived.Shelf.Strconv.AtoiAll
import Derived.Shelf.Strings.Split
import Derived.Shelf.Slices.In.SortNone
import Derived.Test.YtplfnoecifjgeaaGreatDoorProg
import Derived.WalkKit
import Derived.WalkSpells
import Derived.Handy
import Derived.Shelf.Sort.AssemblyIn
import Derived.Sort.EveryDepth
import Derived.Handed
import Derived.Shelf.Vars
import Derived.Lib.LaidTab
import Derived.Lib.ItoaNum
noncomputable section
set_option linter.unusedVariables false
set_option linter.unusedSimpArgs false
namespace Go.Fer.au
open A (W)
open H (gv)
abbrev EW:aP:=⟨.az ta ta,.bool,λx=>x.1.length<2 ^ 63,λx=>decide (x.1=x.2)⟩
theorem arW(a b:List aM)(h:a.length=b.length):((List.range a.length).any λi=>decide (a.getD i []≠b.getD i []))=!decide (a=b):=by
 rw[Bool.eq_iff_iff];simp only[List.any_eq_true,List.mem_range,decide_eq_true_eq,Bool.not_eq_true',decide_eq_false_iff_not];constructor
 ·grind
 ·intro eD;refine Classical.byContradiction λfG=>eD (List.ext_getElem h λi E U=>?_);simp_all
theorem arX(x):A.le (YX x) (EW.sh x):=A.bw λh=>by
 obtain⟨a,b⟩:=x;change a.length<2 ^ 63 at h;unfold YX;show _=A.pure (decide (a=b));by_cases ak:a.length=b.length
 ·rw[if_neg (by grind)];rw[A.dL (List.range a.length) (λi (_:Unit)=>(a,b,(i:Int),())) (λi (_:Unit)=>if decide (a.getD i []≠b.getD i [])=true then .done (.done false) else .next ()) (λ_=>.next ()) () ?_ ?_ ?_]
  ·rw[rv,arW a b ak,A.aH];cases decide (a=b)<;>rfl
  ·rfl
  ·intro i G _;have G:i<a.length:=by grind
   have aa:i<b.length:=by omega
   have hw:=bC (n:=(i:Int)+1) (by omega) (by omega);simp only[List.getElem_range,bW,cZ G,if_true,cL G,cL aa,A.br,cm,hw,Int.toNat_natCast];by_cases hc:decide (a.getD i []≠b.getD i [])=true
   ·rw[if_pos hc,if_pos hc,A.aH,A.aH];rfl
   ·rw[if_neg hc,if_neg hc];rfl
  simp
 ·rw[if_pos (show decide (Int.ofNat a.length≠Int.ofNat b.length)=true by grind),show decide (a=b)=false from decide_eq_false λe=>ak (by rw[e])]
theorem arY{a b:List aM}(h:a.length<2 ^ 63):EW.sh (a,b)=A.pure (decide (a=b)):=A.bR h _
abbrev uT:aP:=⟨.az fP fP,.bool,λx=>x.1=x.2/\x.1.length<2 ^ 63,λ_=>true⟩
theorem arZ(x):A.le (YP x) (uT.sh x):=A.bw λh=>by
 obtain⟨a,b⟩:=x;obtain⟨rfl,h⟩:a=b/\a.length<2 ^ 63:=h;unfold YP;rw[if_neg (by simp)];rw[A.dL a (λi (_:Unit)=>(a,a,(i:Int),())) (λ_ b=>.next b) (λ_=>.next ()) () ?_ ?_ ?_]
 ·rw[ej,A.aH,A.b2]
 ·rfl
 ·intro i G _;have hw:=bC (n:=(i:Int)+1) (by omega) (by omega);simp_all
 simp
theorem EX{a:z1'}(h:a.length<2 ^ 63):uT.sh (a,a)=A.pure true:=A.bR ⟨rfl,h⟩ _
abbrev Jy:aP:=⟨.az H.jv H.jv,.bool,λx=>x.1=x.2/\H.iR x.1,λ_=>true⟩
theorem ar0(x):A.le (YO uT.sh x) (Jy.sh x):=A.bw λh=>by
 obtain⟨a,b⟩:=x;obtain⟨rfl,E,U,ah,aZ⟩:a=b/\H.iR a:=h;unfold YO;rw[EX ah];simp only[A.kA,A.aH];rw[if_neg (by simp)];rw[A.dL a.1 (λi (_:Unit)=>((i:Int),a,a,())) (λ_ b=>.next b) (λ_=>.next (a,a,())) () ?_ ?_ ?_]
 ·rw[ej,A.aH,A.b2];rw[A.dL a.2.1 (λi (_:Unit)=>((i:Int),a,a,())) (λ_ b=>.next b) (λ_=>.next (a,a,())) () ?_ ?_ ?_]
  ·rw[ej,A.aH,A.b2];rw[A.dL a.2.2.2.1 (λi (_:Unit)=>((i:Int),a,a,())) (λ_ b=>.next b) (λ_=>.next ()) () ?_ ?_ ?_]
   ·rw[ej,A.aH,A.b2]
   ·rfl
   ·intro i G _;have hw:=bC (n:=(i:Int)+1) (by omega) (by omega);simp_all
   simp
  ·rfl
  ·intro i G _;have hw:=bC (n:=(i:Int)+1) (by omega) (by omega);simp_all
  simp
 ·rfl
 ·intro i G _;have hw:=bC (n:=(i:Int)+1) (by omega) (by omega);simp_all
 simp
abbrev Jz:aP:=⟨.az kE kE,.bool,λx=>x.1=x.2/\gQ x.1,λ_=>true⟩
theorem ar1(x):A.le (YQ uT.sh x) (Jz.sh x):=A.bw λh=>by
 obtain⟨a,b⟩:=x;obtain⟨rfl,E,U,ah,aZ⟩:a=b/\gQ a:=h;unfold YQ;rw[if_neg (by simp)];rw[A.dL a.1 (λi (_:Unit)=>((i:Int),a,a,())) (λ_ b=>.next b) (λ_=>.next (a,a,())) () ?_ ?_ ?_]
 ·rw[ej,A.aH,A.b2];rw[A.dL a.2.2.2 (λi (_:Unit)=>((i:Int),a,a,())) (λ_ b=>.next b) (λ_=>.next (a,a,())) () ?_ ?_ ?_]
  ·rw[ej,A.aH,A.b2];rw[A.dL a.2.1 (λi (_:Unit)=>((i:Int),a,a,())) (λ_ b=>.next b) (λ_=>.next ()) () ?_ ?_ ?_]
   ·rw[ej,A.aH,A.b2]
   ·rfl
   ·intro i G _;have hw:=bC (n:=(i:Int)+1) (by omega) (by omega);obtain⟨hm,aD⟩:=aZ _ (List.getElem_mem G);simp only[bW,cZ G,if_true,dm G,cL G,A.br,cm,hw];rw[if_neg (by simp)];rw[A.dL a.2.1[i] (λj (_:Unit)=>((i:Int),a.2.1[i],a.2.1[i],(j:Int),a,a,())) (λ_ b=>.next b) (λ_=>.next ((i:Int),a,a,())) () ?_ ?_ ?_]
    ·rw[ej,A.aH,A.b2];simp_all
    ·rfl
    ·intro j aG _;have hw:=bC (n:=(j:Int)+1) (by omega) (by omega);have bq:uT.sh (a.2.1[i][j].2.1,a.2.1[i][j].2.1)=A.pure true:=EX (aD _ (List.getElem_mem aG));simp_all
    simp
   simp
  ·rfl
  ·intro i G _;have hw:=bC (n:=(i:Int)+1) (by omega) (by omega);simp_all
  simp
 ·rfl
 ·intro i G _;have hw:=bC (n:=(i:Int)+1) (by omega) (by omega);simp_all
 simp
abbrev EY:aP:=⟨.az wy wy,.bool,λx=>x.1=x.2/\fx x.1.1/\H.iR x.1.2,λ_=>true⟩
theorem ar2(x):A.le (YN Jy.sh Jz.sh uT.sh x) (EY.sh x):=A.bw λh=>by
 obtain⟨a,b⟩:=x;obtain⟨rfl,⟨E,U,ah,aZ,bM,dt,gb⟩,hc⟩:a=b/\fx a.1/\H.iR a.2:=h;unfold YN;rw[show Jy.sh (a.2,a.2)=A.pure true from A.bR ⟨rfl,hc⟩ _,show Jz.sh (a.1.1,a.1.1)=A.pure true from A.bR ⟨rfl,E⟩ _,EX U];simp only[A.kA,A.aH];rw[if_neg (by simp)];rw[A.dL a.1.2.2.1 (λi (_:Unit)=>((i:Int),a.1,a.1,())) (λ_ b=>.next b) (λ_=>.next (a.1,a.1,())) () ?_ ?_ ?_]
 ·rw[ej,A.aH,A.b2];rw[A.dL a.1.2.2.2.1 (λi (_:Unit)=>((i:Int),a.1,a.1,())) (λ_ b=>.next b) (λ_=>.next (a.1,a.1,())) () ?_ ?_ ?_]
  ·rw[ej,A.aH,A.b2];rw[A.dL a.1.2.2.2.2.1 (λi (_:Unit)=>((i:Int),a.1,a.1,())) (λ_ b=>.next b) (λ_=>.next ()) () ?_ ?_ ?_]
   ·rw[ej,A.aH,A.b2]
   ·rfl
   ·intro i G _;have hw:=bC (n:=(i:Int)+1) (by omega) (by omega);simp_all
   simp
  ·rfl
  ·intro i G _;have hw:=bC (n:=(i:Int)+1) (by omega) (by omega);have bq:uT.sh (a.1.2.2.2.1[i].1,a.1.2.2.2.1[i].1)=A.pure true:=EX (gb _ (List.getElem_mem G));simp_all
  simp
 ·rfl
 ·intro i G _;have hw:=bC (n:=(i:Int)+1) (by omega) (by omega);have bq:uT.sh (a.1.2.2.1[i].2.2.2.2,a.1.2.2.1[i].2.2.2.2)=A.pure true:=EX (dt _ (List.getElem_mem G));simp_all
 simp
theorem Qt{d:a_}(h:ds d):EY.sh (d,d)=A.pure true:=A.bR ⟨rfl,h.gL,h.iR⟩ _
abbrev EZ:Type:=Int×Int×Int×Int
def Qu(s:aM)(c:EZ):EZ:=
 if (!(uS s).2.2)=true then c else if decide ((uS s).1=[119,105,115,104])=true then (IntKind.wrap .i64 (c.1+1),c.2)
 else if decide ((uS s).1=[112,105,101,99,101])=true then (c.1,IntKind.wrap .i64 (c.2.1+1),c.2.2.1,IntKind.wrap .i64 (c.2.2.2+IntKind.wrap .i64 (((uS s).2.1.length:Int) - 4)))
 else if decide ((uS s).1=[99,111,109,101,115])=true then (c.1,c.2.1,IntKind.wrap .i64 (c.2.2.1+1),c.2.2.2) else c
def aaq(d:a_):EZ:=((d.1.2.2.2.1.length:Int),(d.1.2.2.1.length:Int),(d.1.2.2.2.2.1.length:Int),d.1.2.2.1.foldl (λn p=>IntKind.wrap .i64 (n+(p.2.2.2.2.length:Int))) 0)
def ar3(c:EZ):Bool:=decide (c.1 > 3)||decide (c.2.1 > 4)||decide (c.2.2.1 > 3)||decide (c.2.2.2 > 4)
def uU(d:a_)(l:List aM):Bool:=
 if (uQ d.1||H.l4 d.2||decide ((l.length:Int) > 60))=true then true else if (l.any λs=>decide ((s.length:Int) > 80))=true then true
 else decide (iv d=0)&&ar3 (l.foldl (λc s=>Qu s c) (aaq d))
abbrev JA(x:a_×List aM):Prop:=fx x.1.1/\H.iR x.1.2/\x.2.length<2 ^ 63
abbrev JB:aP:=⟨.az wy ta,.bool,JA,λx=>uU x.1 x.2⟩
theorem ar4(x):A.le (YS qJ.sh I2.sh H.vY.sh Jx.sh x) (JB.sh x):=A.bw λh=>by
 obtain⟨d,l⟩:=x;obtain⟨E,U,ah⟩:JA (d,l):=h;have iQ:d.1.2.2.1.length<2 ^ 63:=E.2.2.1;change l.length<2 ^ 63 at ah;unfold YS;show _=A.pure (uU d l);unfold uU;rw[show I2.sh d.1=A.pure (uQ d.1) from A.bR E _,A.aH,show H.vY.sh d.2=A.pure (H.l4 d.2) from A.bR U _,A.kA,A.aH];have e:(uQ d.1||(if (!uQ d.1)=true then H.l4 d.2 else false)||decide (Int.ofNat l.length > 60))=(uQ d.1||H.l4 d.2||decide ((l.length:Int) > 60)):=by grind
 rw[e];by_cases ar:(uQ d.1||H.l4 d.2||decide ((l.length:Int) > 60))=true
 ·grind
 ·rw[if_neg ar,if_neg ar];rw[A.dL d.1.2.2.1 (λi (n:Int)=>(l,(d.1.2.2.2.1.length:Int),(d.1.2.2.1.length:Int),(d.1.2.2.2.2.1.length:Int),n,(i:Int),d,())) (λp n=>.next (IntKind.wrap .i64 (n+(p.2.2.2.2.length:Int)))) (λn=>.next (l,(d.1.2.2.2.1.length:Int),(d.1.2.2.1.length:Int),(d.1.2.2.2.2.1.length:Int),n,d,())) 0 ?_ ?_ ?_]
  ·rw[ej,A.aH,A.b2];rw[A.dL l (λi (c:EZ)=>(l,c.1,c.2.1,c.2.2.1,c.2.2.2,(i:Int),d,())) (λs c=>if decide ((s.length:Int) > 80)=true then .done (.done true) else .next (Qu s c)) (λc=>.next (c.1,c.2.1,c.2.2.1,c.2.2.2,d,())) (aaq d) ?_ ?_ ?_]
   ·rw[Js,A.aH];by_cases bb:(l.any λs=>decide ((s.length:Int) > 80))=true
    ·simp_all
    ·rw[if_neg bb,if_neg bb,A.b2];rw[show qJ.sh d=A.pure (iv d) from A.bR ⟨E,U⟩ _,A.aH];rfl
   ·rfl
   ·intro i G c;have hw:=bC (n:=(i:Int)+1) (by omega) (by omega);simp only[Prod.dc,Prod.fq,Prod.gO,bW,cZ G,if_true,dm G,cL G,A.br,cm];by_cases hc:decide ((l[i].length:Int) > 80)=true
    ·simp_all
    ·rw[if_neg hc,if_neg hc];rw[arV (by grind),A.aH];unfold Qu;split
     ·simp_all
     ·split
      ·simp_all
      ·split
       ·simp_all
       ·split
        ·rw[A.aH,A.b2];simp only[hw];rfl
        ·rw[A.aH,A.b2];simp only[hw];rfl
   simp
  ·rfl
  ·intro i G n;have hw:=bC (n:=(i:Int)+1) (by omega) (by omega);simp_all
  simp
abbrev uV:aP:=⟨.az wy (.az ta (.int .i64)),.bool,λx=>JA (x.1,x.2.1),λx=>!uU x.1 x.2.1&&decide (iv x.1=0)&&decide ((x.2.1.length:Int)<=x.2.2)⟩
theorem ar5(x):A.le (YR JB.sh qJ.sh x) (uV.sh x):=A.bw λh=>by
 obtain⟨d,l,n⟩:=x;obtain⟨E,U,ah⟩:JA (d,l):=h;unfold YR;rw[show JB.sh (d,l)=A.pure (uU d l) from A.bR ⟨E,U,ah⟩ _,A.aH,show qJ.sh d=A.pure (iv d) from A.bR ⟨E,U⟩ _,A.kA,A.aH];grind
theorem ar6{d:a_}{l:List aM}{n:Int}(E:fx d.1)(U:H.iR d.2)(h:(!uU d l&&decide (iv d=0)&&decide ((l.length:Int)<=n))=true):ds d/\(l.length:Int)<=n/\∀ s∈l,s.length<=80:=by
 simp only[Bool.and_eq_true,Bool.not_eq_true',decide_eq_true_eq]at h;obtain⟨⟨ar,he⟩,aA⟩:=h;unfold uU at ar;split at ar
 ·grind
 ·rename_i bb;split at ar
  ·grind
  ·rename_i aa;simp only[Bool.or_eq_true,not_or,Bool.not_eq_true]at bb;refine⟨Qp E (H.anl bb.1.2) he,aA,λs aD=>?_⟩;grind
theorem ar7:fx o1.1/\H.iR o1.2:=⟨aqt,by decide,by decide,by decide,by decide⟩
theorem ar8:H.gF o1.2:=⟨⟨by decide,by decide,by decide,by decide⟩,λ_=>by decide +kernel⟩
abbrev E0:aP:=⟨.cV,.bool,λ_=>True,λ_=>true⟩
theorem ar9:lC o1 pq=(Jr,(fv (ft o1) pq).2,0):=by
 unfold lC;rw[if_neg (by rw[arN];decide),if_neg (by decide),Qr.1]
theorem ar_(x):A.le (YW rU.sh EW.sh Jq.sh x) (E0.sh x):=A.bw λ_=>by
 unfold YW;rw[show Jq.sh ()=A.pure o1 from rfl,A.aH];show A.bind (rU.sh (o1,pq)) _=A.pure true;rw[show rU.sh (o1,pq)=A.pure (lC o1 pq) from A.bR ⟨ar7.1,ar8,by decide,by decide⟩ _,A.aH,ar9];show A.bind (ck (decide ((0:Int)=0)) (EW.sh (Jr,Jr)) false) _=_;rw[arY (by decide),A.kA,A.aH];simp only[bW,Qr.2.1,Qr.2.2];simp
theorem aar:E0.sh ()=A.pure true:=rfl
theorem aas{d:a_}(aw:ds d){l:List aM}(ar':l.length<=40)(ak:∀ s∈l,s.length<=10000):rU.sh (d,l)=A.pure ((fv (ft d) l).1,(fv (ft d) l).2,0):=by
 have e:rU.sh (d,l)=A.pure (lC d l):=A.bR ⟨aw.gL,aw.gF,by show l.length<2 ^ 63;omega,ak⟩ _;rw[e];unfold lC;rw[if_neg (by rw[aw.Z'];decide),if_neg (by omega)]
theorem G4{d:a_}{l:List aM}{n:Int}(E:fx d.1)(U:H.iR d.2)(ah:l.length<2 ^ 63):uV.sh (d,l,n)=A.pure (!uU d l&&decide (iv d=0)&&decide ((l.length:Int)<=n)):=A.bR ⟨E,U,ah⟩ _
end Go.Fer.au
namespace Go.Proofs
open Go.Shelf
theorem cI{P:Program}{k:Nat}{f g:Func}(h:P.funcs[k]?=some f)(e:f=g:=by kernel_rfl):P.funcs[k]?=some g:=h.trans (congrArg some e)
open Tryz
def Tryz.aat:Go.Shelf.Ren:=⟨fun | 156=>258 | 165=>318 | 166=>319 | 169=>320 | 240=>358 | 241=>359 | 276=>386 | 277=>387 | n=>n,fun | 31=>48 | 9=>9 | 3=>3 | 4=>4 | 0=>0 | 20=>20 | 72=>345 | 76=>267 | 70=>343 | 37=>171 | 75=>266 | 127=>380 | 164=>405 | 5=>5 | 80=>347 | n=>n,fun | n=>n⟩
theorem Tryz.aau : Go.Proofs.Lays.n156 Tryz.prog Tryz.aat := {
  mixed:=by kernel_rfl
  f156:=cI func258
  f165:=cI func318
  f166:=cI func319
  f169:=cI func320
  f240:=cI func358
  f241:=cI func359
  f276:=cI func386
  f277:=cI func387
  t0:=underlying0
  a0:=isAgg0
  z0:=sizeOf0
  v0:=zeroValue0
  t3:=underlying3
  a3:=isAgg3
  z3:=sizeOf3
  v3:=zeroValue3
  t4:=underlying4
  a4:=isAgg4
  z4:=sizeOf4
  v4:=zeroValue4
  t9:=underlying9
  a9:=isAgg9
  z9:=sizeOf9
  v9:=zeroValue9
  t20:=underlying20
  a20:=isAgg20
  z20:=sizeOf20
  v20:=zeroValue20
  t31:=underlying48
  a31:=isAgg48
  z31:=sizeOf48
  v31:=zeroValue48
  t37:=underlying171
  a37:=isAgg171
  z37:=sizeOf171
  v37:=zeroValue171
  t70:=underlying343
  a70:=isAgg343
  z70:=sizeOf343
  v70:=zeroValue343
  t72:=underlying345
  a72:=isAgg345
  z72:=sizeOf345
  v72:=zeroValue345
  t75:=underlying266
  a75:=isAgg266
  z75:=sizeOf266
  v75:=zeroValue266
  t76:=underlying267
  a76:=isAgg267
  z76:=sizeOf267
  v76:=zeroValue267
  t127:=underlying380
  a127:=isAgg380
  z127:=sizeOf380
  v127:=zeroValue380
  t164:=underlying405
  a164:=isAgg405
  z164:=sizeOf405
  v164:=zeroValue405 }
theorem Tryz.aav : Builder.Extra Tryz.prog Tryz.aat := {
  sizeBuilder:=by kernel_rfl
  liesBuilder:=by kernel_rfl
  t5:=underlying5
  a5:=isAgg5
  z5:=sizeOf5
  v5:=zeroValue5
  infoByte:=by kernel_rfl
  cellsByte:=by kernel_rfl
  sizeByte:=by kernel_rfl
  neB5:=by decide }
def Tryz.asa:Go.Shelf.Ren:=⟨fun | 171=>204 | 243=>264 | 246=>330 | 283=>368 | 284=>369 | 285=>370 | 286=>371 | 129=>291 | 317=>392 | 318=>393 | 319=>394 | 320=>395 | 337=>399 | 338=>400 | n=>n,fun | 3=>3 | 9=>9 | 2=>2 | 4=>4 | 171=>386 | 0=>0 | 53=>285 | 37=>171 | 5=>5 | 173=>388 | 212=>418 | 51=>282 | 20=>20 | 213=>419 | 46=>228 | 232=>423 | 233=>424 | n=>n,fun | 17=>5 | 18=>6 | 19=>7 | n=>n⟩
theorem Tryz.aaw : Go.Proofs.LaysM.n171 Tryz.prog Tryz.asa := {
  mixed:=by kernel_rfl
  f129:=cI func291
  f171:=cI func204
  f243:=cI func264
  f246:=cI func330
  f283:=cI func368
  f284:=cI func369
  f285:=cI func370
  f286:=cI func371
  f317:=cI func392
  f318:=cI func393
  f319:=cI func394
  f320:=cI func395
  f337:=cI func399
  f338:=cI func400
  t0:=underlying0
  a0:=isAgg0
  z0:=sizeOf0
  v0:=zeroValue0
  t2:=underlying2
  a2:=isAgg2
  z2:=sizeOf2
  v2:=zeroValue2
  t3:=underlying3
  a3:=isAgg3
  z3:=sizeOf3
  v3:=zeroValue3
  t4:=underlying4
  a4:=isAgg4
  z4:=sizeOf4
  v4:=zeroValue4
  t5:=underlying5
  a5:=isAgg5
  z5:=sizeOf5
  v5:=zeroValue5
  t9:=underlying9
  a9:=isAgg9
  z9:=sizeOf9
  v9:=zeroValue9
  t20:=underlying20
  a20:=isAgg20
  z20:=sizeOf20
  v20:=zeroValue20
  t37:=underlying171
  a37:=isAgg171
  z37:=sizeOf171
  v37:=zeroValue171
  t46:=underlying228
  a46:=isAgg228
  z46:=sizeOf228
  v46:=zeroValue228
  t51:=underlying282
  a51:=isAgg282
  z51:=sizeOf282
  v51:=zeroValue282
  t53:=underlying285
  a53:=isAgg285
  z53:=sizeOf285
  v53:=zeroValue285
  t171:=underlying386
  a171:=isAgg386
  z171:=sizeOf386
  v171:=zeroValue386
  t173:=underlying388
  a173:=isAgg388
  z173:=sizeOf388
  v173:=zeroValue388
  t212:=underlying418
  a212:=isAgg418
  z212:=sizeOf418
  v212:=zeroValue418
  t213:=underlying419
  a213:=isAgg419
  z213:=sizeOf419
  t232:=underlying423
  a232:=isAgg423
  z232:=sizeOf423
  v232:=zeroValue423
  t233:=underlying424
  a233:=isAgg424
  z233:=sizeOf424
  v233:=zeroValue424
  g17:=by kernel_rfl
  g18:=by kernel_rfl
  g19:=by kernel_rfl
  i0:=by kernel_rfl
  i2:=by kernel_rfl
  i3:=by kernel_rfl
  i4:=by kernel_rfl
  i5:=by kernel_rfl
  i9:=by kernel_rfl
  i20:=by kernel_rfl
  i37:=by kernel_rfl
  i46:=by kernel_rfl
  i51:=by kernel_rfl
  i53:=by kernel_rfl
  i171:=by kernel_rfl
  i173:=by kernel_rfl
  i212:=by kernel_rfl
  i232:=by kernel_rfl
  i233:=by kernel_rfl
  m17:=by kernel_rfl
  m18:=by kernel_rfl
  m19:=by kernel_rfl }
def Tryz.asb:Go.Shelf.Ren:=⟨fun | 172=>203 | 244=>262 | 245=>263 | 247=>325 | 279=>326 | 280=>327 | 281=>328 | 282=>329 | 287=>365 | 316=>366 | 171=>204 | 205=>367 | 321=>390 | 322=>391 | 243=>264 | 246=>330 | 283=>368 | 284=>369 | 285=>370 | 286=>371 | 129=>291 | 317=>392 | 318=>393 | 319=>394 | 320=>395 | 337=>399 | 338=>400 | n=>n,fun | 9=>9 | 3=>3 | 75=>266 | 76=>267 | 4=>4 | 5=>5 | 167=>351 | 37=>171 | 0=>0 | 85=>352 | 2=>2 | 168=>354 | 53=>285 | 175=>381 | 46=>228 | 210=>384 | 127=>380 | 145=>416 | 143=>414 | 21=>21 | 171=>386 | 173=>388 | 212=>418 | 51=>282 | 20=>20 | 213=>419 | 232=>423 | 233=>424 | 80=>347 | n=>n,fun | 15=>1 | 16=>2 | 17=>5 | 18=>6 | 19=>7 | n=>n⟩
theorem Tryz.Qv : Go.Proofs.LaysC.n172 Tryz.prog Tryz.asb := {
  mixed:=by kernel_rfl
  f129:=cI func291
  f171:=cI func204
  f172:=cI func203
  f205:=cI func367
  f243:=cI func264
  f244:=cI func262
  f245:=cI func263
  f246:=cI func330
  f247:=cI func325
  f279:=cI func326
  f280:=cI func327
  f281:=cI func328
  f282:=cI func329
  f283:=cI func368
  f284:=cI func369
  f285:=cI func370
  f286:=cI func371
  f287:=cI func365
  f316:=cI func366
  f317:=cI func392
  f318:=cI func393
  f319:=cI func394
  f320:=cI func395
  f321:=cI func390
  f322:=cI func391
  f337:=cI func399
  f338:=cI func400
  t0:=underlying0
  a0:=isAgg0
  z0:=sizeOf0
  v0:=zeroValue0
  t2:=underlying2
  a2:=isAgg2
  z2:=sizeOf2
  v2:=zeroValue2
  t3:=underlying3
  a3:=isAgg3
  z3:=sizeOf3
  v3:=zeroValue3
  t4:=underlying4
  a4:=isAgg4
  z4:=sizeOf4
  v4:=zeroValue4
  t5:=underlying5
  a5:=isAgg5
  z5:=sizeOf5
  v5:=zeroValue5
  t9:=underlying9
  a9:=isAgg9
  z9:=sizeOf9
  v9:=zeroValue9
  t20:=underlying20
  a20:=isAgg20
  z20:=sizeOf20
  v20:=zeroValue20
  t21:=underlying21
  a21:=isAgg21
  z21:=sizeOf21
  v21:=zeroValue21
  t37:=underlying171
  a37:=isAgg171
  z37:=sizeOf171
  v37:=zeroValue171
  t46:=underlying228
  a46:=isAgg228
  z46:=sizeOf228
  v46:=zeroValue228
  t51:=underlying282
  a51:=isAgg282
  z51:=sizeOf282
  v51:=zeroValue282
  t53:=underlying285
  a53:=isAgg285
  z53:=sizeOf285
  v53:=zeroValue285
  t75:=underlying266
  a75:=isAgg266
  z75:=sizeOf266
  v75:=zeroValue266
  t76:=underlying267
  a76:=isAgg267
  z76:=sizeOf267
  v76:=zeroValue267
  t85:=underlying352
  a85:=isAgg352
  z85:=sizeOf352
  v85:=zeroValue352
  t127:=underlying380
  a127:=isAgg380
  z127:=sizeOf380
  v127:=zeroValue380
  t143:=underlying414
  a143:=isAgg414
  z143:=sizeOf414
  v143:=zeroValue414
  t145:=underlying416
  a145:=isAgg416
  z145:=sizeOf416
  v145:=zeroValue416
  t167:=underlying351
  a167:=isAgg351
  z167:=sizeOf351
  v167:=zeroValue351
  t168:=underlying354
  a168:=isAgg354
  z168:=sizeOf354
  v168:=zeroValue354
  t171:=underlying386
  a171:=isAgg386
  z171:=sizeOf386
  v171:=zeroValue386
  t173:=underlying388
  a173:=isAgg388
  z173:=sizeOf388
  v173:=zeroValue388
  t175:=underlying381
  a175:=isAgg381
  z175:=sizeOf381
  v175:=zeroValue381
  t210:=underlying384
  a210:=isAgg384
  z210:=sizeOf384
  v210:=zeroValue384
  t212:=underlying418
  a212:=isAgg418
  z212:=sizeOf418
  v212:=zeroValue418
  t213:=underlying419
  a213:=isAgg419
  z213:=sizeOf419
  t232:=underlying423
  a232:=isAgg423
  z232:=sizeOf423
  v232:=zeroValue423
  t233:=underlying424
  a233:=isAgg424
  z233:=sizeOf424
  v233:=zeroValue424
  g15:=by kernel_rfl
  g16:=by kernel_rfl
  g17:=by kernel_rfl
  g18:=by kernel_rfl
  g19:=by kernel_rfl
  t80:=underlying347
  a80:=isAgg347
  z80:=sizeOf347
  v80:=zeroValue347
  i0:=by kernel_rfl
  i2:=by kernel_rfl
  i3:=by kernel_rfl
  i4:=by kernel_rfl
  i5:=by kernel_rfl
  i9:=by kernel_rfl
  i20:=by kernel_rfl
  i21:=by kernel_rfl
  i37:=by kernel_rfl
  i46:=by kernel_rfl
  i51:=by kernel_rfl
  i53:=by kernel_rfl
  i75:=by kernel_rfl
  i76:=by kernel_rfl
  i80:=by kernel_rfl
  i85:=by kernel_rfl
  i127:=by kernel_rfl
  i143:=by kernel_rfl
  i145:=by kernel_rfl
  i167:=by kernel_rfl
  i168:=by kernel_rfl
  i171:=by kernel_rfl
  i173:=by kernel_rfl
  i175:=by kernel_rfl
  i210:=by kernel_rfl
  i212:=by kernel_rfl
  i232:=by kernel_rfl
  i233:=by kernel_rfl
  m15:=by kernel_rfl
  m16:=by kernel_rfl
  m17:=by kernel_rfl
  m18:=by kernel_rfl
  m19:=by kernel_rfl
  c0:=by kernel_rfl
  c2:=by kernel_rfl
  c3:=by kernel_rfl
  c4:=by kernel_rfl
  c5:=by kernel_rfl
  c9:=by kernel_rfl
  c20:=by kernel_rfl
  c21:=by kernel_rfl
  c37:=by kernel_rfl
  c46:=by kernel_rfl
  c51:=by kernel_rfl
  c53:=by kernel_rfl
  c75:=by kernel_rfl
  c76:=by kernel_rfl
  c80:=by kernel_rfl
  c85:=by kernel_rfl
  c127:=by kernel_rfl
  c143:=by kernel_rfl
  c145:=by kernel_rfl
  c167:=by kernel_rfl
  c168:=by kernel_rfl
  c171:=by kernel_rfl
  c173:=by kernel_rfl
  c175:=by kernel_rfl
  c210:=by kernel_rfl
  c212:=by kernel_rfl
  c213:=by kernel_rfl
  c232:=by kernel_rfl
  c233:=by kernel_rfl }
open Go.RowKit in
theorem Tryz.strconv_Atoi_ok(s:ByteArray)(zm:s.size<=9223372036854775806)(v:Int)(h:Lib.atoiAll s.data.toList=.ok v)(w:World) :
  Calls Tryz.prog 203 #[.string s] w λe w'=>e=.returned (.tuple #[.int .i64 v,.nilIface])/\(w'=w\/∃ t,w'=Lib.bytesWorld w 5 t):=Any.strconv_Atoi_ok Tryz.Qv s zm v h w
open Go.RowKit in
theorem Tryz.strconv_Atoi_syntax(s:ByteArray)(r':s.size<=281474976710656)(h:Lib.atoiAll s.data.toList=Lib.atoiAll [])(ie:Value)(w:World)(af:w.cell? ⟨1,0,none⟩=some ie)(pG:ie=.nilIface\/∃ lE l',ie=.iface lE l') :
  Calls Tryz.prog 203 #[.string s] w λe w'=>∃ N,e=.returned (.tuple #[.int .i64 (0),.iface 354 (.pointer (some ⟨N,0,none⟩))])/\w.heap.size<=N/\w'.heap[N]?=some (.cells #[.string ⟨#[65,116,111,105]⟩,.string s,ie] 384 (0,0))/\Below w.heap.size w w':=Any.strconv_Atoi_syntax Tryz.Qv s r' h ie w af pG
open Go.RowKit in
theorem Tryz.strconv_Atoi_range(s:ByteArray)(r':s.size<=281474976710656)(h:Lib.atoiAll s.data.toList=.range)(ie:Value)(w:World)(af:w.cell? ⟨2,0,none⟩=some ie)(pG:ie=.nilIface\/∃ lE l',ie=.iface lE l') :
  Calls Tryz.prog 203 #[.string s] w λe w'=>∃ N,e=.returned (.tuple #[.int .i64 (Lib.atoiSat s.data.toList),.iface 354 (.pointer (some ⟨N,0,none⟩))])/\w.heap.size<=N/\w'.heap[N]?=some (.cells #[.string ⟨#[65,116,111,105]⟩,.string s,ie] 384 (0,0))/\Below w.heap.size w w':=Any.strconv_Atoi_range Tryz.Qv s r' h ie w af pG
def Tryz.asc:Go.Shelf.Ren:=⟨fun | 146=>139 | 221=>202 | 268=>259 | 138=>260 | 143=>261 | 195=>321 | 197=>322 | 218=>323 | 219=>324 | 260=>360 | 217=>361 | 225=>362 | 224=>363 | 267=>364 | 266=>388 | 314=>389 | n=>n,fun | 9=>9 | 31=>48 | 3=>3 | 4=>4 | 0=>0 | 105=>348 | 21=>21 | 5=>5 | 46=>228 | 119=>408 | 139=>411 | 138=>410 | 146=>283 | 51=>282 | n=>n,fun | 1=>0 | 3=>3 | 4=>4 | n=>n⟩
theorem Tryz.asd : Go.Proofs.Lays.n146 Tryz.prog Tryz.asc := {
  mixed:=by kernel_rfl
  f138:=cI func260
  f143:=cI func261
  f146:=cI func139
  f195:=cI func321
  f197:=cI func322
  f217:=cI func361
  f218:=cI func323
  f219:=cI func324
  f221:=cI func202
  f224:=cI func363
  f225:=cI func362
  f260:=cI func360
  f266:=cI func388
  f267:=cI func364
  f268:=cI func259
  f314:=cI func389
  t0:=underlying0
  a0:=isAgg0
  z0:=sizeOf0
  v0:=zeroValue0
  t3:=underlying3
  a3:=isAgg3
  z3:=sizeOf3
  v3:=zeroValue3
  t4:=underlying4
  a4:=isAgg4
  z4:=sizeOf4
  v4:=zeroValue4
  t5:=underlying5
  a5:=isAgg5
  z5:=sizeOf5
  v5:=zeroValue5
  t9:=underlying9
  a9:=isAgg9
  z9:=sizeOf9
  v9:=zeroValue9
  t21:=underlying21
  a21:=isAgg21
  z21:=sizeOf21
  v21:=zeroValue21
  t31:=underlying48
  a31:=isAgg48
  z31:=sizeOf48
  v31:=zeroValue48
  t46:=underlying228
  a46:=isAgg228
  z46:=sizeOf228
  v46:=zeroValue228
  t51:=underlying282
  a51:=isAgg282
  z51:=sizeOf282
  v51:=zeroValue282
  t105:=underlying348
  a105:=isAgg348
  z105:=sizeOf348
  v105:=zeroValue348
  t119:=underlying408
  a119:=isAgg408
  z119:=sizeOf408
  t138:=underlying410
  a138:=isAgg410
  z138:=sizeOf410
  v138:=zeroValue410
  t139:=underlying411
  a139:=isAgg411
  z139:=sizeOf411
  v139:=zeroValue411
  t146:=underlying283
  a146:=isAgg283
  z146:=sizeOf283
  v146:=zeroValue283
  g1:=by kernel_rfl
  g3:=by kernel_rfl
  g4:=by kernel_rfl }
def Tryz.ase:Go.Shelf.Ren:=⟨fun | 189=>161 | 125=>215 | 257=>214 | 128=>290 | 129=>291 | 294=>281 | 295=>282 | 296=>283 | 297=>284 | 298=>285 | 299=>286 | 216=>287 | 300=>288 | 301=>289 | 328=>340 | 329=>341 | 330=>342 | 331=>343 | 332=>344 | 215=>339 | 343=>383 | n=>n,fun | 28=>27 | 3=>3 | 46=>228 | 0=>0 | 51=>282 | 53=>285 | 4=>4 | 183=>314 | 182=>313 | 131=>193 | 5=>5 | 9=>9 | 218=>359 | 222=>363 | 228=>398 | 229=>331 | n=>n,fun | n=>n⟩
theorem Tryz.aax : Go.Proofs.Lays.n189 Tryz.prog Tryz.ase := {
  mixed:=by kernel_rfl
  f125:=cI func215
  f128:=cI func290
  f129:=cI func291
  f189:=cI func161
  f215:=cI func339
  f216:=cI func287
  f257:=cI func214
  f294:=cI func281
  f295:=cI func282
  f296:=cI func283
  f297:=cI func284
  f298:=cI func285
  f299:=cI func286
  f300:=cI func288
  f301:=cI func289
  f328:=cI func340
  f329:=cI func341
  f330:=cI func342
  f331:=cI func343
  f332:=cI func344
  f343:=cI func383
  t0:=underlying0
  a0:=isAgg0
  z0:=sizeOf0
  v0:=zeroValue0
  t3:=underlying3
  a3:=isAgg3
  z3:=sizeOf3
  v3:=zeroValue3
  t4:=underlying4
  a4:=isAgg4
  z4:=sizeOf4
  v4:=zeroValue4
  t5:=underlying5
  a5:=isAgg5
  z5:=sizeOf5
  v5:=zeroValue5
  t9:=underlying9
  a9:=isAgg9
  z9:=sizeOf9
  v9:=zeroValue9
  t28:=underlying27
  a28:=isAgg27
  z28:=sizeOf27
  v28:=zeroValue27
  t46:=underlying228
  a46:=isAgg228
  z46:=sizeOf228
  v46:=zeroValue228
  t51:=underlying282
  a51:=isAgg282
  z51:=sizeOf282
  v51:=zeroValue282
  t53:=underlying285
  a53:=isAgg285
  z53:=sizeOf285
  v53:=zeroValue285
  t131:=underlying193
  a131:=isAgg193
  z131:=sizeOf193
  v131:=zeroValue193
  t182:=underlying313
  a182:=isAgg313
  z182:=sizeOf313
  v182:=zeroValue313
  t183:=underlying314
  a183:=isAgg314
  z183:=sizeOf314
  v183:=zeroValue314
  t218:=underlying359
  a218:=isAgg359
  z218:=sizeOf359
  v218:=zeroValue359
  t222:=underlying363
  a222:=isAgg363
  z222:=sizeOf363
  v222:=zeroValue363
  t228:=underlying398
  a228:=isAgg398
  z228:=sizeOf398
  v228:=zeroValue398
  t229:=underlying331
  a229:=isAgg331
  z229:=sizeOf331
  v229:=zeroValue331 }
def Tryz.asf:Go.Shelf.Ren:=⟨fun | 4=>257 | n=>n,fun | 22=>27 | 25=>3 | 3=>3 | 4=>4 | 9=>9 | 20=>20 | 0=>0 | n=>n,fun | n=>n⟩
theorem Tryz.aay : Go.Proofs.Lays8.n4 Tryz.prog Tryz.asf := {
  mixed:=by kernel_rfl
  f4:=⟨Tryz.f257.name,by decide,cI func257⟩
  t0:=underlying0
  a0:=isAgg0
  z0:=sizeOf0
  v0:=zeroValue0
  t3:=underlying3
  a3:=isAgg3
  z3:=sizeOf3
  v3:=zeroValue3
  t4:=underlying4
  a4:=isAgg4
  z4:=sizeOf4
  v4:=zeroValue4
  t9:=underlying9
  a9:=isAgg9
  z9:=sizeOf9
  v9:=zeroValue9
  t20:=underlying20
  a20:=isAgg20
  z20:=sizeOf20
  v20:=zeroValue20
  t22:=underlying27
  a22:=isAgg27
  z22:=sizeOf27
  v22:=zeroValue27 }
def Tryz.asg:Go.Shelf.Ren:=⟨fun | 4=>256 | n=>n,fun | 22=>34 | 25=>125 | 3=>3 | 4=>4 | 9=>9 | 20=>20 | 0=>0 | n=>n,fun | n=>n⟩
theorem Tryz.aaz : Go.Proofs.Lays8.n4 Tryz.prog Tryz.asg := {
  mixed:=by kernel_rfl
  f4:=⟨Tryz.f256.name,by decide,cI func256⟩
  t0:=underlying0
  a0:=isAgg0
  z0:=sizeOf0
  v0:=zeroValue0
  t3:=underlying3
  a3:=isAgg3
  z3:=sizeOf3
  v3:=zeroValue3
  t4:=underlying4
  a4:=isAgg4
  z4:=sizeOf4
  v4:=zeroValue4
  t9:=underlying9
  a9:=isAgg9
  z9:=sizeOf9
  v9:=zeroValue9
  t20:=underlying20
  a20:=isAgg20
  z20:=sizeOf20
  v20:=zeroValue20
  t22:=underlying34
  a22:=isAgg34
  z22:=sizeOf34
  v22:=zeroValue34 }
end Go.Proofs
namespace Go.Fer.au
theorem aaA:∀ s:aM,(Go.Lib.index s [32]=-1/\cH s=[s])\/∃ t r,s=t++32::r/\Go.Lib.index s [32]=(t.length:Int)/\cH s=t::cH r
 | []=>.inl ⟨rfl,rfl⟩
 | b::l=>by
  unfold Go.Lib.index;by_cases aa:b=32
  ·subst aa;exact .inr ⟨[],l,rfl,by rfl,by rfl⟩
  ·have ao:List.isPrefixOf [32] (b::l)=false:=by
    grind
   rw[ao];have aD:=uR l;rcases aaA l with⟨E,U⟩ | ⟨t,r,E,U,ah⟩
   ·rw[E];refine .inl ⟨rfl,?_⟩;unfold cH;grind
   ·rw[U];refine .inr ⟨b::t,r,by grind,?_,?_⟩
    ·rfl
    ·conv=>lhs;unfold cH
     grind
theorem ash:∀ (n:Nat) (s:aM),s.length<=n->Go.Lib.splitK [32] 0 (Go.Lib.count s [32]) s=cH s:=by
 intro n;induction n with
 | zero=>
  intro s h;have:s=[]:=List.eq_nil_of_length_eq_zero (by omega);subst this;rfl
 | succ n aJ=>
  intro s h;rcases aaA s with⟨E,U⟩ | ⟨t,r,E,U,ah⟩
  ·rw[Go.Lib.count_miss E,U];rfl
  ·rw[Go.Lib.count_hit (by simp) U,ah,Nat.add_comm,Go.Lib.splitK,U];have:((t.length:Int) == -1)=false:=by rfl
   rw[this];have e:((t.length:Int)).toNat=t.length:=rfl;have D_:s.drop (t.length+1)=r:=by simp_all
   grind
end Go.Fer.au
namespace Go.Fer.og
open Go Go.Proofs Go.RowKit
section
variable {P:Program} {F:Nat->Prop} {w:World}
theorem Qw(x:List UInt8):(ByteArray.mk x.toArray).data.toList=x:=by simp
theorem JC(x:List UInt8):(ByteArray.mk x.toArray).size=x.length:=by rfl
theorem Qx{args:List Value}{x:List UInt8}(h:fm P .str F w args x):args=[.string ⟨x.toArray⟩]/\x.length<2 ^ 63:=by
 obtain⟨v,rfl,af⟩:=(rY rfl).1 h;obtain⟨rfl,ak⟩:=ma.1 af;grind
theorem asi{args:List Value}{x y:List UInt8}(h:fm P (.az .str .str) F w args (x,y)):args=[.string ⟨x.toArray⟩,.string ⟨y.toArray⟩]/\x.length<2 ^ 63/\y.length<2 ^ 63:=by
 obtain⟨v,us,rfl,af,hu⟩:=Fg h;obtain⟨rfl,ak⟩:=ma.1 af;obtain⟨rfl,gn⟩:=Qx hu;grind
theorem asj(w:World)(k:Nat)(os:Array Obj):Below w.heap.size w (Go.Sort.grow (w.drewN k) os):=by
 refine⟨rfl,rfl,rfl,?_,λj aG=>?_⟩
 ·simp
 ·show (w.heap++os)[j]?=_;grind
theorem JD(h:nF Tryz.prog F w){b:Nat}(aa:b<6):F b/\Ri b λi=>w.cell? ⟨b,i,none⟩:=h b (Nat.lt_of_lt_of_le aa (of_decide_eq_true (by rfl)))
end
theorem aaB(sep:ByteArray):∀ (k:Nat) (s:ByteArray),∀ x∈Lib.splitB sep 0 k s,x.size<=s.size
 | 0,s,x,ai=>by
  unfold Lib.splitB at ai;grind
 | k+1,s,x,ai=>by
  unfold Lib.splitB at ai;split at ai
  ·grind
  ·simp only[List.mem_cons]at ai;rcases ai with rfl | ai
   ·rw[ByteArray.size_extract];omega
   ·have:=aaB sep k _ x ai;rw[ByteArray.size_extract]at this;omega
def qd(s sep:List UInt8):List (List UInt8):=(Lib.splitB ⟨sep.toArray⟩ 0 (Lib.countB ⟨s.toArray⟩ ⟨sep.toArray⟩) ⟨s.toArray⟩).map (·.data.toList)
theorem asl(s:List UInt8):qd s [32]=au.cH s:=by
 unfold qd;rw[Lib.splitB_data];exact au.ash s.length s (Nat.le_refl _)
abbrev asm:Code:=Tryz.f139.body.getD .skip
theorem asn:gU Tryz.prog 139 (.az .str .str) (.slice .str) au.Jm.sh where
 enter:=uj Tryz.func139 (show Tryz.f139.body=some asm by rfl) (by rfl)
 iw:=λF w args x bn gl bb aD=>by
  obtain⟨s,sep⟩:=x;obtain⟨aD,E⟩:s.length<=10000/\sep=[32]:=aD;subst E;obtain⟨rfl,ak,gn⟩:=asi bb;obtain⟨_,m,hm⟩:=JD gl (b:=0) (by decide);have cd:1<=(ByteArray.mk [32].toArray).size:=by decide
  refine (Any.strings_Split Tryz.asd (by kernel_rfl) ⟨s.toArray⟩ ⟨[32].toArray⟩ m w (by rw[JC];omega) hm cd).mono ?_;rintro e w' ⟨rfl,rfl⟩;have hlen:=Lib.splitB_all ⟨[32].toArray⟩ cd 0 _ ⟨s.toArray⟩ rfl;have rp:=Lib.countB_le ⟨[32].toArray⟩ cd _ ⟨s.toArray⟩ (Nat.le_refl _);rw[JC]at rp;have kc:=aaB ⟨[32].toArray⟩ (Lib.countB ⟨s.toArray⟩ ⟨[32].toArray⟩) ⟨s.toArray⟩;rw[JC]at kc;have w7:(qd s [32]).length=Lib.countB ⟨s.toArray⟩ ⟨[32].toArray⟩+1:=by unfold qd;grind
  refine⟨_,qd s [32],rfl,asl s,⟨[_],rfl,(rY rfl).2 ⟨_,rfl,(dT rfl).2 ⟨rfl,some ⟨w.heap.size,0,none⟩,Lib.countB ⟨s.toArray⟩ ⟨[32].toArray⟩+1,by rw[w7],by omega,by omega,nofun,λp ao hc=>?_⟩⟩⟩,?_⟩
  ·cases ao;refine⟨.inr ⟨Nat.le_refl _,by simp⟩,rfl,λi G=>?_⟩;have dA:i<(Lib.splitB ⟨[32].toArray⟩ 0 (Lib.countB ⟨s.toArray⟩ ⟨[32].toArray⟩) ⟨s.toArray⟩).length:=by omega
   generalize aU:Lib.splitB ⟨[32].toArray⟩ 0 (Lib.countB ⟨s.toArray⟩ ⟨[32].toArray⟩) ⟨s.toArray⟩=B at dA kc hlen;have iM:(qd s [32])[i]=B[i].data.toList:=by
    have U:qd s [32]=B.map (·.data.toList):=by unfold qd;rw[aU]
    grind
   have bG:Value.string B[i]=.string ⟨(B[i].data.toList).toArray⟩:=by simp
   refine⟨[.string B[i]],⟨.inr ⟨Nat.le_refl _,by simp⟩,rfl,λj aG=>?_⟩,?_,?_⟩
   ·have aG:j=0:=by grind
    subst aG;rw[u_ (p2 w _)];have ay:0+i*ad.size .str+0=i:=by show 0+i*1+0=i;omega
    grind
   ·simp_all
   ·have:=kc _ (List.getElem_mem dA);have e:(B[i]).data.toList.length=(B[i]).size:=Array.length_toList;grind
  ·exact (Below.refl _ _).alloc (Nat.le_refl _) _
theorem aaC{F : Nat -> Prop}{w : World}(h : nF Tryz.prog F w) : Lib.TabIs Tryz.prog w "internal/strconv.uint64pow10" .u64 Lib.pow10Tab := by
 have bM:∀ i,w.cell? ⟨5,i,none⟩=if i<20 then some (.int .u64 (10 ^ i)) else none:=(JD h (b:=5) (by decide)).2
 unfold Lib.TabIs World.var?;rw[show Tryz.prog.globalNamed "internal/strconv.uint64pow10" = some 5 by rfl];show (match w.heap[5]? with | some (.cells cs _ _)=>some cs | _=>none)=_;have aX:=bM 0;cases ag:w.heap[5]? with
 | none=>simp[World.cell?,ag]at aX
 | some o=>
  cases o with
  | cells cs T sQ=>
   simp only[Option.some.injEq];apply Array.ext_getElem?;intro i;have G:=bM i;simp only[World.cell?,ag,Option.isSome_none,Bool.false_eq_true,if_false]at G;rw[G];split
   ·rename_i Bw;simp only[List.getElem?_toArray,List.getElem?_map,Lib.pow10Tab];grind
   ·rename_i Bw;rw[Array.getElem?_eq_none];simp[Lib.pow10Tab];omega
  | _=>simp[World.cell?,ag]at aX
abbrev aso:Code:=Tryz.f204.body.getD .skip
theorem asp{P:Program}{F:Nat->Prop}{w:World}{args:List Value}{x:Int}(h:fm P (.int .i64) F w args x):args=[.int .i64 x]/\fR .i64 x:=by
 obtain⟨v,rfl,af⟩:=(rY rfl).1 h;obtain⟨rfl,ak⟩:=gT.1 af;grind
theorem asq{n:Int}(h:fR .i64 n):-9223372036854775808<=n/\n<=9223372036854775807:=h
theorem asr:gU Tryz.prog 204 (.int .i64) .str au.Jd.sh where
 enter:=uj Tryz.func204 (show Tryz.f204.body=some aso by rfl) (by rfl)
 iw:=λF w args x bn gl bb aD=>by
  change Int at x;obtain⟨rfl,M⟩:=asp bb;obtain⟨aX,E⟩:=asq M;refine (Any.strconv_Itoa Tryz.aaw x aX E w (aaC gl)).mono ?_;rintro e w' ⟨rfl,k,os,rfl⟩;have ai:au.rP x=Lib.itoa x:=by unfold au.rP;rw[bC aX (by omega)]
  refine⟨_,au.rP x,rfl,rfl,⟨[_],rfl,(rY rfl).2 ⟨_,rfl,ma.2 ⟨by rw[ai],Nat.lt_of_le_of_lt (au.PX x) (by decide)⟩⟩⟩,asj w k os⟩
abbrev ass:Code:=Tryz.f258.body.getD .skip
theorem ast:gU Tryz.prog 258 (.az (.slice .str) .str) .str au.ES.sh where
 enter:=uj Tryz.func258 (show Tryz.f258.body=some ass by rfl) (by rfl)
 iw:=λF w args x bn gl bb aD=>by
  obtain⟨l,sep⟩:=x;obtain⟨aA,hw,E⟩:l.length<=60000/\(∀ w∈l,w.length<=21)/\sep.length=1:=aD;have z6:=au.aaa l sep 21 hw;have E:sep.length=1:=E;have aA:l.length<=60000:=aA;rw[E]at z6;have aG:(Lib.join l sep).length<2 ^ 63:=by omega
  obtain⟨v,us,rfl,af,hu⟩:=Fg bb;obtain⟨rfl,_⟩:=Qx hu;obtain⟨_,p,cap,ij,c2,c3,c4,c5⟩:=(dT rfl).1 af;obtain rfl:v=.slice p l.length cap:=by grind
  change l.length<=cap at c2;have fin:∀ w',Below w.heap.size w w'->∃ v y,Ending.returned (.string ⟨(Lib.join l sep).toArray⟩)=.returned v/\(au.ES.sh (l,sep)).bQ y/\tr Tryz.prog .str (u0 F w w') w' v y/\Below w.heap.size w w':=λw' aa=>
   ⟨_,Lib.join l sep,rfl,rfl,⟨[_],rfl,(rY rfl).2 ⟨_,rfl,ma.2 ⟨rfl,aG⟩⟩⟩,aa⟩
  by_cases ak:l=[]
  ·subst ak;refine (Any.strings_Join_none Tryz.aau Tryz.aav p cap ⟨sep.toArray⟩ w).mono ?_;rintro e w' ⟨rfl,rfl⟩;exact fin _ (Below.refl _ _)
  ·have la:0<l.length:=List.length_pos_iff.2 ak;obtain⟨q,rfl⟩:∃ q,p=some q:=by
    cases p with
    | none=>grind
    | some q=>simp
   obtain⟨d1,d2,d3⟩:=c5 q rfl (by omega);obtain⟨asu,o,sp⟩:=q;obtain rfl:sp=none:=d2;have hlen:(l.map λx:List UInt8=>ByteArray.mk x.toArray).length=l.length:=List.length_map ..;have Km:(l.map λx:List UInt8=>ByteArray.mk x.toArray).map (·.data.toList)=l:=by rw[List.map_map];exact (List.map_congr_left λx _=>Qw x).trans (List.map_id _)
   have:=Any.strings_Join Tryz.aau Tryz.aav asu o cap (l.map λx:List UInt8=>ByteArray.mk x.toArray) ⟨sep.toArray⟩ w (λj x ai=>by
    rw[List.getElem?_map]at ai;obtain⟨y,aS,rfl⟩:=Option.map_eq_some_iff.1 ai;obtain⟨z6,rfl⟩:=List.getElem?_eq_some_iff.1 aS;obtain⟨bj,⟨_,_,cA⟩,ea⟩:=d3 j z6;obtain⟨rfl,_⟩:=ea;have:=cA 0 (by simp);simpa [ad.size]using this) (bn _ d1) (by omega) (by omega) (by grind)
   rw[hlen,Km,Qw]at this;refine this.mono ?_;simp_all
end Go.Fer.og
namespace Go.Proofs
open Go.RowKit
theorem Tryz.asv{P:Program}{w w':World}{n:String}{k:IntKind}{zs:z1'}(h:Lib.TabIs P w n k zs)(aa:Below w.heap.size w w'):Lib.TabIs P w' n k zs:=by
 unfold Lib.TabIs World.var? at *
 cases aC:P.globalNamed n with
 | none=>rw[aC]at h;cases h
 | some g=>
  rw[aC]at h;simp only[Option.bind_some]at h ⊢;by_cases cc:g<w.heap.size
  ·rw[aa.block g cc];exact h
  ·rw[Array.getElem?_eq_none (by omega)]at h;cases h
set_option maxHeartbeats 4000000 in
set_option maxRecDepth 1000000 in
theorem Tryz.asw(s:ByteArray)(w:World)(v:Int)(zm:s.size<=9223372036854775806)(h:Lib.atoiAll s.data.toList=.ok v)(aX:-9223372036854775808<=v)(E:v<=9223372036854775807)
  (asx : Lib.TabIs Tryz.prog w "internal/strconv.uint64pow10" .u64 Lib.pow10Tab) :
  Calls Tryz.prog 140 #[.string s] w λe w'=>e=.returned (.tuple #[.int .i64 v,.bool (decide (s.size<=6)&&decide (0<=v)&&decide (Lib.itoa v=s.data.toList))])/\Below w.heap.size w w':=by
 go_enter Tryz.func140,Tryz.ntmps140;go_wp2_with fail;refine (Tryz.strconv_Atoi_ok s zm v h w).mono ?_;rintro e cn ⟨rfl,lR⟩;have mo:Below w.heap.size w cn:=by
  rcases lR with rfl | ⟨t,rfl⟩
  ·exact Below.refl _ _
  ·exact Lib.bytesWorld_below w 5 t
 have asy:=Tryz.asv asx mo;clear lR;by_cases aW:(s.size:Int)<=6
 ·by_cases aY:v>=0
  ·go_wp2_with fail;refine (Any.strconv_Itoa Tryz.aaw v aX E cn asy).mono ?_;rintro e da ⟨rfl,k,os,rfl⟩;have q1:Below w.heap.size w (Go.Sort.grow (cn.drewN k) os):=mo.trans ⟨rfl,rfl,rfl,by show _<=(cn.heap++os).size;simp,λj aG=>by
    have:=mo.size;show (cn.heap++os)[j]?=_;rw[Array.getElem?_append_left (by omega)]⟩
   generalize Go.Sort.grow (cn.drewN k) os=da at q1;go_wp2;go_returns;refine⟨congrArg Ending.returned (congrArg Value.tuple ?_),q1⟩;show #[Value.int IntKind.i64 v,Value.bool (Lib.itoa v == s.toList)]=_;rw[Go.ByteArray.toList_eq,show decide (s.size<=6)=true from decide_eq_true (by omega),show decide (0<=v)=true from decide_eq_true aY,Bool.true_and,Bool.true_and,show (Lib.itoa v == s.data.toList)=decide (Lib.itoa v=s.data.toList) by rw[Bool.eq_iff_iff];simp]
  ·go_wp2;go_returns;refine⟨congrArg Ending.returned (congrArg Value.tuple ?_),mo⟩;show #[Value.int IntKind.i64 v,Value.bool false]=_;rw[show decide (0<=v)=false from decide_eq_false (by omega),Bool.and_false,Bool.false_and]
 ·go_wp2;go_returns;refine⟨congrArg Ending.returned (congrArg Value.tuple ?_),mo⟩;show #[Value.int IntKind.i64 v,Value.bool false]=_;rw[show decide (s.size<=6)=false from decide_eq_false (by omega),Bool.false_and,Bool.false_and]
set_option maxHeartbeats 4000000 in
set_option maxRecDepth 1000000 in
theorem Tryz.asz(s:ByteArray)(w:World)(r':s.size<=281474976710656)(h:Lib.atoiAll s.data.toList=Lib.atoiAll [])(ie:Value)(af:w.cell? ⟨1,0,none⟩=some ie)(pG:ie=.nilIface\/∃ lE l',ie=.iface lE l') :
  Calls Tryz.prog 140 #[.string s] w λe w'=>e=.returned (.tuple #[.int .i64 0,.bool false])/\Below w.heap.size w w':=by
 go_enter Tryz.func140,Tryz.ntmps140;go_wp2_with fail;refine (Tryz.strconv_Atoi_syntax s r' h ie w af pG).mono ?_;rintro e cn ⟨N,rfl,_,_,mo⟩;go_wp2;go_returns;exact⟨rfl,mo⟩
set_option maxHeartbeats 4000000 in
set_option maxRecDepth 1000000 in
theorem Tryz.asA(s:ByteArray)(w:World)(r':s.size<=281474976710656)(h:Lib.atoiAll s.data.toList=.range)(ie:Value)(af:w.cell? ⟨2,0,none⟩=some ie)(pG:ie=.nilIface\/∃ lE l',ie=.iface lE l') :
  Calls Tryz.prog 140 #[.string s] w λe w'=>e=.returned (.tuple #[.int .i64 (Lib.atoiSat s.data.toList),.bool false])/\Below w.heap.size w w':=by
 go_enter Tryz.func140,Tryz.ntmps140;go_wp2_with fail;refine (Tryz.strconv_Atoi_range s r' h ie w af pG).mono ?_;rintro e cn ⟨N,rfl,_,_,mo⟩;go_wp2;go_returns;exact⟨rfl,mo⟩
end Go.Proofs
namespace Go.Fer.au
open A (W)
theorem aaD:∀ (s:aM) (n:Int),0<=n->ga s n≠-1->n<=ga s n
 | [],n,_,_=>Int.le_refl _
 | c::s,n,h,E=>by
  unfold ga at E ⊢;split at E
  ·omega
  ·rename_i hc;rw[if_neg hc];simp only[Bool.or_eq_true,decide_eq_true_eq,not_or]at hc;have:=aaD s _ (by omega) E;omega
theorem Qy(d:UInt8):∀ (s:aM) (n:Int),0<=n->ga (s++[d]) n=if ga s n=-1 then -1 else if (decide ((d.toNat:Int)<48)||decide ((d.toNat:Int) > 57))=true then -1 else 10*ga s n+((d.toNat:Int) - 48)
 | [],n,h=>by
  show ga [d] n=if n=-1 then _ else _
  rw[if_neg (by omega)];rfl
 | c::s,n,h=>by
  rw[List.cons_append];conv=>lhs;unfold ga
  by_cases hc:(decide ((c.toNat:Int)<48)||decide ((c.toNat:Int) > 57))=true
  ·rw[if_pos hc,show ga (c::s) n=-1 by unfold ga;grind,if_pos rfl]
  ·rw[if_neg hc,show ga (c::s) n=ga s (10*n+((c.toNat:Int) - 48)) from (if_neg hc:(if (decide ((c.toNat:Int)<48)||decide ((c.toNat:Int) > 57))=true then (-1:Int) else _)=_)];simp only[Bool.or_eq_true,decide_eq_true_eq,not_or]at hc;exact Qy d s _ (by omega)
theorem JE(k:Nat)(h:k<10):((UInt8.ofNat (48+k)).toNat:Int)=48+k:=by
 have:(UInt8.ofNat (48+k)).toNat=(48+k) % 256:=UInt8.toNat_ofNat';omega
theorem aaE(u:Nat):ga (Go.Lib.decDigits u) 0=u:=by
 induction u using Nat.strongRecOn with
 | _ u aJ=>
  unfold Go.Lib.decDigits;split
  ·rename_i h;have:=JE u h;unfold ga;rw[if_neg (by grind),this];show (10*0+(48+(u:Int) - 48))=u;omega
  ·rename_i h;have aw:=JE (u % 10) (by omega);rw[Qy _ _ _ (Int.le_refl _),aJ (u / 10) (by omega),if_neg (by omega),if_neg (by grind),aw];omega
theorem aaF(u:Nat):Go.Lib.decDigits u≠[]/\(1<(Go.Lib.decDigits u).length->((Go.Lib.decDigits u).getD 0 0).toNat≠48):=by
 induction u using Nat.strongRecOn with
 | _ u aJ=>
  by_cases h:u<10
  ·rw[Go.Lib.decDigits_one h];simp
  ·obtain⟨E,U⟩:=aJ (u / 10) (by omega);have e:Go.Lib.decDigits u=Go.Lib.decDigits (u / 10)++[UInt8.ofNat (48+u % 10)]:=by
    conv=>lhs;unfold Go.Lib.decDigits
    grind
   rw[e];refine⟨by simp,λ_=>?_⟩;have ak:0<(Go.Lib.decDigits (u / 10)).length:=List.length_pos_iff.2 E;rw[show (Go.Lib.decDigits (u / 10)++[UInt8.ofNat (48+u % 10)]).getD 0 0=(Go.Lib.decDigits (u / 10)).getD 0 0 by
    grind]
   by_cases ah:1<(Go.Lib.decDigits (u / 10)).length
   ·omega
   ·have pW:u / 10<10:=by
     refine Classical.byContradiction λaA=>ah ?_;have aN:Go.Lib.decDigits (u / 10)=Go.Lib.decDigits (u / 10 / 10)++[UInt8.ofNat (48+u / 10 % 10)]:=by
      conv=>lhs;unfold Go.Lib.decDigits
      grind
     grind
    rw[Go.Lib.decDigits_one pW];have:=JE (u / 10) pW;grind
theorem asB:∀ (n:Nat) (s:aM),s.length=n->s≠[]->(1<s.length->(s.getD 0 0).toNat≠48)->ga s 0≠-1->Go.Lib.decDigits (ga s 0).toNat=s:=by
 intro n;induction n with
 | zero=>simp
 | succ n aJ=>
  intro s E U ah aZ;obtain⟨a,d,rfl⟩:∃ a d,s=a++[d]:=⟨s.dropLast,s.getLast U,(List.dropLast_concat_getLast U).symm⟩
  rw[Qy _ _ _ (Int.le_refl _)]at aZ ⊢;split at aZ
  ·omega
  ·rename_i bb;split at aZ
   ·omega
   ·rename_i aw;rw[if_neg bb,if_neg aw];simp only[Bool.or_eq_true,decide_eq_true_eq,not_or]at aw;have Mi:UInt8.ofNat (48+(d.toNat - 48))=d:=by
     apply UInt8.toNat_inj.1;rw[UInt8.toNat_ofNat'];omega
    by_cases aA:a=[]
    ·subst aA;have e:(10*ga [] 0+((d.toNat:Int) - 48)).toNat=d.toNat - 48:=by show (10*0+((d.toNat:Int) - 48)).toNat=_;omega
     rw[e,Go.Lib.decDigits_one (by omega),Mi];rfl
    ·have ak:0<a.length:=List.length_pos_iff.2 aA;have c7:(a.getD 0 0).toNat≠48:=by
      grind
     have ao:1<=ga a 0:=by
      cases a with
      | nil=>grind
      | cons c r=>
       unfold ga at bb ⊢;split at bb
       ·omega
       ·rename_i hc;rw[if_neg hc];simp only[Bool.or_eq_true,decide_eq_true_eq,not_or]at hc;have ayo:c.toNat≠48:=c7;have:=aaD r _ (by omega) bb;omega
     have G:=aJ a (by grind) aA (λ_=>c7) bb;have ay:(10*ga a 0+((d.toNat:Int) - 48)).toNat / 10=(ga a 0).toNat:=by omega
     have aN:(10*ga a 0+((d.toNat:Int) - 48)).toNat % 10=d.toNat - 48:=by omega
     conv=>lhs;unfold Go.Lib.decDigits
     grind
theorem asC{s:aM}{v:Int}(h:Go.Lib.atoiAll s=.ok v):(decide (s.length<=6)&&decide (0<=v)&&decide (Go.Lib.itoa v=s))=decide (0<=e1 s):=by
 rw[Bool.eq_iff_iff];simp only[Bool.and_eq_true,decide_eq_true_eq];constructor
 ·rintro⟨⟨dt,af⟩,G⟩;obtain⟨u,rfl⟩:∃ u:Nat,v=u:=⟨v.toNat,by omega⟩
  have e:Go.Lib.itoa (u:Int)=Go.Lib.decDigits u:=by rfl
  rw[e]at G;obtain⟨aW,aY⟩:=aaF u;rw[G]at aW aY;unfold e1;rw[if_neg]
  ·have:=aaE u;grind
  grind
 ·intro aA;have e:=Qm aA;rw[h]at e;obtain rfl:v=e1 s:=by grind
  refine⟨⟨?_,aA⟩,?_⟩
  ·unfold e1 at aA;grind
  ·have e:Go.Lib.itoa (e1 s)=Go.Lib.decDigits (e1 s).toNat:=by unfold Go.Lib.itoa;grind
   rw[e];unfold e1 at aA ⊢;split at aA
   ·omega
   ·rename_i aa;rw[if_neg aa];simp only[Bool.or_eq_true,Bool.and_eq_true,decide_eq_true_eq,not_or,not_and]at aa;exact asB _ s rfl (λe=>aa.1.1 (by grind)) aa.2 (by omega)
theorem aaG{s:aM}(h:∀ v,Go.Lib.atoiAll s≠.ok v):decide (0<=e1 s)=false:=decide_eq_false λaA=>h _ (Qm aA)
end Go.Fer.au
namespace Go.Fer.og
open Go Go.Proofs Go.RowKit
abbrev asD:Code:=Tryz.f140.body.getD .skip
theorem asE:gU Tryz.prog 140 .str (.az (.int .i64) .bool) au.EU.sh where
 enter:=uj Tryz.func140 (show Tryz.f140.body=some asD by kernel_rfl) (by kernel_rfl)
 iw:=λF w args x bn gl bb aD=>by
  change List UInt8 at x;have aD:x.length<=10000:=aD;obtain⟨rfl,ak⟩:=Qx bb;have aa:=Qw x;have bk:=JC x;have fin:∀ (n:Int) (b:Bool) (w':World),fR .i64 n->au.rb x=(n,b)->Below w.heap.size w w'->∃ v y,Ending.returned (.tuple #[.int .i64 n,.bool b])=.returned v/\(au.EU.sh x).bQ y/\tr Tryz.prog (.az (.int .i64) .bool) (u0 F w w') w' v y/\Below w.heap.size w w':=λn b w' M he yI=>
   ⟨_,(n,b),rfl,he.symm,⟨[.int .i64 n,.bool b],rfl,BR.2 ⟨gT.2 ⟨rfl,M⟩,(rY rfl).2 ⟨_,rfl,ff.2 rfl⟩⟩⟩,yI⟩
  cases he:Lib.atoiAll x with
  | ok v=>
   have af:=Lib.atoiAll_bounds he;refine (Tryz.asw ⟨x.toArray⟩ w v (by rw[bk];omega) (by rw[aa];exact he) af.1 af.2 (aaC gl)).mono ?_;rintro e w' ⟨rfl,yI⟩;refine fin v _ w' af ?_ yI;rw[aa,bk,au.asC he];unfold au.rb au.tb;rw[he]
  | range=>
   obtain⟨_,ie,af,pG⟩:=JD gl (b:=2) (by decide);refine (Tryz.asA ⟨x.toArray⟩ w (by rw[bk];omega) (by rw[aa];exact he) ie af pG).mono ?_;rintro e w' ⟨rfl,yI⟩;rw[aa]at *
   refine fin _ _ w' (Lib.atoiSat_bounds x) ?_ yI;unfold au.rb au.tb;rw[he,au.aaG λv h=>by rw[he]at h;cases h]
  | _=>
   obtain⟨_,ie,af,pG⟩:=JD gl (b:=1) (by decide);refine (Tryz.asz ⟨x.toArray⟩ w (by rw[bk];omega) (by rw[aa];exact he) ie af pG).mono ?_;rintro e w' ⟨rfl,yI⟩;refine fin 0 _ w' (by decide) ?_ yI;unfold au.rb au.tb;rw[he,au.aaG λv h=>by rw[he]at h;cases h]
end Go.Fer.og
namespace Go.Fer
open Go.RowKit
abbrev mG:ad:=.int .i64
def Qz(x:z1'×Unit):A (z1'×Unit):=A.dI (x.1.length<4611686018427387904) (x.1.mergeSort (λa b=>decide (a<=b)),())
def pS:cG:=⟨⟨[(0,.own 200001)],[(200001,.bf mG)]⟩,⟨[],[(200001,.bf mG)]⟩,[],1,Qz⟩
section
variable {P:Program} {F:Nat->Prop} {w:World}
theorem aaH{cs:Array Value}{off:Nat}{xs:z1'}(h:lF P mG F w cs off xs){i:Nat}(G:i<xs.length):cs[off+i]?=some (.int .i64 xs[i])/\fR .i64 xs[i]:=by
 obtain⟨bj,E,U,ah⟩:=h i G;subst U;have:=E 0 (by simp);refine⟨?_,ah⟩;have e:off+i*ad.size mG+0=off+i:=by show off+i*1+0=off+i;omega
 rw[e]at this;exact this
theorem asF{cs:Array Value}{off:Nat}{xs:z1'}(h:∀ i (h:i<xs.length),cs[off+i]?=some (.int .i64 xs[i])/\fR .i64 xs[i]):lF P mG F w cs off xs:=λi G=>by
 obtain⟨E,U⟩:=h i G;refine⟨[.int .i64 xs[i]],λj aG=>?_,rfl,U⟩;have aG:j=0:=by simpa using aG
 subst aG;have e:off+i*ad.size mG+0=off+i:=by show off+i*1+0=off+i;omega
 rw[e];exact E
theorem asG{cs:Array Value}{T:TypeId}{b off:Nat}{xs:z1'}(aa:w.heap[b]?=some (.cells cs T (0,0)))(h:lF P mG F w cs off xs):Go.Sort.Holds (Value.int .i64) w b off xs.toArray:=λj aG=>by
 have fS:j<xs.length:=by simpa using aG
 obtain⟨E,_⟩:=aaH h fS;refine⟨?_,by simp[World.frozen?,aa]⟩;simp only[World.cell?,aa];simp only[Option.isSome_none,Bool.false_eq_true,if_false];rw[E];simp[fS]
theorem asH{cs:Array Value}{off:Nat}{xs ys:z1'}(ak:ys.length=xs.length)(jl:∀ y∈ys,fR .i64 y)(cd:off+xs.length<=cs.size):lF P mG F w (Go.Sort.putCells (Value.int .i64) off ys.toArray cs) off ys:=by
 refine asF λi G=>⟨?_,jl _ (List.getElem_mem G)⟩
 have E:off+i<cs.size:=by omega
 simp[Go.Sort.putCells,E,G]
end
section
variable {P:Program} {aQ:dD}
theorem asI{k:FuncId}(he:∀ args w,(callFunc k args).run P w=.ok (.enter k args) w)
  (E:∀ (ab off cap:Nat) (zs:z1') (w:World),Go.Sort.Holds (Value.int .i64) w ab off zs.toArray->ab<w.heap.size->zs.length<4611686018427387904->Calls P k #[.slice (some ⟨ab,off,none⟩) zs.length cap] w λe w'=>
   e=.returned (.tuple #[])/\∃ n os,w'=Go.Sort.grow (Go.Sort.putRow (Value.int .i64) (Go.Sort.ahead w n) ab off (zs.mergeSort λx y=>decide (x<=y)).toArray) os)
  (aX:∀ (p:Option Addr) (cap:Nat) (w:World),Calls P k #[.slice p 0 cap] w λe w'=>e=.returned (.tuple #[])/\w'=w):cO P aQ k pS where
 enter:=he
 iw C a w κ F D jq Ah M aw rn tG h aD:=by
  obtain⟨xs,u⟩:=D;have hlen:xs.length<4611686018427387904:=aD;have cd:a.tmps.size=1:=h.dE.trans rn;have qh:=h.bT 0;have aa:=h.bE 200001;change jC C.P _ κ F w (κ 200001) (.bf mG xs) at aa;have af:a.tmps.getD 0 undef=(κ 200001).slice xs.length:=qh.2 rfl rfl;have bb:a.tmps=#[(κ 200001).slice xs.length]:=by
   apply Array.ext (by simp[cd]);intro i G dM;have:i=0:=by omega
   subst this;rw[<-af];simp[Array.getD,cd]
  have ql:∀ bm,bm=((xs.mergeSort (λx y=>decide (x<=y)),()):z1'×Unit)->(pS.sh (xs,u)).bQ bm:=λbm e=>e;have nW:∀ {w':World} {F':Nat->Prop} {ys:z1'},bl C (aB.mk (pS.cp.st (xs,u)).ax λi=>if i=200001 then ⟨0,.bf mG ys⟩ else (pS.cp.st (xs,u)).ab i) a w' κ F'->bl { C with nt:=0 } (pS.bQ.st (ys,())) { tmps:=#[],defers:=[] } w' κ F':=λ{w' F' ys} jP=>by
   have e:(pS.bQ.st (ys,())).ab=λi=>if i=200001 then (⟨0,.bf mG ys⟩:bK) else (pS.cp.st (xs,u)).ab i:=by
    funext i;show eP [(200001,bP.bf mG ys)] i=if i=200001 then _ else eP [(200001,bP.bf mG xs)] i
    simp only[eP];by_cases G:i=200001
    ·rw[if_pos G,if_pos G]
    ·rw[if_neg G,if_neg G,if_neg G]
   refine { dE:=rfl,dfr:=aw.symm,bT:=λi=>trivial,bE:=λb=>?_,own:=λb=>?_,inj:=λb be=>?_,dd:=jP.dd,hg:=jP.hg,hS:=jP.hS,hv:=jP.hv,eH:=jP.eH,size:=jP.size,er:=jP.er,gi:=Nat.zero_le _,kl:=jP.kl,jD:=λb r=>?_,j3:=jP.j3,km:=λb k=>?_,eB:=λl aL L n st e=>(by cases e),jE:=jP.jE,iy:=jP.iy }
   ·rw[e];exact jP.bE b
   ·rw[e];exact jP.own b
   ·rw[e];exact jP.inj b be
   ·rw[e];exact jP.jD b r
   ·rw[e];exact jP.km b k
  subst jq;rw[bb];by_cases aA:(κ 200001).e8=true
  ·have ai:xs=[]:=aa.1 aA;subst ai;have ij:(κ 200001).slice 0=.slice none 0 0:=by simp[bD.slice,aA]
   rw[show ([]:z1').length=0 from rfl,ij];refine (aX none 0 w).mono ?_;rintro e w' ⟨rfl,rfl⟩;refine⟨_,([],()),[],κ,F,rfl,ql _ (congrArg (λl=>(l,())) List.mergeSort_nil.symm),⟨[],rfl,rfl,rfl⟩,nW ?_⟩;have e:(λi=>if i=200001 then (⟨0,.bf mG []⟩:bK) else (pS.cp.st ([],u)).ab i)=(pS.cp.st ([],u)).ab:=by
    funext i;by_cases G:i=200001
    ·subst G;rfl
    ·rw[if_neg G]
   rw[e];exact h
  ·have aA:(κ 200001).e8=false:=by simpa using aA
   obtain⟨cs,T,dP,e2,mH,rW,Fb⟩:=aa.2 aA;have gj:((pS.cp.st (xs,u)).ab 200001).body.b1 (κ 200001)=true:=by show (!(κ 200001).e8)=true;rw[aA];rfl
   have ag:=h.own 200001 gj;have ij:(κ 200001).slice xs.length=.slice (some ⟨(κ 200001).ab,(κ 200001).off,none⟩) xs.length (κ 200001).cap:=by simp[bD.slice,aA]
   rw[ij];refine (E (κ 200001).ab (κ 200001).off (κ 200001).cap xs w (asG dP Fb) ag.1 hlen).mono ?_;rintro e w' ⟨rfl,n,os,rfl⟩;have ao:(xs.mergeSort λx y=>decide (x<=y)).Perm xs:=List.mergeSort_perm _ _;generalize j8:(xs.mergeSort λx y=>decide (x<=y))=ys at ao ql;have aaI:ys.length=xs.length:=ao.length_eq;have FC:(κ 200001).off+xs.length<=cs.size:=by
    have:(κ 200001).cap*ad.size mG=(κ 200001).cap:=Nat.mul_one _;omega
   have jl:∀ y∈ys,fR .i64 y:=λy aS=>by
    have:=ao.mem_iff.1 aS;obtain⟨i,G,rfl⟩:=List.getElem_of_mem this;exact (aaH Fb G).2
   have asJ:(Go.Sort.putRow (Value.int .i64) (Go.Sort.ahead w n) (κ 200001).ab (κ 200001).off ys.toArray).heap[(κ 200001).ab]?=some (.cells (Go.Sort.putCells (Value.int .i64) (κ 200001).off ys.toArray cs) T (0,0)):=by
    simp[Go.Sort.putRow,Go.Sort.mapBlock,Go.Sort.ahead,Array.getElem?_modify,dP,Go.Sort.onCells]
   have tn:bl C ((pS.cp.st (xs,u)).cx 200001 ⟨0,.bf mG ys⟩) a (Go.Sort.putRow (Value.int .i64) (Go.Sort.ahead w n) (κ 200001).ab (κ 200001).off ys.toArray) κ F:=by
    refine h.o6 (b:=200001) (x:=⟨0,.bf mG ys⟩) gj ?_ ?_ nofun nofun (λr M=>?_) (by simp[Go.Sort.putRow,Go.Sort.mapBlock,Go.Sort.ahead]) ⟨rfl,rfl,rfl⟩ (λH mP hK ka=>⟨λhc=>absurd (aA.symm.trans hc) nofun,λ_=>?_⟩)
    ·show (!(κ 200001).e8)=true;rw[aA];rfl
    ·intro b;by_cases aa:b=200001
     ·subst aa;exact⟨Nat.le_refl _,λ_=>⟨nofun,λ_=>⟨rfl,rfl,aaI,rfl⟩,nofun,nofun⟩⟩
     ·show p1 _ (if b=200001 then _ else _) _ _;rw[if_neg aa];exact p1.refl _ _
    ·simp[Go.Sort.putRow,Go.Sort.mapBlock,Go.Sort.ahead,Array.getElem?_modify,Ne.symm M]
    ·refine⟨_,T,asJ,?_,?_,rW,asH aaI jl FC⟩
     ·simpa [Go.Sort.putCells]using e2
     ·show ys.length<=_;omega
   refine⟨_,(ys,()),[],κ,_,rfl,ql _ rfl,⟨[],rfl,rfl,rfl⟩,nW (tn.grow ?_)⟩;refine⟨rfl,rfl,rfl,by simp[Go.Sort.grow],λk an=>?_⟩;simp only[Go.Sort.grow];rw[Array.getElem?_append_left an]
end
end Go.Fer
namespace Go.Fer
open Go.RowKit
def asK(e:ad)(x:Int×Unit):A (List e.aj×Unit):=A.dI (0<=x.1/\x.1<60000) ([],())
def uW(e:ad):cG:=⟨⟨[(0,.cS),(1,.val (.int .i64))],[]⟩,⟨[(0,.own 50000)],[(50000,.bf e)]⟩,[none],2,asK e⟩
section
variable {P:Program} {aQ:dD} {e:ad}
theorem aaJ{C:b_}{a:Act}{w w':World}{κ:Nat->bD}{F:Nat->Prop}{D:(uW e).cp.aj}(h:bl C ((uW e).cp.st D) a w κ F)(aw:C.dfr=[]){kb:bD}{v:Value}
  (af:v=kb.slice 0) (cd:w.heap.size<=w'.heap.size) (hw:∀ r,r<w.heap.size->w'.heap[r]?=w.heap[r]?) (hc:df w w') (lb:kb.e8=false->kb.ab=w.heap.size/\w.heap.size<w'.heap.size)
  (aU:kb.e8=false->∃ cs T,w'.heap[kb.ab]?=some (.cells cs T (0,0))/\kb.off+kb.cap*e.size<=cs.size/\kb.cap<2 ^ 63) :
  bl { C with nt:=1 } ((uW e).bQ.st ([],())) { tmps:=#[v],defers:=[] } w' (λi=>if i=50000 then kb else κ i) F:=by
 have aa:∀ b,((uW e).bQ.st ([],())).ab b=if b=50000 then ⟨0,.bf e []⟩ else ⟨0,.fz⟩:=λb=>rfl
 have bb:∀ b,b≠50000->((uW e).bQ.st ([],())).ab b=⟨0,.fz⟩:=λb aA=>by rw[aa,if_neg aA]
 have bM:((uW e).bQ.st ([],())).ab 50000=⟨0,.bf e []⟩:=rfl;have gj:∀ b,(((uW e).bQ.st ([],())).ab b).body.b1 (if b=50000 then kb else κ b)=true->b=50000/\kb.e8=false:=λb ag=>by
  by_cases e:b=50000
  ·subst e;rw[bM,if_pos rfl]at ag;exact⟨rfl,by simpa [bP.b1]using ag⟩
  ·rw[bb b e]at ag;cases ag
 refine { dE:=rfl,dfr:=aw.symm,bT:=λi=>?_,bE:=λb=>?_,own:=λb ag=>?_,inj:=λb be E U _=>?_,dd:=λr M=>Nat.lt_of_lt_of_le (h.dd r M) cd,hg:=h.hg,hS:=h.hS,hv:=h.hv,eH:=λr M=>?_,size:=Nat.le_trans h.size cd,er:=h.er.trans hc,gi:=(by unfold eQ;exact (by decide:1<=100000)),kl:=h.kl,jD:=λb r M iY=>?_,j3:=h.j3,km:=λb k an _ G=>?_,eB:=λl aL L n st e=>(by cases e),jE:=h.jE,iy:=h.iy.mono (λ_ h=>h) ⟨cd,λr M=>hw r (h.dd r M)⟩ }
 ·by_cases G:i=0
  ·subst G;refine⟨⟨Nat.le_refl _,?_⟩,λ_ _=>?_⟩
   ·show v.oneCell'=true;rw[af];unfold bD.slice;split<;>rfl
   ·show v=_;rw[af];show kb.slice 0=(if (50000:Nat)=50000 then kb else κ 50000).slice 0;rw[if_pos rfl]
  ·have:((uW e).bQ.st ([],())).ax i=.undef:=by
    show fp [(0,aF.own 50000 0)] i=.undef;simp[fp,G]
   rw[this];trivial
 ·unfold cE;by_cases ay:b=50000
  ·subst ay;rw[bM];show jC _ _ _ _ _ (if (50000:Nat)=50000 then kb else κ 50000) (.bf e []);rw[if_pos rfl];refine⟨λ_=>rfl,λaA=>?_⟩;obtain⟨cs,T,E,U,ah⟩:=aU aA;exact⟨cs,T,E,U,Nat.zero_le _,ah,λi G=>absurd G (Nat.not_lt_zero _)⟩
  ·rw[bb b ay];trivial
 ·obtain⟨rfl,aA⟩:=gj b ag;obtain⟨E,U⟩:=lb aA;rw[if_pos rfl,E];refine⟨U,λar=>?_,λan=>?_⟩
  ·have:=h.dd _ ar;omega
  ·have:=h.hv _ an;have:=h.size;omega
 ·rw[(gj b E).1,(gj be U).1]
 ·have E:=h.hv r M;rw[hw r (Nat.lt_of_lt_of_le E h.size)];exact h.eH r M
 ·by_cases ay:b=50000
  ·subst ay;rw[bM]at iY;rcases iY with h | h<;>cases h
  ·rw[bb b ay]at iY;rcases iY with h | h<;>cases h
 ·by_cases ay:b=50000
  ·subst ay;have:=h.j3 _ _ an;unfold wT at this;omega
  ·rw[bb b ay]at G;cases G
theorem aaK{k:FuncId}(he:∀ args w,(callFunc k args).run P w=.ok (.enter k args) w)
  (aX:∀ w:World,Calls P k #[.slice none 0 0,.int .i64 0] w λe w'=>e=.returned (.slice none 0 0)/\w'=w)
  (E:∀ (n:Nat) (w:World),0<n->n<60000->Calls P k #[.slice none 0 0,.int .i64 (n:Int)] w λy w'=>∃ (cf:Nat) (T:TypeId) (cs:Array Value),y=.returned (.slice (some ⟨w.heap.size,0,none⟩) 0 cf)/\
   w'=w.drew.alloc (.cells cs T)/\cf<2 ^ 63/\cf*e.size<=cs.size):cO P aQ k (uW e) where
 enter:=he
 iw C a w κ F D jq Ah M aw rn tG h aD:=by
  obtain⟨n,u⟩:=D;change Int at n;obtain⟨se,qb⟩:0<=n/\n<60000:=aD;have cd:a.tmps.size=2:=h.dE.trans rn;have asL:a.tmps.getD 0 undef=.slice none 0 0:=h.bT 0;have p3:a.tmps.getD 1 undef=.int .i64 n:=(gT.1 (h.bT 1)).1;have bb:a.tmps=#[.slice none 0 0,.int .i64 n]:=by
   apply Array.ext (by simp[cd]);intro i G dM;have:i=0\/i=1:=by omega
   rcases this with rfl | rfl
   ·rw[<-asL];simp[Array.getD,cd]
   ·rw[<-p3];simp[Array.getD,cd]
  subst jq;rw[bb];by_cases bk:n=0
  ·subst bk;refine (aX w).mono ?_;rintro y w' ⟨rfl,rfl⟩;refine⟨_,([],()),[.slice none 0 0],_,F,rfl,rfl,⟨[.slice none 0 0],rfl,rfl,[],rfl,rfl⟩,aaJ h aw (kb:=⟨0,0,0,true⟩) rfl (Nat.le_refl _) (λ_ _=>rfl) (df.refl _) nofun nofun⟩
  ·obtain⟨m,rfl⟩:∃ m:Nat,n=m:=⟨n.toNat,by omega⟩
   refine (E m w (by omega) (by omega)).mono ?_;rintro y w' ⟨cf,T,cs,rfl,rfl,gl,nJ⟩;refine⟨_,([],()),[.slice (some ⟨w.heap.size,0,none⟩) 0 cf],_,F,rfl,rfl,⟨[_],rfl,rfl,[],rfl,rfl⟩,aaJ h aw (kb:=⟨w.heap.size,0,cf,false⟩) rfl (by simp) (λr M=>?_) ⟨rfl,rfl,rfl⟩ (λ_=>⟨rfl,by simp⟩) (λ_=>⟨cs,T,?_,by simpa using nJ,gl⟩)⟩
   ·exact o5 w.drew _ M
   ·show (w.drew.heap.push _)[w.heap.size]?=_;exact Array.getElem?_push_size
theorem aaL{aI:Go.Shelf.Ren}(L:Go.Proofs.Lays8.n4 P aI)(w:World):Calls P (aI.f 4) #[.slice none 0 0,.int .i64 0] w λe w'=>e=.returned (.slice none 0 0)/\w'=w:=
 Go.Proofs.Any8.slices_Grow_room L none 0 0 0 w (Nat.le_refl _) (by decide) (by decide) (Nat.le_refl _)
theorem aaM{aI:Go.Shelf.Ren}(L:Go.Proofs.Lays8.n4 P aI)(aK:b' P e (aI.t 25))(aD:e.size≠0)(n:Nat)(w:World)(aX:0<n)(E:n<60000) :
  Calls P (aI.f 4) #[.slice none 0 0,.int .i64 (n:Int)] w λy w'=>∃ (cf:Nat) (T:TypeId) (cs:Array Value),y=.returned (.slice (some ⟨w.heap.size,0,none⟩) 0 cf)/\w'=w.drew.alloc (.cells cs T)/\cf<2 ^ 63/\cf*e.size<=cs.size:=by
 obtain⟨i0,z,ox,cd,aa,KU,asM,_⟩:=kp aK.ko;have m_:0<i0.size:=by omega
 have tQ:=(Ce (P:=P) e asM).2;refine (Go.Proofs.Any8.slices_Grow_grow L i0 z ox KU m_ none 0 0 n [] w (Nat.le_refl _) (by omega) ?_ (by omega) (by simp) (λ_=>rfl) nofun).mono ?_
 ·have:(0+n)*i0.bytes<=(0+n)*1024:=Nat.mul_le_mul_left _ aa;omega
 ·rintro y w' ⟨rfl,rfl⟩;refine⟨_,_,_,rfl,rfl,?_,?_⟩
  ·have:=grownCap_le_maxLen w (0+n) 0 (aI.t 25) (by unfold maxLen;omega);unfold maxLen at this;omega
  ·have:=grownCap_ge w (0+n) 0 (aI.t 25);generalize grownCap w (0+n) 0 (aI.t 25)=cf at this;simp only[Array.size_append,size_zeroCells,tQ];have ay:(0+n - 0)*e.size+(cf - (0+n))*e.size=cf*e.size:=by rw[<-Nat.add_mul];congr 1;omega
   have aN:(#[]:Array Value).size=0:=rfl;omega
end
end Go.Fer
namespace Go.Fer.og
open Go.Proofs
def E1(aQ:dD)(c:cG)(sh:Nat->c.cp.aj->A c.bQ.aj):List Nat->Prop
 | []=>True
 | k::l=>cO Tryz.prog aQ k { c with sh:=sh k }/\E1 aQ c sh l
theorem E1.mem{aQ:dD}{c:cG}{sh:Nat->c.cp.aj->A c.bQ.aj}:∀ {l:List Nat},E1 aQ c sh l->∀ k∈l,cO Tryz.prog aQ k { c with sh:=sh k }
 | [],_,k,h=>by cases h
 | j::l,h,k,an=>by
  rcases List.mem_cons.1 an with rfl | an
  ·exact h.1
  ·exact E1.mem h.2 k an
theorem yJ{k:Nat}{e:ad}{f:List e.aj×Unit->A (List e.aj×Unit)}{sh:(ad.slice e).aj->A (ad.slice e).aj}(h:cO Tryz.prog dB k ⟨⟨[(0,.val (.slice e))],[]⟩,⟨[(0,.own 60)],[(60,.bf e)]⟩,[none],1,f⟩)
  (ao:∀ x:List e.aj,(sh x).cq->(f (x,())).cq/\∀ bm,(f (x,())).bQ bm->bm.1=(sh x).val (ad.slice e).dh):k8 (hk.ky ⟨.slice e,.slice e,sh,true⟩).aR=true/\zp Tryz.prog k (hk.ky ⟨.slice e,.slice e,sh,true⟩):=
 ajl (by simp) h mw (b0:=60) (λx=>(x,())) (λx=>rfl) rfl (by show 1<=eQ;decide) rfl (λbm=>bm.1) (λbm=>⟨rfl,rfl⟩) ao
abbrev asN:Code:=Tryz.f161.body.getD .skip
theorem asO(aQ:dD):cO Tryz.prog aQ 161 pS:=
 asI (uj Tryz.func161 (show Tryz.f161.body=some asN by kernel_rfl) (by kernel_rfl)) (λab off cap zs w E U ah=>calls_of_every_depth λca=>AnyS.slices_Sort_int_in Tryz.aax ca ab off cap zs w E U ah)
  λp cap w=>Any.slices_Sort_int_none Tryz.aax p cap w
theorem asP:Qz=H.x8:=by
 funext x;unfold Qz H.x8;rw[show x.1.mergeSort (λa b=>decide (a<=b))=H.fr H.hs x.1 from (H.AA ((List.pairwise_mergeSort (le:=λa b:Int=>decide (a<=b)) (λa b c E U=>by simp at E U ⊢;omega) (λa b=>by simp;omega) x.1).imp λh=>by simpa using h) (List.mergeSort_perm _ _).symm).symm]
def QA:cG:=⟨⟨[(0,.own 200001)],[(200001,.bf t3)]⟩,⟨[],[(200001,.bf t3)]⟩,[],1,H.x8⟩
theorem aaN:cO Tryz.prog dB 161 QA:=by
 have:=asO dB;unfold pS at this;rw[asP]at this;exact this
abbrev asQ:Code:=Tryz.f257.body.getD .skip
abbrev asR:Code:=Tryz.f256.body.getD .skip
def aaO:cG:=⟨⟨[(0,.cS),(1,.val t3)],[]⟩,⟨[(0,.own 50000)],[(50000,.bf t3)]⟩,[none],2,H.I5⟩
def aaP:cG:=⟨⟨[(0,.cS),(1,.val t3)],[]⟩,⟨[(0,.own 50000)],[(50000,.bf H.hq)]⟩,[none],2,H.I6⟩
theorem asS:cO Tryz.prog dB 257 aaO:=
 aaK (e:=t3) (uj Tryz.func257 (show Tryz.f257.body=some asQ by kernel_rfl) (by kernel_rfl)) (aaL Tryz.aay) (aaM Tryz.aay (n2.cb (id:=3) rfl (by decide)) (by decide))
theorem asT:cO Tryz.prog dB 256 aaP:=
 aaK (e:=H.hq) (uj Tryz.func256 (show Tryz.f256.body=some asR by kernel_rfl) (by kernel_rfl)) (aaL Tryz.aaz) (aaM Tryz.aaz (n2.cb (id:=125) rfl (by decide)) (by decide))
def g1:=ajj.cons (n:=139) (c:=au.Jm.cY) ⟨asn,λ_ _=>A.vC⟩
def et:=g1.cons (n:=204) (c:=au.Jd.cY) ⟨asr,λ_ _=>A.vC⟩
def g3:=et.cons (n:=258) (c:=au.ES.cY) ⟨ast,λ_ _=>A.vC⟩
def asU:=g3.cons (n:=140) (c:=au.EU.cY) ⟨asE,λ_ _=>A.vC⟩
end Go.Fer.og
namespace Go.Fer.au
open A (W)
open H (gv)
theorem asV{d:a_}{m:List H.ba}{v:z1'}:(pQ d m v).1≠oc->(pQ d m v).2=d:=by
 unfold pQ;grind
theorem aaQ{d:a_}{s:bI}:(lB d s).1≠oc->(lB d s).2=d:=by
 unfold lB;grind
theorem asW(j:Nat)(d:a_)(l:z1'):(tc j d l).1≠oc->(tc j d l).2=d:=by
 unfold tc;split<;>first
  | exact λ_=>rfl
  | exact asV
  | exact aaQ
  | (unfold wz;grind)
  | (unfold rR;grind)
  | (unfold wA;split;exact λ_=>rfl;exact aaQ)
def iP(n:Int):aM:=if n<0 then PY else Go.Lib.decDigits n.toNat
theorem QB(u:Nat):Go.Lib.decDigits u=(if u<10 then [] else Go.Lib.decDigits (u / 10))++[UInt8.ofNat (48+u % 10)]:=by
 split
 ·rw[Go.Lib.decDigits_one (by omega),Nat.mod_eq_of_lt (by omega)];rfl
 ·conv=>lhs;unfold Go.Lib.decDigits
  rw[dif_neg (by omega)]
theorem aaR(k:Nat):UInt8.ofNat (Int.toNat (IntKind.wrap .u8 (IntKind.wrap .i64 (Add.add 48 (Int.tmod (k:Int) 10)))))=UInt8.ofNat (48+k % 10):=by
 have e:Int.tmod (k:Int) 10=((k % 10:Nat):Int):=rfl;rw[e,cm,bC (by omega) (by omega),aan (by omega) (by omega)];congr 1
theorem aaS:∀ (k u:Nat),u<10 ^ (k+1)->Go.Lib.nDigits u<=k+1
 | 0,u,h=>by rw[Go.Lib.nDigits_small (by omega)];omega
 | k+1,u,h=>by
  unfold Go.Lib.nDigits;split
  ·omega
  ·have:=aaS k (u / 10) (by rw[Nat.pow_succ]at h;omega);omega
abbrev yK:aP:=⟨.int .i64,.str,λn=>n<2 ^ 63,iP⟩
theorem asX(x):A.le (YY x) (yK.sh x):=A.bw λh=>by
 change x<2 ^ 63 at h;unfold YY;show _=A.pure (iP x);unfold iP;by_cases ai:x<0
 ·rw[if_pos (decide_eq_true ai),if_pos ai]
 ·rw[if_neg (by simpa using ai),if_neg ai,A.bz (by decide)];obtain⟨u,rfl⟩:∃ u:Nat,x=u:=⟨x.toNat,by omega⟩
  have Bw:=Go.Lib.nDigits_le20 u (by omega);rw[<-Go.Lib.decDigits_length]at Bw;have e:=QB u;rw[A.acL (res:=W.next (Go.Lib.decDigits u,())) (λs=>∃ k:Nat,s.1=(k:Int)/\k<=u/\Go.Lib.decDigits u=(if k<10 then [] else Go.Lib.decDigits (k / 10))++s.2.1) (λs=>s.1.toNat) ?_ _ ⟨u,rfl,Nat.le_refl _,by rw[aaR];exact e⟩,A.aH]
  ·rfl
  ·rintro⟨n,t,⟨⟩⟩ ⟨k,E,U,ah⟩;change n=(k:Int) at E;subst E;change _=_++t at ah;have asY:=congrArg List.length ah;rw[List.length_append]at asY;have D_:Int.tdiv (k:Int) 10=((k / 10:Nat):Int):=rfl;by_cases an:k<10
   ·right;rw[if_pos an,List.nil_append]at ah;simp only[D_];rw[if_neg (by simp;omega),A.aH,ah]
   ·left;rw[if_neg an,QB (k / 10),List.append_assoc]at ah;refine⟨(((k / 10:Nat):Int),[UInt8.ofNat (48+k / 10 % 10)]++t,()),?_,⟨k / 10,rfl,by omega,ah⟩,by show (((k / 10:Nat):Int)).toNat<((k:Int)).toNat;omega⟩;simp only[D_];rw[if_pos (by simp;omega),A.bz (by decide),A.bz (by decide),A.bz (gv (by simp only[hM];omega)),bC (by omega) (by omega),aaR]
theorem E2{n:Int}(h:n<=999999):(iP n).length<=6:=by
 unfold iP;split
 ·decide
 ·rw[Go.Lib.decDigits_length];exact aaS 5 _ (by omega)
def j1(w:aM)(l:z1'):aM:=l.foldl (λs n=>s++([32]++iP n)) w
abbrev yL:aP:=⟨.az .str fP,.str,λx=>x.1.length<=1000/\x.2.length<=1000/\∀ n∈x.2,n<=999999,λx=>j1 x.1 x.2⟩
theorem asZ(x):A.le (YZ yK.sh x) (yL.sh x):=A.bw λh=>by
 obtain⟨w,l⟩:=x;obtain⟨E,U,ah⟩:w.length<=1000/\l.length<=1000/\∀ n∈l,n<=999999:=h;unfold YZ;show _=A.pure (j1 w l);rw[A.f_ l (λi (s:aM)=>(s,l,(i:Int),())) (λn s=>.next (s++([32]++iP n))) (λs=>.next (s,())) (λi s=>s.length<=1000+7*i) w ?_ (by omega) ?_ ?_]
 ·rw[ej,A.aH];rfl
 ·rfl
 ·intro i G s aD;have hw:=bC (n:=(i:Int)+1) (by omega) (by omega);have aA:=ah _ (List.getElem_mem G);have aK:=E2 aA;refine⟨?_,λbe cW=>?_⟩
  ·simp only[bW,cZ G,if_true,dm G,cL G,A.br,cm,hw];rw[show yK.sh l[i]=A.pure (iP l[i]) from A.bR (show l[i]<2 ^ 63 by omega) _,A.aH,A.bz (gv (by simp only[hM];omega)),A.bz (gv (by simp only[hM];omega))];rfl
  ·simp only[W.next.injEq]at cW;subst cW;simp only[List.length_append,List.length_cons,List.length_nil];omega
 ·simp
theorem aaT{w:aM}{l:z1'}(E:w.length<=1000)(U:l.length<=1000)(ah:∀ n∈l,n<=999999):yL.sh (w,l)=A.pure (j1 w l):=A.bR ⟨E,U,ah⟩ _
theorem JF{n:Nat}:∀ {l:z1'} {w:aM},(∀ n∈l,n<=999999)->w.length<=n->(j1 w l).length<=n+7*l.length
 | [],w,_,h=>h
 | k::l,w,h,hw=>by
  have aK:=E2 (h k (by simp));have:=JF (n:=n+7) (l:=l) (w:=w++([32]++iP k)) (λn aA=>h n (by simp[aA])) (by simp;omega);show (j1 (w++([32]++iP k)) l).length<=_;simp only[List.length_cons];omega
theorem aaU:∀ (a b:aM),cH (a++32::b)=cH a++cH b
 | [],b=>by simp[cH]
 | c::a,b=>by
  have aJ:=aaU a b;have ak:=uR a;simp only[List.cons_append,cH];split
  ·rw[aJ];rfl
  ·rw[aJ];cases h:cH a with
   | nil=>exact absurd ak.1 (by rw[h];decide)
   | cons v l=>rfl
theorem aaV:∀ (w:aM),(∀ c∈w,c≠32)->cH w=[w]
 | [],_=>rfl
 | c::w,h=>by
  have aJ:=aaV w λd aw=>h d (by simp[aw]);simp only[cH];rw[if_neg (h c (by simp)),aJ]
theorem as0(u:Nat):∀ c∈Go.Lib.decDigits u,c≠32:=by
 induction u using Nat.strongRecOn with
 | _ u aJ=>
  intro c hc;rw[QB,List.mem_append]at hc;rcases hc with hc | hc
  ·split at hc
   ·cases hc
   ·exact aJ (u / 10) (by omega) c hc
  ·rw[List.mem_singleton]at hc;subst hc;have:=JE (u % 10) (by omega);intro e;rw[e]at this;have:((32:UInt8).toNat:Int)=32:=by decide
   omega
theorem as1(n:Int):cH (iP n)=[iP n]:=by
 refine aaV _ ?_;unfold iP;split
 ·decide
 ·exact as0 _
theorem aaW:∀ (l:z1') (w:aM),cH (j1 w l)=cH w++l.map iP
 | [],w=>by simp[j1]
 | n::l,w=>by
  show cH (j1 (w++32::iP n) l)=_;rw[aaW l,aaU,as1];simp
theorem aaX{n:Int}(aX:0<=n)(E:n<=999999):e1 (iP n)=n:=by
 have ak:=E2 E;unfold iP at ak ⊢;rw[if_neg (by omega)]at ak ⊢;obtain⟨aW,aY⟩:=aaF n.toNat;have ao:=List.length_pos_iff.2 aW;unfold e1;rw[if_neg,aaE]
 ·omega
 ·simp only[Bool.or_eq_true,Bool.and_eq_true,decide_eq_true_eq,not_or,not_and];exact⟨⟨by omega,by omega⟩,aY⟩
theorem as2{l:z1'}(h:∀ n∈l,0<=n/\n<=999999):EP (l.map iP)=some l:=by
 unfold EP;have e:(l.map iP).map e1=l:=by
  rw[List.map_map];conv=>rhs;rw[<-List.map_id l]
  exact List.map_congr_left λn aA=>aaX (h n aA).1 (h n aA).2
 rw[e,if_pos];rw[List.all_map,List.all_eq_true];intro n aA;have:=h n aA;have:=aaX (h n aA).1 (h n aA).2;simp only[Function.comp,decide_eq_true_eq];omega
theorem as3{w:aM}{k:Int}{m:Bool}{j:Nat}{l:z1'}(hw:cH w=[w])(ar:od w kF 0=some (k,m,j))(an:k<=(l.length:Int)/\((l.length:Int)<=k\/m=true))(ak:∀ n∈l,0<=n/\n<=999999):ER (j1 w l)=some (j,l):=by
 unfold ER;rw[aaW,hw];have ay:(([w]++l.map iP).getD 0 [])=w:=rfl;have aN:(([w]++l.map iP).drop 1)=l.map iP:=rfl;have cA:((([w]++l.map iP).length:Int) - 1)=(l.length:Int):=by simp
 rw[ay,aN,cA,ar,as2 ak];simp only;rw[if_neg]
 ·rfl
 ·simp only[Bool.or_eq_true,Bool.and_eq_true,decide_eq_true_eq,Bool.not_eq_true',not_or,not_and,Bool.not_eq_false];refine⟨by omega,λh=>?_⟩;rcases an.2 with U | U
  ·omega
  ·exact U
theorem aaY{w:aM}{k:Int}{m:Bool}{j:Nat}{l:z1'}(hw:cH w=[w])(ar:od w kF 0=some (k,m,j))(an:k<=(l.length:Int)/\((l.length:Int)<=k\/m=true))(ak:∀ n∈l,0<=n/\n<=999999)(d:a_):jg d (j1 w l)=tc j d l:=by
 unfold jg;rw[as3 hw ar an ak]
end Go.Fer.au
namespace Go.Fer
open A (W)
def aaZ(O1:a_->A Int)(O2:a_×Unit->A (a_×Unit))(O3:Unit->A (List (aM×Int×Bool×Option Nat)))(O4:List (aM×Int×Bool×Option Nat)×aM×a_×Unit->A (aM×a_×Unit))(x:a_×List aM×Unit):A (List aM×a_×Int×List aM×Unit):=
 letI d:=Int.ofNat (List.length x.2.1);A.bind (O1 x.1) λy=>if decide (y≠0)=true then A.pure ([],((([],[],0,[]),[],[],[],[],0),[],[],[],[],0,0,0,0,0,0,0),y,x.2.1,()) else if decide (d > 40)=true then A.pure ([],((([],[],0,[]),[],[],[],[],0),[],[],[],[],0,0,0,0,0,0,0),2,x.2.1,()) else A.bind (O2 (x.1,())) λy=>A.bind (O3 ()) λbZ=>A.bind (A.loop (λ(D:List (aM×Int×Bool×Option Nat)×Int×Int×List aM×Int×Int×Int×Int×Int×Int×Int×Int×Int×a_×List aM×Unit)=>letI e:=D.2.2.1;letI b:=D.2.2.2;letI f:=b.2.2.2;letI a:=f.2.2;letI c:=a.2.2.2.2;if decide (e<D.2.1)=true then A.ae (0<=e/\e<Int.ofNat (List.length c.2.2.1)) (A.bind (O4 (D.1,List.getD c.2.2.1 (Int.toNat e) [],c.2.1,())) (λy=>A.ae (b6 (Add.add (List.length b.1) (Add.add 0 1))) (A.pure (W.next (D.1,D.2.1,IntKind.wrap .i64 (Add.add e 1),b.1++[y.1],b.2.1,b.2.2.1,f.1,f.2.1,a.1,a.2.1,a.2.2.1,a.2.2.2.1,c.1,y.2.1,c.2.2.1,()))))) else A.bind (A.pure (W.next (b.1,b.2.1,b.2.2.1,f.1,f.2.1,a.1,a.2.1,a.2.2.1,a.2.2.2.1,c.1,c.2.1,c.2.2.1,()))) λr=>A.pure (W.done r)) (bZ,d,0,[],0,0,0,0,0,0,0,0,0,y.1,x.2.1,())) (W.bB (λ(D:List aM×Int×Int×Int×Int×Int×Int×Int×Int×Int×a_×List aM×Unit)=>letI g:=D.2.2.2.2.2.2.2.2.2.2;A.ae True (A.pure (D.1,g.1,0,g.2.1,()))))
def QC(as4:a_×List aM×Unit->A (List aM×a_×Int×List aM×Unit))(Eo:a_×List aM->A (List aM×a_×Int))(aa0:a_×a_->A Bool)(as5:a_×List aM×Int->A Bool)(E3:Unit->A Bool)(QD:aM×z1'->A aM)(Pa:Int->A aM)(x:a_×List aM×z1'×(Int×Int)×Int×Int×Int):A Bool:=
 letI c:=x.2.2.2;letI v:=c.2.1;letI t:=c.2.2;letI p:=c.1.1;letI o:=c.1.2;letI i:=v<(if o<p then o else p);letI m:=t.1<(if i then v else if o<p then o else p);letI f:=v > (if o > p then o else p);letI l:=t.1 > (if f then v else if o > p then o else p);if (decide ((if t.2<(if m then t.1 else if i then v else if o<p then o else p) then t.2 else if m then t.1 else if i then v else if o<p then o else p)<0)||decide ((if t.2 > (if l then t.1 else if f then v else if o > p then o else p) then t.2 else if l then t.1 else if f then v else if o > p then o else p) > 9999)||decide (Int.ofNat (List.length x.2.2.1) > 8))=true then A.bind (E3 ()) λy=>A.pure y else A.bind (QD ([119,105,115,104],[p,o,v,t.1,t.2])) λy=>A.bind (A.loop (λ(D:List aM×aM×Int×a_×(z1'×(Int×Int)×Int×Int×Int)×Unit)=>letI q:=D.2.2;letI g:=q.1<Int.ofNat (List.length q.2.2.1.1);letI z:=0<=q.1/\g;letI e:=List.getD q.2.2.1.1 (Int.toNat q.1) (0:Int);letI s:=(!(decide (e<0)))=true;if decide g=true then A.ae z (A.ae (s->(s/\s)/\z/\True) (if (decide (e<0)||decide (e > 9999))=true then A.bind (E3 ()) λy=>A.bind (A.bind (A.pure y) (λr=>A.pure (W.done r))) λr=>A.pure (W.done r) else A.ae z (A.bind (Pa (List.getD q.2.2.1.1 (Int.toNat q.1) 0)) (λy=>A.ae (b6 (Add.add (Add.add 0 1) (List.length y))) (A.ae (b6 (Add.add (List.length D.2.1) (Add.add (List.length y) 1))) (A.pure (W.next (D.1,D.2.1++([32]++y),IntKind.wrap .i64 (Add.add q.1 1),q.2.1,q.2.2.1,())))))))) else A.bind (A.pure (W.next (D.1,D.2.1,q.2.1,()))) λr=>A.pure (W.done r)) (x.2.1,y,0,x.1,x.2.2,())) (W.bB (λ(D:List aM×aM×a_×Unit)=>letI b9:=D.2.2.1;letI n:=Int.ofNat (List.length D.1);A.ae (b6 (Add.add 0 (List.length D.1))) (A.ae (b6 (Add.add (List.length ([]++D.1)) (Add.add 0 1))) (A.bind (as5 (b9,[]++D.1++[D.2.1],39)) (λy=>if (!y)=true then A.bind (E3 ()) λy=>A.pure y else A.bind (Eo (b9,D.1)) λbZ=>letI k:=Int.ofNat (List.length bZ.2.1.1.2.2.2.1);A.bind (as4 (b9,[]++D.1++[D.2.1],())) λdv=>letI w:=List.length dv.2.2.2.1;letI u:=Int.ofNat (List.length dv.1);letI h:=Int.ofNat w;letI b:=(b9,dv.2.2.2.1++[A.val (QD ([100,114,111,112],[k])) []]);letI E4:List aM×a_×Int:=A.val (Eo b) ([],((([],[],0,[]),[],[],[],[],0),[],[],[],[],0,0,0,0,0,0,0),0);letI a:=decide ((E4).2.2=0)&&decide (Int.ofNat (List.length (E4).1)=IntKind.wrap .i64 (Add.add h 1));letI d:=a&&decide (List.getD (E4).1 (Int.toNat h) []=[111,107]);if (decide (bZ.2.2≠0)||decide (dv.2.2.1≠0)||decide (u≠h))=true then A.pure false else A.ae (0<=n/\n<u) (if decide (List.getD dv.1 (Int.toNat n) []≠[111,107])=true then A.bind (aa0 (bZ.2.1,dv.2.1)) λy=>A.bind (ck y (E3 ()) false) λf'=>A.pure (y&&f') else A.ae (QD ([100,114,111,112],[k])).cq (A.ae (b6 (Add.add w (Add.add 0 1))) (A.ae (Eo b).cq (A.ae (a=true->(a=true/\a=true)/\(0<=h/\h<Int.ofNat (List.length (E4).1))/\True) (A.bind (ck d (aa0 (bZ.2.1,(E4).2.1)) false) (λy=>letI j:=d&&y&&decide (Int.ofNat (List.length dv.2.1.1.2.2.2.1)=IntKind.wrap .i64 (Add.add k 1));A.bind (ck j (E3 ()) false) λf'=>A.pure (j&&f'))))))))))))
end Go.Fer
namespace Go.Fer.au
open A (W)
open H (gv)
def Bx(x:a_×List aM×Unit):A (List aM×a_×Int×List aM×Unit):=A.dI (Jp (x.1,x.2.1)) ((lC x.1 x.2.1).1,(lC x.1 x.2.1).2.1,(lC x.1 x.2.1).2.2,x.2.1,())
theorem as6(x):A.le (aaZ qJ.sh rD Bs.sh Bt x) (Bx x):=A.bw λh=>by
 obtain⟨d,l,⟨⟩⟩:=x;obtain⟨E,U,ah,aZ⟩:Jp (d,l):=h;unfold aaZ;show _=A.pure ((lC d l).1,(lC d l).2.1,(lC d l).2.2,l,());unfold lC;rw[show qJ.sh d=A.pure (iv d) from A.bR ⟨E,U.gL⟩ _,A.aH];by_cases e:iv d=0
 ·rw[if_neg (show ¬decide (iv d≠0)=true by grind),if_neg (show ¬iv d≠0 by omega)];have aw:=Qp E U e;by_cases aN:l.length > 40
  ·grind
  ·rw[if_neg (show ¬decide (Int.ofNat l.length > 40)=true by grind),if_neg aN];rw[show rD (d,())=A.pure (ft d,()) from A.bR aw _,A.aH,show Bs.sh ()=A.pure rT from rfl,A.aH];rw[A.f_ l (λi (p:List aM×a_)=>(rT,(l.length:Int),(i:Int),p.1,0,0,0,0,0,0,0,0,0,p.2,l,())) (λs p=>.next (p.1++[(jg p.2 s).1],(jg p.2 s).2)) (λp=>.next (p.1,0,0,0,0,0,0,0,0,0,p.2,l,())) (λi p=>ds p.2/\p.1.length=i) ([],ft d) ?_ ⟨Qo aw,rfl⟩ ?_ ?_]
   ·rw[ej,Qq,A.aH,A.b2,A.br,List.nil_append]
   ·rfl
   ·rintro i G ⟨o,qQ⟩ ⟨qO,ag⟩;have hw:=bC (n:=(i:Int)+1) (by omega) (by omega);have aD:=aZ _ (List.getElem_mem G);change ds qQ at qO;change o.length=i at ag;refine⟨?_,λbe cW=>?_⟩
    ·simp only[bW,cZ G,if_true,dm G,cL G,A.br,cm,hw];rw[show Bt (rT,l[i],qQ,())=A.pure _ from A.bR ⟨rfl,aD,qO⟩ _,A.aH,A.bz (gv (by grind))];rfl
    ·simp only[W.next.injEq]at cW;subst cW;exact⟨Qn qO aD,by grind⟩
   simp
 grind
theorem as7{d:a_}(aw:ds d){l:List aM}(ar':l.length<=40)(ak:∀ s∈l,s.length<=10000):Bx (d,l,())=A.pure ((fv (ft d) l).1,(fv (ft d) l).2,0,l,()):=by
 have e:Bx (d,l,())=A.pure ((lC d l).1,(lC d l).2.1,(lC d l).2.2,l,()):=A.bR ⟨aw.gL,aw.gF,by show l.length<2 ^ 63;omega,ak⟩ _;rw[e];unfold lC;rw[if_neg (by rw[aw.Z'];decide),if_neg (by omega)]
theorem as8(w:aM)(a b:z1'):j1 w (a++b)=j1 (j1 w a) b:=by simp[j1]
theorem as9{a b:Int}:(if a<b then a else b)=min a b:=by omega
theorem as_{a b:Int}:(if a > b then a else b)=max a b:=by omega
theorem as'{X:a_}{l:z1'}(h:(qG X l).1=oc):X.1.2.2.2.1.length<(qG X l).2.1.2.2.2.1.length/\(qG X l).2.1.2.2.2.1.length=X.1.2.2.2.1.length+1/\rR (qG X l).2 [(X.1.2.2.2.1.length:Int)]=(oc,X):=by
 unfold qG lB at h ⊢;split at h
 ·exact absurd (show yz=oc from h) (by decide)
 ·rename_i he;rw[if_neg he];refine⟨by simp,by simp,?_⟩;unfold rR;rw[if_neg (by simp[bp];omega)];simp only[bp,List.getD_cons_zero,Int.toNat_natCast];rw[List.eraseIdx_append_of_length_le (Nat.le_refl _)];simp
def th(c:Int):Bool:=decide (c<0)||decide (c > 9999)
theorem acG(x:a_×List aM×z1'×(Int×Int)×Int×Int×Int)(E:fx x.1.1)(U:H.iR x.1.2)(ah:x.2.1.length<=1048576):QC Bx rU.sh EY.sh uV.sh E0.sh yL.sh yK.sh x=A.pure true:=by
 obtain⟨d,l,cs,⟨aT,G⟩,le,l9,bU⟩:=x;change l.length<=1048576 at ah;unfold QC;rw[aar];simp only[as9,as_];by_cases hc:(0<=aT/\0<=G/\0<=le/\0<=l9/\0<=bU)/\(aT<=9999/\G<=9999/\le<=9999/\l9<=9999/\bU<=9999)/\cs.length<=8
 ·obtain⟨ao,hm,iQ⟩:=hc;rw[if_neg (by simp only[Bool.or_eq_true,decide_eq_true_eq,bW];omega)];have hK:∀ n∈[aT,G,le,l9,bU],0<=n/\n<=999999:=by simp;omega
  have w4:yL.sh ([119,105,115,104],[aT,G,le,l9,bU])=A.pure (j1 [119,105,115,104] [aT,G,le,l9,bU]):=aaT (by decide) (by simp) λn aA=>(hK n aA).2;have Ds:=JF (n:=4) (l:=[aT,G,le,l9,bU]) (w:=[119,105,115,104]) (λn aA=>(hK n aA).2) (by decide);rw[w4,A.aH];rw[A.f_ cs (λi (s:aM)=>(l,s,(i:Int),d,(cs,(aT,G),le,l9,bU),())) (λc s=>if th c=true then .done (.done true) else .next (s++([32]++iP c))) (λs=>.next (l,s,d,())) (λi s=>s.length<=39+7*i) (j1 [119,105,115,104] [aT,G,le,l9,bU]) ?_ Ds ?_ ?_]
  ·rw[Js,A.aH];by_cases aa:cs.any th=true
   ·rw[if_pos aa];rfl
   ·rw[if_neg aa,A.b2];have nJ:∀ n∈cs,0<=n/\n<=999999:=λn aA=>by
     have:¬th n=true:=λh=>aa (List.any_eq_true.2 ⟨n,aA,h⟩);simp only[th,Bool.or_eq_true,decide_eq_true_eq]at this;omega
    have bG:cs.foldl (λs c=>s++([32]++iP c)) (j1 [119,105,115,104] [aT,G,le,l9,bU])=j1 [119,105,115,104] ([aT,G,le,l9,bU]++cs):=(as8 _ _ _).symm;rw[bG];have hH:∀ n∈[aT,G,le,l9,bU]++cs,0<=n/\n<=999999:=λn aA=>(List.mem_append.1 aA).elim (hK n) (nJ n);have ata:∀ X,jg X (j1 [119,105,115,104] ([aT,G,le,l9,bU]++cs))=qG X ([aT,G,le,l9,bU]++cs):=aaY (k:=5) (m:=true) (j:=14) (by decide) (by decide) (by simp;omega) hH;have atb:=JF (n:=4) (l:=[aT,G,le,l9,bU]++cs) (w:=[119,105,115,104]) (λn aA=>(hH n aA).2) (by decide);rw[List.length_append]at atb;generalize j1 [119,105,115,104] ([aT,G,le,l9,bU]++cs)=T at *
    rw[A.bz (show b6 _ from by unfold b6;simp only[hM];omega),A.bz (show b6 _ from by unfold b6;simp only[hM,List.length_append,List.length_nil];omega),List.nil_append];rw[G4 E U (by simp;omega),A.aH];by_cases M:(!uU d (l++[T])&&decide (iv d=0)&&decide (((l++[T]).length:Int)<=39))=true
    ·rw[M,if_neg (by simp)];obtain⟨aw,aA,atc⟩:=ar6 E U M;have aA:l.length<=38:=by simp at aA;omega
     have JG:∀ s∈l++[T],s.length<=10000:=λs aD=>by have:=atc s aD;omega
     have ak:∀ s∈l,s.length<=10000:=λs aD=>JG s (List.mem_append_left _ aD);rw[aas aw (by omega) ak,A.aH,as7 aw (by simp;omega) JG,A.aH];have ka:=Qo aw;have t':=aak ka ak;have hX:=aak ka JG;have hlen:=aqV (ft d) l;have e:fv (ft d) (l++[T])=((fv (ft d) l).1++[(jg (fv (ft d) l).2 T).1],(jg (fv (ft d) l).2 T).2):=Z9 _ _ _;rw[ata]at e;generalize an:(fv (ft d) l).2.1.2.2.2.1.length=k at *
     have ayp:k<=6:=by rw[<-an];exact t'.val.s7
     have atd:∀ X,jg X (j1 [100,114,111,112] [(k:Int)])=rR X [(k:Int)]:=aaY (k:=1) (m:=false) (j:=15) (by decide) (by decide) (by simp) (by simp;omega);have du:yL.sh ([100,114,111,112],[(k:Int)])=A.pure (j1 [100,114,111,112] [(k:Int)]):=aaT (by decide) (by simp) (by simp;omega);have Ep:=JF (n:=4) (l:=[(k:Int)]) (w:=[100,114,111,112]) (by simp;omega) (by decide);generalize j1 [100,114,111,112] [(k:Int)]=ca at *
     have dF:=aas aw (l:=l++[T]++[ca]) (by simp;omega) λs aD=>by
      rcases List.mem_append.1 aD with aD | aD
      ·exact JG s aD
      ·rw[List.mem_singleton.1 aD];simp at Ep;omega
     have aN:fv (ft d) (l++[T]++[ca])=((fv (ft d) (l++[T])).1++[(jg (fv (ft d) (l++[T])).2 ca).1],(jg (fv (ft d) (l++[T])).2 ca).2):=Z9 _ _ _;rw[atd]at aN;have QE:=asW 14 (fv (ft d) l).2 ([aT,G,le,l9,bU]++cs);change (qG _ _).1≠oc->(qG _ _).2=_ at QE;have QF:=@as' (fv (ft d) l).2 ([aT,G,le,l9,bU]++cs);rw[an]at QF;rw[e]at aN hX;rw[aN]at dF;rw[e];generalize qG (fv (ft d) l).2 ([aT,G,le,l9,bU]++cs)=V at *
     obtain⟨v,Y⟩:=V;generalize (fv (ft d) l).1=a at *
     generalize (fv (ft d) l).2=X at *
     simp only at QE QF dF hX;have iM:(a++[v]).getD l.length []=v:=by rw[List.getD_eq_getElem?_getD,List.getElem?_append_right (by omega),hlen,Nat.sub_self];rfl
     have hw:=bC (n:=(k:Int)+1) (by omega) (by omega);have gE:=bC (n:=((l++[T]).length:Int)+1) (by simp;omega) (by simp;omega);simp only[bW,an,du,A.fD,A.iS,dF,A.br,cm,hw,gE,Int.toNat_natCast,iM,Qt t'];rw[if_neg (by simp[hlen]),A.bz (by simp[hlen];omega)];by_cases af:v=oc
     ·obtain⟨aW,aY,bO⟩:=QF af;rw[if_neg (by simp[af]),bO];have ate:(a++[v]++[oc]).getD (l++[T]).length []=oc:=by rw[List.getD_eq_getElem?_getD,List.getElem?_append_right (by simp[hlen]),show (l++[T]).length - (a++[v]).length=0 by simp[hlen]];rfl
      have cA:((a++[v]++[oc]).length:Int)=((l++[T]).length:Int)+1:=by simp[hlen];omega
      rw[A.bz (show b6 _ from by unfold b6;simp only[hM,List.length_append,List.length_singleton];omega)];simp only[ate,cA,Qt t',aY];rw[A.bz (by simp;omega)];simp[A.kA,aar]
     ·have atf:Y=X:=QE af;rw[if_pos (by simpa using af),atf,Qt t'];simp[A.kA]
    ·rw[if_pos (by rw[Bool.not_eq_true]at M;rw[M];rfl),A.aH]
  ·rfl
  ·intro i G s aD;have hw:=bC (n:=(i:Int)+1) (by omega) (by omega);refine⟨?_,λbe cW=>?_⟩
   ·simp only[bW,cZ G,if_true,dm G,cL G,A.br,cm,hw];by_cases aa:th cs[i]=true
    ·rw[if_pos aa];unfold th at aa;rw[if_pos aa];simp[A.bz]
    ·rw[if_neg aa];have aA:cs[i]<2 ^ 63:=by simp only[th,Bool.or_eq_true,decide_eq_true_eq]at aa;omega
     have aK:=E2 (n:=cs[i]) (by simp only[th,Bool.or_eq_true,decide_eq_true_eq]at aa;omega);unfold th at aa;rw[if_neg aa,show yK.sh cs[i]=A.pure (iP cs[i]) from A.bR aA _,A.aH,A.bz (gv (by simp only[hM];omega)),A.bz (gv (by simp only[hM];omega))];simp[A.bz]
   ·split at cW
    ·cases cW
    ·rename_i aa;simp only[W.next.injEq]at cW;subst cW;have aK:=E2 (n:=cs[i]) (by simp only[th,Bool.or_eq_true,decide_eq_true_eq]at aa;omega);simp only[List.length_append,List.length_cons,List.length_nil];omega
  ·intro s aD;simp
 ·rw[if_pos (by simp only[Bool.or_eq_true,decide_eq_true_eq,bW];omega),A.aH]
theorem atg{P:Program}{k:FuncId}{ts aR:ad}{sh:ts.aj->A aR.aj}(aK:aR.pure=true)(h:gU P k ts aR sh):gU P k ts aR sh/\Fh P k ts aR sh:=
 ⟨h,⟨λF w args x E U ah aZ=>(h.iw F w args x E U ah aZ).mono λe w' ⟨v,y,ay,aN,⟨aE,cA,ea⟩,dU⟩=>⟨v,y,ay,aN,⟨aE,cA,KE aK ea⟩,dU⟩⟩⟩
end Go.Fer.au
namespace Go.Fer.og
open Go.Proofs Go.Proofs.Tryz
open A (W)
set_option maxRecDepth 100000
noncomputable section
abbrev L:cy:=.eN
abbrev S(a b:cy):cy:=.seq a b
abbrev ca:cy:=S L L
abbrev C(a b:cy):cy:=.cond a b
abbrev B(a:cy):cy:=.block a
abbrev J(s:List (Nat×bY))(b:List (Nat×b3))(x y:cy):cy:=.join ⟨s,b⟩ x y
abbrev au(s:List (Nat×bY))(b:List (Nat×b3))(x:cy):cy:=.loop ⟨s,b⟩ x
abbrev cf(s:List (Nat×bY))(b:List (Nat×b3))(t:List (Nat×bY))(c:List (Nat×b3))(u:List (Nat×bY))(d:List (Nat×b3))(x y:cy):cy:=.range ⟨s,b⟩ ⟨t,c⟩ ⟨u,d⟩ x y
abbrev v2:bY:=.val t2
abbrev a2:b3:=.bf t2
abbrev v4:bY:=.val t4
abbrev v9:bY:=.val t9
abbrev a9:b3:=.bf t9
abbrev v22:bY:=.val t22
abbrev rV:bY:=.val DE
abbrev ti:bY:=.val Hm
abbrev QG:b3:=.whole um
abbrev en:bY:=.val eZ
abbrev E5:b3:=.bf eZ
abbrev v28:bY:=.val t28
abbrev By:bY:=.val Hn
abbrev pT:bY:=.val Am
abbrev yM:b3:=.whole t32
abbrev nA:bY:=.val qo
abbrev pU:bY:=.val n1
abbrev aa1:b3:=.whole M_
abbrev JH:b3:=.whole tm
abbrev yN:b3:=.whole o2
abbrev QH:b3:=.bf Al
abbrev pV:bY:=.val uZ
abbrev JI:b3:=.bf xQ
abbrev QI:b3:=.whole xQ
abbrev ath:b3:=.bf qL
abbrev ati:b3:=.whole qL
abbrev Bz:b3:=.bf rr
abbrev atj:b3:=.whole rr
abbrev atk:b3:=.bf xS
abbrev aa2:b3:=.whole xS
abbrev aa3:bY:=.val Na
abbrev BA:b3:=.whole qp
abbrev aa4:bY:=.val U0
abbrev BB:bY:=.val DF
abbrev aa5:bY:=.val ja
abbrev wF:b3:=.bf ja
abbrev QJ:bY:=.val vy
abbrev aa6:bY:=.val U1
abbrev aa7:bY:=.val pv
abbrev E6:b3:=.bf pv
abbrev atl:bY:=.val U2
abbrev aa8:bY:=.val Nc
abbrev aa9:bY:=.val Nd
abbrev gS:b3:=.bf qq
abbrev yO:b3:=.whole qq
abbrev QK:bY:=.val Nf
abbrev kG:bY:=.val oJ
abbrev atm:bY:=.val U8
abbrev aa_:b3:=.whole M'
abbrev QL:b3:=.bf Aj
abbrev aa':b3:=.whole Aj
abbrev QM:bY:=.val Hl
abbrev aba:b3:=.bf xR
abbrev atn:b3:=.bf Ak
abbrev abb:b3:=.whole Ak
abbrev ato:bY:=.val U9
abbrev QN:bY:=.val Nh
abbrev v228:bY:=.val t228
abbrev atp:bY:=.val Va
abbrev atq:bY:=.val Vb
abbrev atr:bY:=.val Vc
abbrev BC:bY:=.val Vd
abbrev ats:bY:=.val Ve
abbrev att:bY:=.val Vf
abbrev JJ:bY:=.val DH
abbrev nn:List (Nat×bY):=[(6,.a7 17 0),(56,.hG [30000,30001,30002,30003,30004,30005,30006,30007,30008,30009]),(57,v2)]
abbrev nB:List (Nat×bY):=[(1,.a7 1 0)]
abbrev abc:List (Nat×bY):=[(1,.a7 1 0),(2,.a7 2 0),(3,.a7 1 0),(38,v2),(39,v2)]
abbrev abd:List (Nat×bY):=[(2,.a7 2 0),(7,.a7 22 0),(8,.a7 8 0),(9,.a7 9 0),(10,.own 10),(11,.a7 11 0),(24,v22),(25,v2),(26,v2)]
abbrev abe:List (Nat×bY):=[(2,.a7 2 0),(3,.a7 3 0),(4,.own 4),(5,.own 5),(7,QJ),(8,v2),(9,v2),(23,v2),(29,QK),(30,v2),(31,v2)]
abbrev tj:List (Nat×bY):=[(1,.a7 1 0),(3,v2)]
abbrev abf:List (Nat×bY):=[(2,.a7 2 0),(7,.a7 30 0),(10,v2),(11,v2),(46,v2),(47,v2),(52,rV),(53,v2),(54,v2),(61,v2),(62,v2)]
abbrev atu:List (Nat×bY):=[(1,.a7 1 0),(2,.a7 2 0),(3,.a7 1 0),(5,.iT 22),(38,v2),(39,v2),(60,v2),(61,v2)]
abbrev abg:List (Nat×bY):=[(0,kG),(1,en),(2,v2),(3,.hf),(9,v2),(29,v28),(30,v2),(31,v2),(1000000,.aR eZ)]
abbrev abh:List (Nat×bY):=[(0,kG),(1,.own 200001),(2,pT),(3,v2),(4,.fH 100002),(16,nA),(17,v2),(18,v2)]
abbrev QO:List (Nat×bY):=[(1,.a7 1 0),(2,.a7 2 0)]
abbrev abi:List (Nat×bY):=[(2,.a7 2 0),(3,.a7 3 0),(4,.own 4),(5,.own 5),(7,QJ),(8,v2),(9,v2),(23,v2)]
abbrev abj:List (Nat×bY):=[(2,.a7 2 0),(7,.a7 30 0),(10,v2),(46,v2),(47,v2),(52,rV),(53,v2),(54,v2)]
abbrev abk:List (Nat×bY):=[(0,.hf),(2,.dV vy),(10,aa9),(11,v2),(1000000,.aR (.az ja t2))]
abbrev abl:List (Nat×bY):=[(2,v2),(6,.a7 6 0),(8,.a7 8 0),(9,v4),(17,aa8),(18,v2),(19,v2)]
abbrev abm:List (Nat×bY):=[(4,.a7 4 0),(5,.a7 5 0),(10,.fH 24),(28,QK),(29,v2),(30,v2)]
abbrev abn:List (Nat×bY):=[(2,.a7 2 0),(3,.a7 3 0),(4,.own 4),(5,.own 5),(7,QJ),(23,v2)]
abbrev abo:List (Nat×bY):=[(0,aa4),(1,v2),(2,v2),(3,v2),(9,v2),(18,en),(19,v2),(20,v2)]
abbrev BD:List (Nat×bY):=[(1,.a7 1 0),(5,v2)]
abbrev abp:List (Nat×bY):=[(1,v2),(6,kG),(8,.own 8),(9,.own 50260),(29,v2),(30,v2)]
abbrev abq:List (Nat×bY):=[(1,pV),(2,.a7 2 0),(5,v2),(6,v2),(7,v2),(8,v2),(10,v2)]
abbrev abr:List (Nat×bY):=[(1,atl),(4,.a7 4 0),(5,v4),(13,QK),(14,v2),(15,v2)]
abbrev abt:List (Nat×bY):=[(0,kG),(1,pT),(5,.own 50140),(6,v2),(16,v2),(17,v2)]
abbrev JK:List (Nat×bY):=[(1,.a7 1 0),(3,v2),(4,v2)]
abbrev JL:List (Nat×bY):=[(2,.a7 2 0),(3,.a7 3 0)]
abbrev QP:List (Nat×bY):=[(2,.a7 2 0),(3,.a7 3 0),(7,v2)]
abbrev jA:List (Nat×b3):=[(17,.cells DG [en,.own 30000,.own 30001,.own 30002,.own 30003,.own 30004,.own 30005,.own 30006,.own 30007,.own 30008,.own 30009]),(30000,gS),(30001,gS),(30002,gS),(30003,gS),(30004,gS),(30005,gS),(30006,gS),(30007,gS),(30008,gS),(30009,gS),(100000,.cells rs [nA,pU,en,nA,v2,v2,v2,v2,v2,v2,v2,pU,.own 100002]),(100002,E6)]
abbrev tk:List (Nat×b3):=[(12,yO),(17,.cells DG [en,.own 30000,.own 30001,.own 30002,.own 30003,.own 30004,.own 30005,.own 30006,.own 30007,.own 30008,.own 30009]),(30000,gS),(30001,gS),(30002,gS),(30003,gS),(30004,gS),(30005,gS),(30006,gS),(30007,gS),(30008,gS),(30009,gS),(100000,.cells rs [nA,pU,en,nA,v2,v2,v2,v2,v2,v2,v2,pU,.own 100002]),(100002,E6)]
abbrev JM:List (Nat×b3):=[(1,.cells t32 [.own 17,.own 22,v2,.own 27,.own 84,.own 87,.own 90,.own 93,v2]),(2,.cells t32 [.cS,.cS,v2,.cS,.cS,.cS,.cS,.cS,v2]),(17,QL),(22,aba),(27,QH),(84,a2),(87,atk),(90,ath),(93,Bz)]
abbrev abu:List (Nat×b3):=[(1,.cells t32 [.own 17,.own 22,v2,.own 27,en,v28,By,pT,v2]),(2,.cells t32 [.cS,.cS,v2,.cS,.cS,.cS,.cS,.cS,v2]),(17,QL),(22,.gh xR (.own 50530)),(27,QH),(50530,atn)]
abbrev wG:List (Nat×b3):=[(2,yM),(28,.mp rr t2),(30,.cells t222 [v22,rV,v2,ti,en,v28,By,pT,v2,.cS,.fH 28])]
abbrev abv:List (Nat×b3):=[(1,.cells t32 [.own 17,.own 22,v2,.own 27,en,v28,By,pT,v2]),(2,.cells t32 [.cS,.cS,v2,.cS,.cS,.cS,.cS,.cS,v2]),(17,QL),(22,aba),(27,QH)]
abbrev abw:List (Nat×b3):=[(4,a9),(5,.cells o2 [.cS,.cS,v2,.cS,.cS,.cS,.cS,.cS,v2,.cS,.cS,.cS,.cS,v2,v2,v2,v2,v2,v2,v2]),(50230,BA),(200001,a9)]
abbrev abx:List (Nat×b3):=[(4,a9),(5,.cells o2 [.cS,.cS,v2,.cS,.cS,.cS,.cS,.cS,v2,.cS,.cS,.cS,.cS,v2,v2,v2,v2,v2,v2,v2]),(50230,BA)]
abbrev BE:List (Nat×b3):=[(2,JH),(3,.gI t2),(4,a2),(5,a2)]
abbrev aby:List (Nat×b3):=[(2,yM),(28,.mp rr t2),(30,.cells t222 [v22,rV,v2,ti,en,v28,By,pT,v2,.own 109,.fH 28]),(109,JI)]
abbrev abz:List (Nat×b3):=[(28,.mp rr t2),(30,.cells t222 [v22,rV,v2,ti,en,v28,By,pT,v2,.own 109,.fH 28]),(109,JI)]
abbrev abA:List (Nat×b3):=[(100000,.cells rs [nA,pU,en,nA,v2,v2,v2,v2,v2,v2,v2,pU,.own 100002]),(100002,E6)]
abbrev nC:List (Nat×b3):=[(1,QG)]
abbrev oe:List (Nat×b3):=[(1,JH)]
abbrev abB:List (Nat×b3):=[(2,.gI um),(22,.cells xT [v22,rV,v2,ti,.own 61]),(61,E5)]
abbrev yP:List (Nat×b3):=[(2,QG),(3,QG)]
abbrev qK:List (Nat×b3):=[(1,yM)]
abbrev QQ:List (Nat×b3):=[(100002,.mp t2 t2),(200001,a2)]
abbrev E7:List (Nat×b3):=[(2,JH),(3,JH)]
abbrev E8:List (Nat×b3):=[(5,yM),(6,yM)]
abbrev bG:cy:=S L (C ca L)
abbrev eg:cy:=C L L
abbrev ay:cy:=S L eg
abbrev aN:cy:=S L ca
abbrev cA:cy:=S L (S eg (S (B ca) L))
abbrev l_:cy:=S L bG
abbrev ea:cy:=S L (S eg (S (B l_) L))
abbrev dU:cy:=S ay (S (B bG) L)
abbrev k5:cy:=S L (S L (S L (J QO abv (S L (B (au abc abv (S L (S eg (J abc abu (B (S L (S L (S (.nN 5 L) (S L (B (au atu abu cA))))))) (.Gp 22 L))))))) (S L (J QO JM (S L (B (au [(1,.a7 1 0),(2,.a7 2 0),(100,v2),(101,v2)] JM cA))) (J QO JM (S L (B (au [(1,.a7 1 0),(2,.a7 2 0),(119,v2),(120,v2)] JM cA))) ca))))))
abbrev tC:cy:=S L (J [(0,en),(1,v2)] [] ay (S L (J [(0,en),(6,v228)] [] ay (S L (S L (J [(7,.own 30)] [(30,a2)] (B (au [(7,.own 30),(8,v2)] [(30,a2)] (S ay (B L)))) ca))))))
abbrev abC:cy:=S L (S L (J [(4,.fH 12)] [(12,.mp t2 ja)] (S L (B (au [(4,.fH 12),(13,pU),(14,v2),(15,v2)] [(12,.mp t2 ja)] (S L (S eg (S (B (S L (S l_ L))) L)))))) (S L (J [(9,.own 9)] [(9,wF)] (S L (B (au [(4,.fH 12),(9,.own 9),(39,en),(40,v2),(41,v2)] [(9,wF),(12,.jh t2 ja)] cA))) ca))))
abbrev kH:cy:=S L (S bG ca)
abbrev yQ:cy:=S ay (S (B l_) L)
abbrev BF:cy:=S L (S L (S bG aN))
abbrev yR:cy:=B (S L (S L ay))
abbrev tl:cy:=S L aN
abbrev uX:cy:=S L tl
abbrev BG:cy:=S ay (S (B L) L)
abbrev abD:cy:=S L (J [] [] (S L (B (au [(0,en),(3,v2)] [] dU))) ca)
abbrev yS:cy:=B (S L ay)
abbrev abE:cy:=S L (B (au [(1,.a7 1 0),(4,v2)] qK dU))
abbrev abF:cy:=S L (S (S L (B (S L (C ca bG)))) ca)
abbrev k4:=cG.mk ⟨[(0,.a7 100000 0),(1,.val eZ)],[(100000,.whole qp)]⟩ ⟨[(0,.val t9)],[(100000,.whole qp)]⟩ [none] 2
def atv:=mk asU func276 (kW jW) (S L (J [] [] (S L (B (au [(0,ti),(1,ato),(7,v2),(8,v2)] [] ea))) ca)) (sL jW)
def atw:=mk atv func206 (jc jW) aN (sM jW)
def atx:=jQ atw [] func207 (we jW) 1 aN (Eu jW)
def aty:=lZ atx [(207,1)] func144 (jz jW) aN (Ev jW)
def atz:=mk aty func145 ct aN an_
def atA:=mk atz func266 yj aN aoa
def atB:=mk atA func267 oW aN an'
def atC:=mk atB func265 Iq aN aoh
def atD:=mk atC func292 (kW bx) (S L (J [] [] (S L (B (au [(0,en),(1,aa6),(7,v2),(8,v2)] [] ea))) ca)) (sL bx)
def atE:=mk atD func227 (jc bx) aN (sM bx)
def atF:=jQ atE [] func331 (we bx) 1 aN (Eu bx)
def atG:=lZ atF [(331,1)] func269 (jz bx) aN (Ev bx)
def atH:=mk atG func270 uF abD aod
def atI:=lZ atH [] func268 s3 aN aoi
def atJ:=mk atI func372 (kW qz) (S L (J [] [] (S L (B (au [(0,QM),(1,atr),(7,v2),(8,v2)] [] ea))) ca)) (sL qz)
def atK:=mk atJ func332 (jc qz) aN (sM qz)
def atL:=jQ atK [] func333 (we qz) 1 aN (Eu qz)
def atM:=lZ atL [(333,1)] func272 (jz qz) aN (Ev qz)
def atN:=jQ atM [] func271 A9 1 aN aoj
def atO:=mk atN func64 pI aN aob
def atP:=mk atO func65 rG aN aoc
def atQ:=jQ atP [] func273 A_ 1 aN aok
def atS:=mk atQ func373 (kW kD) (S L (J [] [] (S L (B (au [(0,v22),(1,ats),(7,v2),(8,v2)] [] ea))) ca)) (sL kD)
def atT:=mk atS func334 (jc kD) aN (sM kD)
def atU:=jQ atT [] func335 (we kD) 1 aN (Eu kD)
def atV:=lZ atU [(335,1)] func274 (jz kD) aN (Ev kD)
def atW:=mk atV func374 (kW kZ) (S L (J [] [] (S L (B (au [(0,rV),(1,att),(7,v2),(8,v2)] [] ea))) ca)) (sL kZ)
def atX:=mk atW func336 (jc kZ) aN (sM kZ)
def atY:=jQ atX [] func337 (we kZ) 1 aN (Eu kZ)
def atZ:=lZ atY [(337,1)] func275 (jz kZ) aN (Ev kZ)
def at0:=lZ atZ [(271,1),(273,1)] func205 s4 (S L (S L uX)) aol
def at1:=mk at0 func141 h2 (S L (S bG (S L (J [] [] (S L (B (au [(3,.fH 12),(14,ti),(15,v2),(16,v2)] [(12,.mp rr t2)] (S L (S eg (S (B (S L (S L (S l_ L)))) L)))))) ca)))) aop
def at2:=mk at1 func164 ct aN aoQ
def at3:=mk at2 func220 rJ aN aoS
def at4:=mk at3 func221 Ix (S L (J [] [] (S L (B (au [(0,en),(1,aa6),(7,en),(8,v2),(9,v2)] [] ea))) ca)) aoU
def at5:=jQ at4 [] func222 Ez 1 aN aoY (hc:=λx h=>by obtain⟨w,p,ar,_⟩:=h;exact sE ⟨⟨trivial,ru (congrArg (λo=>o.1) ar)⟩,ru (congrArg (λo=>o.2) ar)⟩)
def at6:=jQ at5 [(222,1)] func219 EA 1 aN aoZ (hc:=λx h=>by obtain⟨_,w,ar,_⟩:=h;exact sE ⟨trivial,ru ar⟩)
def at7:=mk at6 func224 rJ aN aoT
def aua:=lZ at7 [] func223 EB aN ao0
def aub:=jQ aua [] func225 EC 1 aN ao1 (hc:=λx h=>by obtain⟨w,ar,_⟩:=h;exact sE ⟨trivial,ru ar⟩)
def auc:=mk aub func226 ED aN ao2
def aud:=mk auc func293 (kW nk) (S L (J [] [] (S L (B (au [(0,v28),(1,atp),(7,v2),(8,v2)] [] ea))) ca)) (sL nk)
def aue:=mk aud func228 (jc nk) aN (sM nk)
def auf:=mk aue func294 (kW mE) (S L (J [] [] (S L (B (au [(0,By),(1,atm),(7,v2),(8,v2)] [] ea))) ca)) (sL mE)
def aug:=mk auf func229 (jc mE) aN (sM mE)
def auh:=mk aug func295 (kW pM) (S L (J [] [] (S L (B (au [(0,pT),(1,atq),(7,v2),(8,v2)] [] ea))) ca)) (sL pM)
def aui:=mk auh func230 (jc pM) aN (sM pM)
def auj:=lZ aui [(219,1),(225,1)] func171 Pm (S L (S L (S L uX))) ao3
def QR:=mk auj func100 pO (S L (S l_ (S bG ca))) ao4
def abG:cG:=⟨⟨[(0,.cS),(1,.val Ng)],[]⟩,⟨[(0,.own 50000)],[(50000,.bf t2)]⟩,[none],2,H.AD⟩
theorem auk:cO Tryz.prog dB 213 abG:=dY QR [] trivial func213 (S L (S (S L (B (cf [(2,.a7 2 0)] [(2,.cells eZ [.own 50000]),(50000,a2)] [(2,.a7 100002 0),(7,v2)] [(100002,.cells eZ [.own 150000]),(150000,a2)] [] [(100002,.cells eZ [.own 150000]),(150000,a2)] L (B L)))) ca)) H.alx
def abH:cG:=⟨⟨[(0,.val Ng)],[]⟩,⟨[(0,.own 50040)],[(50040,.bf t2)]⟩,[none],1,H.AD⟩
theorem aul:cO Tryz.prog dB 160 abH:=dY QR [(213,.eW abG)] ⟨auk,trivial⟩ func160 aN H.aly
def QS:=py QR mw [(160,.eW abH),(161,.eW QA)] ⟨aul,aaN,trivial⟩ func86 H.sN uX H.alz
def abI:cG:=⟨⟨[(0,.hf),(1,.dV Hp),(1000000,.aR t2)],[]⟩,⟨[(1000000,.aR t2)],[]⟩,[],2,H.N_⟩
theorem aum:cO Tryz.prog dB 277 abI:=dY (S:=H.N_) QS [] trivial func277 (S L (B (au [(0,.hf),(5,.j2 5),(1000000,.aR t2)] [(5,.cu t2 ja)] (S L (S eg yS))))) (λx=>A.le_refl _)
theorem aun:wO Tryz.prog 277 ⟨[Hp],t2,H.jS⟩:=M6 (c:=abI) aum mw (λx l L=>(l,x.getD [],(l,L,[],false),())) rfl (by decide) (by simp[gg])
 (λx l L i ai=>by
  obtain⟨T,aV⟩:=ai;obtain⟨m,hm,_⟩:=aV;subst hm;by_cases aX:i=0
  ·subst aX;exact .inr (.inr (.inl ⟨rfl,rfl⟩))
  ·by_cases E:i=1
   ·subst E;exact .inr (.inl ⟨by decide,by decide,_,_,rfl,rfl⟩)
   by_cases U:i=b5
   ·subst U;exact .inr (.inr (.inr ⟨rfl,rfl⟩))
   ·refine .inl ?_;exact (if_neg aX).trans ((if_neg E).trans (if_neg U)))
 rfl (λbm=>⟨_,_,_,_,rfl⟩) (λx l ai=>by
  obtain⟨T,aV⟩:=ai;obtain⟨m,hm,_⟩:=aV;subst hm;have h:=H.amx l m;refine⟨h.1,λbm fZ dG e7 p fk=>?_⟩;have e:aF.aR bm.1.1 t2 bm.1.2.1 bm.1.2.2.1 bm.1.2.2.2=.aR dG t2 e7 p false:=fk;injection e with ay aN cA ea dU
  rw[<-ea];exact h.2 bm fZ dU)
def auo:=py QS (QS.u [] [(277,⟨[Hp],t2,H.jS⟩)] ⟨aun,trivial⟩) [] trivial func210 H.x9 aN H.alC
def aup:=mk auo func154 H.AK abC H.alN
def auq:=mk aup func85 H.ct aN H.ak2
def aur:=mk auq func209 (H.kW H.hq) (S L (J [] [] (S L (B (au [(0,pU),(1,QN),(7,v2),(8,v2)] [] ea))) ca)) H.ala
def aus:=mk aur func151 (H.jc H.hq) aN H.alb
def aut:=mk aus func231 H.vJ (S L (J nB [(1,aa1)] (S L (B (au [(1,.a7 1 0),(13,.own 13),(14,v2),(15,v2)] [(1,aa1),(13,a2)] ea))) ca)) H.ak6
def auu:=mk aut func76 H.vI aN H.ak4
def auv:=mk auu func233 H.vK tl H.ak8
def auw:=jQ auv [] func232 H.D2 1 aN H.ak9
def auy:=mk auw func234 H.Az aN H.ak_
def auz:=lZ auy [(232,1)] func172 H.vM (S L (S bG (J nB oe (S L (B (au [(1,.a7 1 0),(38,nA),(39,v2),(40,v2)] oe ea))) (J nB oe (S L (B (au [(1,.a7 1 0),(57,nA),(58,v2),(59,v2)] oe ea))) tl)))) H.alE
def auA:=mk auz func101 H.h2 (S L (S bG (S l_ ca))) H.alP
def auB:=mk auA func46 au.qJ kH au.arG
def QT:=py auB mw [(256,.eW aaP)] ⟨asT,trivial⟩ func184 H.I8 (S L (S L (J [(0,BC),(3,v2)] [] (S L (B (au [(0,BC),(3,v2),(9,BC),(10,v2),(11,v2)] [] (S L (S eg (J [(0,BC),(3,v2),(9,BC),(10,v2),(11,v2)] [] yR L)))))) (S L (J [(6,.own 50240)] [(50240,wF)] (S L (B (au [(6,.own 50240),(25,BC),(26,v2),(27,v2)] [(50240,wF)] cA))) ca))))) H.aqA
def abJ:cG:=⟨⟨[(0,.val DF)],[]⟩,⟨[(0,.own 50240)],[(50240,.bf t3)]⟩,[none],1,H.I9⟩
theorem auC:cO Tryz.prog dB 185 abJ:=dY QT [(257,.eW aaO)] ⟨asS,trivial⟩ func185 (S L (S L (J [(0,BB),(3,v2)] [] (S L (B (au [(0,BB),(3,v2),(9,BB),(10,v2),(11,v2)] [] (S L (S eg (J [(0,BB),(3,v2),(9,BB),(10,v2),(11,v2)] [] yR L)))))) (S L (J [(6,.own 50240)] [(50240,a2)] (S L (B (au [(6,.own 50240),(25,BB),(26,v2),(27,v2)] [(50240,a2)] cA))) ca))))) H.aqB
def abK:cG:=⟨⟨[(0,.own 200001)],[(200001,.bf t3)]⟩,⟨[(0,.sub 200001)],[(200001,.bf t3)]⟩,[none],1,H.I'⟩
theorem auD:cO Tryz.prog dB 186 abK:=dY QT [] trivial func186 (S L (S bG (J [(0,.own 200001)] [(200001,a2)] (S L (B (au [(0,.own 200001),(3,v2)] [(200001,a2)] (S ay (J [(0,.own 200001),(3,v2)] [(200001,a2)] (B (S L (C (S L (J [(0,.own 200001),(3,v2)] [(200001,a2)] (S L (B (au [(0,.own 200001),(3,v2),(4,.sub 200001),(5,v2)] [(200001,a2)] (S ay (J [(0,.own 200001),(3,v2),(4,.sub 200001),(5,v2)] [(200001,a2)] (B bG) L))))) aN)) L))) L))))) ca))) H.aqH
def auE:=mk QT func187 H.EO kH H.aqP
def uY:=py auE mw [(161,.eW QA),(185,.eW abJ),(186,.eW abK)] ⟨aaN,auC,auD,trivial⟩ func117 H.Bp (S L (S l_ (S L (S L (S l_ (S L (S bG (S L BF)))))))) H.aqR
def auF:cG:=⟨⟨[(0,.val t22)],[]⟩,⟨[(0,.own 60)],[(60,.bf Aj)]⟩,[none],1,au.qI⟩
theorem auG:cO Tryz.prog dB 188 auF:=dY uY [] trivial func188 kH au.wB
abbrev QU:eV:=.ky (hk.ky (au.fQ kD).cY)
theorem abL:eV.ht Tryz.prog dB 188 QU:=yJ (sh:=(au.fQ kD).sh) auG (λx h=>⟨h,λbm fZ=>by have h:bm=_:=fZ;subst h;exact (A.gN).symm⟩)
def auH:cG:=⟨⟨[(0,.val DE)],[]⟩,⟨[(0,.own 60)],[(60,.bf xR)]⟩,[none],1,au.qI⟩
theorem auI:cO Tryz.prog dB 189 auH:=dY uY [] trivial func189 kH au.wB
abbrev QV:eV:=.ky (hk.ky (au.fQ kZ).cY)
theorem abM:eV.ht Tryz.prog dB 189 QV:=yJ (sh:=(au.fQ kZ).sh) auI (λx h=>⟨h,λbm fZ=>by have h:bm=_:=fZ;subst h;exact (A.gN).symm⟩)
def auJ:cG:=⟨⟨[(0,.val Hm)],[]⟩,⟨[(0,.own 60)],[(60,.bf Al)]⟩,[none],1,au.qI⟩
theorem auK:cO Tryz.prog dB 190 auJ:=dY uY [] trivial func190 kH au.wB
abbrev QW:eV:=.ky (hk.ky (au.fQ jW).cY)
theorem abN:eV.ht Tryz.prog dB 190 QW:=yJ (sh:=(au.fQ jW).sh) auK (λx h=>⟨h,λbm fZ=>by have h:bm=_:=fZ;subst h;exact (A.gN).symm⟩)
def QX:cG:=⟨⟨[(0,.val Hl)],[]⟩,⟨[(0,.own 60)],[(60,.bf Ak)]⟩,[none],1,au.qI⟩
theorem abO:cO Tryz.prog dB 191 QX:=dY uY [] trivial func191 kH au.wB
def abP:cG:=⟨⟨[(0,.val eZ)],[]⟩,⟨[(0,.own 60)],[(60,.bf t3)]⟩,[none],1,au.Jf⟩
theorem abQ:cO Tryz.prog dB 192 abP:=dY uY [] trivial func192 kH au.ari
abbrev QY:eV:=.ky (hk.ky H.oR.cY)
theorem abR:eV.ht Tryz.prog dB 192 QY:=yJ (sh:=H.oR.sh) abQ (λx h=>⟨h,λbm fZ=>by have h:bm=_:=fZ;subst h;exact (A.gN).symm⟩)
def auL:cG:=⟨⟨[(0,.val t28)],[]⟩,⟨[(0,.own 60)],[(60,.bf xS)]⟩,[none],1,au.qI⟩
theorem auM:cO Tryz.prog dB 193 auL:=dY uY [] trivial func193 kH au.wB
abbrev QZ:eV:=.ky (hk.ky (au.fQ nk).cY)
theorem abS:eV.ht Tryz.prog dB 193 QZ:=yJ (sh:=(au.fQ nk).sh) auM (λx h=>⟨h,λbm fZ=>by have h:bm=_:=fZ;subst h;exact (A.gN).symm⟩)
def auN:cG:=⟨⟨[(0,.val Hn)],[]⟩,⟨[(0,.own 60)],[(60,.bf qL)]⟩,[none],1,au.qI⟩
theorem auO:cO Tryz.prog dB 194 auN:=dY uY [] trivial func194 kH au.wB
abbrev JN:eV:=.ky (hk.ky (au.fQ mE).cY)
theorem Q0:eV.ht Tryz.prog dB 194 JN:=yJ (sh:=(au.fQ mE).sh) auO (λx h=>⟨h,λbm fZ=>by have h:bm=_:=fZ;subst h;exact (A.gN).symm⟩)
def auP:cG:=⟨⟨[(0,.val Am)],[]⟩,⟨[(0,.own 60)],[(60,.bf rr)]⟩,[none],1,au.qI⟩
theorem auQ:cO Tryz.prog dB 195 auP:=dY uY [] trivial func195 kH au.wB
abbrev Q1:eV:=.ky (hk.ky (au.fQ pM).cY)
theorem abT:eV.ht Tryz.prog dB 195 Q1:=yJ (sh:=(au.fQ pM).sh) auQ (λx h=>⟨h,λbm fZ=>by have h:bm=_:=fZ;subst h;exact (A.gN).symm⟩)
def abU:=py uY mw [(188,QU),(189,QV),(190,QW),(191,.eW QX),(192,QY),(193,QZ),(194,JN),(195,Q1)] ⟨abL,abM,abN,abO,abR,abS,Q0,abT,trivial⟩ func118 au.Ji k5 au.arn
def Q2:cG:=⟨⟨[(0,.val o2)],[]⟩,⟨[(0,.a7 17 0)],[(17,.whole qp)]⟩,[none],1,au.rD⟩
theorem abV:cO Tryz.prog dB 57 Q2:=dY abU [] trivial func57 tl au.OC
def E9:=mk abU func58 au.Bs aN au.arB
def JO:cG:=⟨⟨[(0,.a7 100000 0),(1,.val n1),(2,.val eZ)],[(100000,.whole qp)]⟩,⟨[(0,.val t9)],[(100000,.whole qp)]⟩,[none],3,au.Br⟩
theorem Q3:cO Tryz.prog dB 196 JO:=dY E9 [] trivial func196 BF au.aq0
def Q4:cG:=k4 (au.fw 5 au.PZ)
theorem auR:cO Tryz.prog dB 119 Q4:=dY E9 [(196,.eW JO)] ⟨Q3,trivial⟩ func119 aN au.aq1
def auS:cG:=k4 (au.fw 4 au.P0)
theorem auT:cO Tryz.prog dB 120 auS:=dY E9 [(196,.eW JO)] ⟨Q3,trivial⟩ func120 aN au.aq2
def auU:cG:=k4 (au.fw 1 au.P1)
theorem auV:cO Tryz.prog dB 121 auU:=dY E9 [(196,.eW JO)] ⟨Q3,trivial⟩ func121 aN au.OD
def auW:=mk E9 func339 H.HO aN H.ale
def auX:=mk auW func280 H.HP (S L (S L (S L (S (S L (C (S bG ca) L)) (S bG (S bG (S bG ca))))))) H.alf
def auY:=mk auX func279 H.l2 aN H.alg
def auZ:=mk auY func211 Ip (S L (J [] [] (S L (B (au [(0,en),(1,v2),(7,v2),(8,v2)] [] ea))) ca)) aof
def au0:=mk auZ func157 oQ aN aog
def E_:=jQ au0 [] func156 H.AS 1 aN H.OD
abbrev yT:=Ao (aji E_) [(156,1)] []
def abW:cG:=⟨⟨[(0,.val n1)],[]⟩,⟨[(0,.own 9),(1,.val t4)],[(9,.bf ja)]⟩,[none,none],1,H.HW⟩
theorem au1:cO Tryz.prog yT 154 abW:=dY E_ [] trivial func154 abC H.alO
def abX:cG:=⟨⟨[(0,.own 200001),(1,.val Nh)],[(200001,.bf ja)]⟩,⟨[(0,.sub 200001)],[(200001,.bf ja)]⟩,[none],2,H.HY⟩
theorem au2:cO Tryz.prog yT 155 abX:=dY E_ [] trivial func155 (S L (S L (S bG (J [(0,.own 200001),(5,v2)] [(200001,wF)] (S L (B (au [(0,.own 200001),(1,QN),(5,v2),(6,v2)] [(200001,wF)] (S ay (J [(0,.own 200001),(1,QN),(5,v2),(6,v2)] [(200001,wF)] (B l_) L))))) aN)))) H.alQ
def au3:=mk E_ func192 H.oR kH H.alc
def au4:=mk au3 func291 H.Oc (S L (J [(0,v228),(2,v2)] [] bG (J [(0,v228),(2,v2)] [] bG (J [(0,v228),(2,v2)] [] bG ca)))) H.alh
def BH:=mk au4 func215 H.Od (S L (S (C ca L) ca)) (H.ali (λ_=>A.fail))
def abY:cG:=⟨⟨[(0,.own 200001),(1,.val t2),(2,.val t2),(3,.val DH)],[(200001,.bf qq)]⟩,⟨[],[(200001,.bf qq)]⟩,[],4,H.HR⟩
theorem au5:cO Tryz.prog yT 375 abY:=dY BH [] trivial func375 (S L (B (au [(0,.own 200001),(1,v2),(2,v2),(3,JJ),(8,v2)] [(200001,gS)] (S ay (J [(0,.own 200001),(1,v2),(2,v2),(3,JJ),(8,v2)] [(200001,gS)] (B (S L (B (au [(0,.own 200001),(1,v2),(2,v2),(3,JJ),(8,v2),(9,v2)] [(200001,gS)] BG)))) L))))) H.als
def abZ:cG:=⟨⟨[(0,.own 200001),(1,.val t2),(2,.val t2),(3,.val t2),(4,.val DH)],[(200001,.bf qq)]⟩,⟨[],[(200001,.bf qq)]⟩,[],5,H.HT⟩
theorem au6:cO Tryz.prog yT 338 abZ:=dY BH [(375,.eW abY)] ⟨au5,trivial⟩ func338 (S L (S L (B (au [(0,.own 200001),(1,v2),(2,v2),(3,v2),(4,JJ),(10,v4),(11,v4)] [(200001,gS)] (B (S L (S bG L))))))) H.alu
def ab0:cG:=⟨⟨[(0,.own 200001),(1,.val DH)],[(200001,.bf qq)]⟩,⟨[],[(200001,.bf qq)]⟩,[],2,H.AB⟩
theorem au7:cO Tryz.prog yT 278 ab0:=dY BH [(338,.eW abZ)] ⟨au6,trivial⟩ func278 ca H.alw
def ab1:cG:=⟨⟨[(0,.a7 100000 0),(1,.val eZ)],[(100000,.cells rs [.val qo,.val n1,.val eZ,.val qo,.val t2,.val t2,.val t2,.val t2,.val t2,.val t2,.val t2,.val n1,.own 100002]),(100002,.bf pv)]⟩,⟨[(0,.val pv),(1,.val t4)],[(100000,.cells rs [.val qo,.val n1,.val eZ,.val qo,.val t2,.val t2,.val t2,.val t2,.val t2,.val t2,.val t2,.val n1,.own 100002]),(100002,.bf pv)]⟩,[none,none],2,H.rD⟩
theorem au8:cO Tryz.prog yT 212 ab1:=dY BH [(278,.eW ab0)] ⟨au7,trivial⟩ func212 (S L (J [(0,.a7 100000 0),(1,en),(6,.a7 17 0)] [(17,.cells DG [en,.own 30000,.own 30001,.own 30002,.own 30003,.own 30004,.own 30005,.own 30006,.own 30007,.own 30008,.own 30009]),(100000,.cells rs [nA,pU,en,nA,v2,v2,v2,v2,v2,v2,v2,pU,.own 100002]),(100002,E6),(30000,gS),(30001,gS),(30002,gS),(30003,gS),(30004,gS),(30005,gS),(30006,gS),(30007,gS),(30008,gS),(30009,gS)] L (J [(6,.a7 17 0)] jA (S L (B (au [(1,en),(6,.a7 17 0),(21,pU),(22,v2),(23,v2)] jA (S L (S eg (J [(1,en),(6,.a7 17 0),(21,pU),(22,v2),(23,v2)] jA (B (S L (.split 8 4 10 L))) L)))))) (J [(6,.a7 17 0)] jA (S L (B (.nS (.num 57 0 (S L (S eg (J nn jA (B (S L (S L (S L (B (au [(6,.a7 17 0),(10,.own 30000),(56,.hG [30000,30001,30002,30003,30004,30005,30006,30007,30008,30009]),(57,v2),(62,.own 30000),(63,v2),(64,v2)] jA (S L (S eg (S (B (S L (S L (J [(6,.a7 17 0),(10,.own 30000),(11,v2),(12,.a7 12 0),(13,v2),(56,.hG [30000,30001,30002,30003,30004,30005,30006,30007,30008,30009]),(57,v2),(62,.own 30000),(63,v2),(64,v2)] tk ay bG)))) L))))))))) L)))) (.nS (.num 57 1 (S L (S eg (J nn jA (B (S L (S L (S L (B (au [(6,.a7 17 0),(10,.own 30001),(56,.hG [30000,30001,30002,30003,30004,30005,30006,30007,30008,30009]),(57,v2),(62,.own 30001),(63,v2),(64,v2)] jA (S L (S eg (S (B (S L (S L (J [(6,.a7 17 0),(10,.own 30001),(11,v2),(12,.a7 12 0),(13,v2),(56,.hG [30000,30001,30002,30003,30004,30005,30006,30007,30008,30009]),(57,v2),(62,.own 30001),(63,v2),(64,v2)] tk ay bG)))) L))))))))) L)))) (.nS (.num 57 2 (S L (S eg (J nn jA (B (S L (S L (S L (B (au [(6,.a7 17 0),(10,.own 30002),(56,.hG [30000,30001,30002,30003,30004,30005,30006,30007,30008,30009]),(57,v2),(62,.own 30002),(63,v2),(64,v2)] jA (S L (S eg (S (B (S L (S L (J [(6,.a7 17 0),(10,.own 30002),(11,v2),(12,.a7 12 0),(13,v2),(56,.hG [30000,30001,30002,30003,30004,30005,30006,30007,30008,30009]),(57,v2),(62,.own 30002),(63,v2),(64,v2)] tk ay bG)))) L))))))))) L)))) (.nS (.num 57 3 (S L (S eg (J nn jA (B (S L (S L (S L (B (au [(6,.a7 17 0),(10,.own 30003),(56,.hG [30000,30001,30002,30003,30004,30005,30006,30007,30008,30009]),(57,v2),(62,.own 30003),(63,v2),(64,v2)] jA (S L (S eg (S (B (S L (S L (J [(6,.a7 17 0),(10,.own 30003),(11,v2),(12,.a7 12 0),(13,v2),(56,.hG [30000,30001,30002,30003,30004,30005,30006,30007,30008,30009]),(57,v2),(62,.own 30003),(63,v2),(64,v2)] tk ay bG)))) L))))))))) L)))) (.nS (.num 57 4 (S L (S eg (J nn jA (B (S L (S L (S L (B (au [(6,.a7 17 0),(10,.own 30004),(56,.hG [30000,30001,30002,30003,30004,30005,30006,30007,30008,30009]),(57,v2),(62,.own 30004),(63,v2),(64,v2)] jA (S L (S eg (S (B (S L (S L (J [(6,.a7 17 0),(10,.own 30004),(11,v2),(12,.a7 12 0),(13,v2),(56,.hG [30000,30001,30002,30003,30004,30005,30006,30007,30008,30009]),(57,v2),(62,.own 30004),(63,v2),(64,v2)] tk ay bG)))) L))))))))) L)))) (.nS (.num 57 5 (S L (S eg (J nn jA (B (S L (S L (S L (B (au [(6,.a7 17 0),(10,.own 30005),(56,.hG [30000,30001,30002,30003,30004,30005,30006,30007,30008,30009]),(57,v2),(62,.own 30005),(63,v2),(64,v2)] jA (S L (S eg (S (B (S L (S L (J [(6,.a7 17 0),(10,.own 30005),(11,v2),(12,.a7 12 0),(13,v2),(56,.hG [30000,30001,30002,30003,30004,30005,30006,30007,30008,30009]),(57,v2),(62,.own 30005),(63,v2),(64,v2)] tk ay bG)))) L))))))))) L)))) (.nS (.num 57 6 (S L (S eg (J nn jA (B (S L (S L (S L (B (au [(6,.a7 17 0),(10,.own 30006),(56,.hG [30000,30001,30002,30003,30004,30005,30006,30007,30008,30009]),(57,v2),(62,.own 30006),(63,v2),(64,v2)] jA (S L (S eg (S (B (S L (S L (J [(6,.a7 17 0),(10,.own 30006),(11,v2),(12,.a7 12 0),(13,v2),(56,.hG [30000,30001,30002,30003,30004,30005,30006,30007,30008,30009]),(57,v2),(62,.own 30006),(63,v2),(64,v2)] tk ay bG)))) L))))))))) L)))) (.nS (.num 57 7 (S L (S eg (J nn jA (B (S L (S L (S L (B (au [(6,.a7 17 0),(10,.own 30007),(56,.hG [30000,30001,30002,30003,30004,30005,30006,30007,30008,30009]),(57,v2),(62,.own 30007),(63,v2),(64,v2)] jA (S L (S eg (S (B (S L (S L (J [(6,.a7 17 0),(10,.own 30007),(11,v2),(12,.a7 12 0),(13,v2),(56,.hG [30000,30001,30002,30003,30004,30005,30006,30007,30008,30009]),(57,v2),(62,.own 30007),(63,v2),(64,v2)] tk ay bG)))) L))))))))) L)))) (.nS (.num 57 8 (S L (S eg (J nn jA (B (S L (S L (S L (B (au [(6,.a7 17 0),(10,.own 30008),(56,.hG [30000,30001,30002,30003,30004,30005,30006,30007,30008,30009]),(57,v2),(62,.own 30008),(63,v2),(64,v2)] jA (S L (S eg (S (B (S L (S L (J [(6,.a7 17 0),(10,.own 30008),(11,v2),(12,.a7 12 0),(13,v2),(56,.hG [30000,30001,30002,30003,30004,30005,30006,30007,30008,30009]),(57,v2),(62,.own 30008),(63,v2),(64,v2)] tk ay bG)))) L))))))))) L)))) (.nS (.num 57 9 (S L (S eg (J nn jA (B (S L (S L (S L (B (au [(6,.a7 17 0),(10,.own 30009),(56,.hG [30000,30001,30002,30003,30004,30005,30006,30007,30008,30009]),(57,v2),(62,.own 30009),(63,v2),(64,v2)] jA (S L (S eg (S (B (S L (S L (J [(6,.a7 17 0),(10,.own 30009),(11,v2),(12,.a7 12 0),(13,v2),(56,.hG [30000,30001,30002,30003,30004,30005,30006,30007,30008,30009]),(57,v2),(62,.own 30009),(63,v2),(64,v2)] tk ay bG)))) L))))))))) L)))) (.nS (.num 57 10 (S L (S eg L))) L))))))))))))) ca)))) H.OC
def Q5(f:Nat):cG:=⟨⟨[(0,.a7 100000 0),(1,.val eZ)],[(100000,.cells rs [.val qo,.val n1,.val eZ,.val qo,.val t2,.val t2,.val t2,.val t2,.val t2,.val t2,.val t2,.val n1,.own 100002]),(100002,.bf pv)]⟩,⟨[],[(100000,.cells rs [.val qo,.val n1,.val eZ,.val qo,.val t2,.val t2,.val t2,.val t2,.val t2,.val t2,.val t2,.val n1,.own 100002]),(100002,.bf pv)]⟩,[],2,H.yb f⟩
theorem ab2:∀f,cO Tryz.prog yT 158 (Q5 f)
 |0=>Nk func158 H.amn
 |f+1=>dY BH [(158,.eW (Q5 f)),(212,.eW ab1)] ⟨ab2 f,au8,trivial⟩ func158 (S L (S (S L (C (J [] abA (S L ay) L) L)) (S L (B (au [(0,.a7 100000 0),(1,en),(4,v2),(7,v2)] abA BG))))) (H.amq f)
def au9:=py BH (E_.u [(156,1)] [] trivial) [(154,.eW abW),(155,.eW abX),(158,.eW (Q5 5))] ⟨au1,au2,ab2 5,trivial⟩ func74 H.vT (S L (S l_ (S L (S L (S L (J [(7,.a7 15 0)] [(15,.cells rs [nA,pU,en,nA,v2,v2,v2,v2,v2,v2,v2,.sub 50200,.own 30000]),(50200,wF),(30000,E6)] bG kH)))))) H.amu
def au_:=mk au9 func77 H.AT (S L (J [(4,.a7 4 0),(5,v4)] [(4,QI)] (S L (B (au abr [(4,QI)] (S L (S eg (J abr [(4,QI)] (B (S L (S L (B (S L (C L ay)))))) L)))))) ca)) H.amv
def au':=jQ au_ [] func152 H.AY 1 aN H.amP
def ava:=jQ au' [(152,1)] func150 H.ON 1 aN H.amQ (hc:=λx h=>by obtain⟨_,f,ar,_⟩:=h;exact sE ⟨trivial,ru ar⟩)
def Q6:=mk ava func89 H.vQ (S L (S L (J [(7,v2)] [] (S L (B (au [(1,v2),(2,v2),(7,v2),(14,nA),(15,v2),(16,v2)] [] cA))) ca))) H.alZ
def ab3:cG:=⟨⟨[(0,.hf),(1,.dV pv),(2,.dV vy),(1000000,.aR (.az ja t2))],[]⟩,⟨[(1000000,.aR (.az ja t2))],[]⟩,[],3,(H.HI H.vQ.sh)⟩
theorem avb:cO Tryz.prog dB 159 ab3:=dY (S:=(H.HI H.vQ.sh)) Q6 [] trivial func159 (S L (B (au abk [] (S L (S eg (J abk [] (B (S L (S L (B (au [(0,.hf),(2,.dV vy),(5,aa8),(6,v2),(10,aa9),(11,v2),(1000000,.aR (.az ja t2))] [] (S ay (S (B ay) L))))))) L)))))) (λx=>A.le_refl _)
theorem avc:wO Tryz.prog 159 ⟨[pv,vy],(.az ja t2),H.sY⟩:=M6 (c:=ab3) avb mw (λx l L=>(l,x.1.getD none,x.2.getD none,(l,L,[],false),())) rfl (by decide) (by simp[gg])
 (λx l L i ai=>by
  obtain⟨T,aV⟩:=ai;obtain⟨t,b,E,U,ao,_⟩:=aV;obtain⟨w1,wZ⟩:=x;change w1=some (some t) at E;change wZ=some (some b) at U;subst E;subst U;by_cases aX:i=0
  ·subst aX;exact .inr (.inr (.inl ⟨rfl,rfl⟩))
  ·by_cases E:i=1
   ·subst E;exact .inr (.inl ⟨by decide,by decide,_,_,rfl,rfl⟩)
   by_cases ah:i=2
   ·subst ah;exact .inr (.inl ⟨by decide,by decide,_,_,rfl,rfl⟩)
   by_cases U:i=b5
   ·subst U;exact .inr (.inr (.inr ⟨rfl,rfl⟩))
   ·refine .inl ?_;exact (if_neg aX).trans ((if_neg E).trans ((if_neg ah).trans (if_neg U))))
 rfl (λbm=>⟨_,_,_,_,rfl⟩) (λx l ai=>by
  obtain⟨T,aV⟩:=ai;obtain⟨t,b,E,U,ao,_⟩:=aV;obtain⟨w1,wZ⟩:=x;change w1=some (some t) at E;change wZ=some (some b) at U;subst E;subst U;have h:=H.amA l t b ao;refine⟨h.1,λbm fZ dG e7 p fk=>?_⟩;have e:aF.aR bm.1.1 (.az ja t2) bm.1.2.1 bm.1.2.2.1 bm.1.2.2.2=.aR dG (.az ja t2) e7 p false:=fk;injection e with ay aN cA ea dU
  rw[<-ea];exact h.2 bm fZ dU)
def avd:=py Q6 (Q6.u [] [(159,⟨[pv,vy],(.az ja t2),H.sY⟩)] ⟨avc,trivial⟩) [] trivial func79 H.AU aN H.amE
def ave:=jQ avd [] func153 H.OO 1 (S L (S (S L (B (cf [(2,.dV t2),(3,.dV Nb),(5,.a7 5 0),(6,.a7 6 0)] [(5,.cells t2 [v2]),(6,.cells t4 [v4])] [(2,.dV t2),(3,.dV Nb),(5,.a7 100005 0),(6,.a7 100006 0),(12,aa5),(13,v2)] [(100005,.cells t2 [v2]),(100006,.cells t4 [v4])] [] [(100005,.cells t2 [v2]),(100006,.cells t4 [v4])] ca (B bG)))) ca)) H.amR (hc:=λx h=>by obtain⟨_,_,_,_,rfl,_⟩:=h;exact sE ⟨⟨⟨trivial,rfl⟩,rfl⟩,rfl⟩)
def avf:=lZ ave [(150,1),(153,1)] func70 H.AZ (S L (S L (S bG kH))) H.amS
def avg:=mk avf func71 H.yd aN H.amT
def avh:=lZ avg [] func34 H.H6 aN H.amU
def avi:=mk avh func199 au.yD (S L (S bG (S L (J [(3,.own 3)] [(3,a9)] (S L (B (au [(3,.own 3),(9,en),(10,v2),(11,v2)] [(3,a9)] cA))) ca)))) au.aqX
def avj:=mk avi func198 au.qH abF au.aqY
def ab4:=mk avj func197 au.yE aN au.aqZ
def avk:cG:=k4 (au.fw 1 au.P2)
theorem avl:cO Tryz.prog dB 122 avk:=dY ab4 [] trivial func122 aN au.aq3
def avm:=mk ab4 func73 H.vR kH H.al1
def avn:=jQ avm [] func72 H.ye 1 aN H.amV
def ab5:=lZ avn [(72,1)] func35 H.H8 aN H.amX
def avo:cG:=k4 (au.fw 1 au.P3)
theorem avp:cO Tryz.prog dB 123 avo:=dY ab5 [] trivial func123 aN au.aq4
def avq:=jQ ab5 [] func75 H.OP 1 aN H.amY
def avr:=jQ avq [] func78 H.OQ 1 (S L (S L (S (S L (B (cf [(2,.dV t2),(3,.dV tm),(7,.a7 7 0)] [(7,.cells t2 [v2])] [(2,.dV t2),(3,.dV tm),(7,.a7 100007 0),(13,aa5),(14,v2)] [(100007,.cells t2 [v2])] [] [(100007,.cells t2 [v2])] ca (B ay)))) ca))) H.amZ (hc:=λx h=>by obtain⟨_,_,_,_,rfl,_⟩:=h;exact sE ⟨⟨⟨trivial,rfl⟩,rfl⟩,rfl⟩)
def ab6:=lZ avr [(75,1),(78,1)] func36 H.H_ BF H.am2
def avt:cG:=k4 (au.fw 1 au.P4)
theorem avu:cO Tryz.prog dB 124 avt:=dY ab6 [] trivial func124 aN au.aq5
def avv:=mk ab6 func81 H.x7 aN H.ak3
def avw:=jQ avv [] func80 H.A0 1 aN H.Yb
def avx:=mk avw func83 H.yf (S L (S L (S L (J [(6,.a7 6 0),(8,.a7 8 0),(9,v4)] [(6,yO),(8,yO)] (S L (B (au abl [(6,yO),(8,yO)] (S L (S eg (J abl [(6,yO),(8,yO)] yS L)))))) ca)))) H.am4
def avy:=jQ avx [] func82 H.OU 1 (S L (S L (J [(6,v2)] [] (S L (B (au [(0,aa7),(1,.dV t2),(2,.dV tm),(6,v2),(10,v2)] [] (S L (S eg (J [(0,aa7),(1,.dV t2),(2,.dV tm),(6,v2),(10,v2)] [] yR L)))))) ca))) H.am7 (hc:=λx h=>by obtain⟨_,_,_,rfl,_⟩:=h;exact sE ⟨⟨trivial,rfl⟩,rfl⟩)
def ab7:=lZ avy [(80,1),(82,1)] func37 H.Ib BF H.am9
def avz:cG:=k4 (au.fw 1 au.P5)
theorem avA:cO Tryz.prog dB 125 avz:=dY ab7 [] trivial func125 aN au.aq6
def Q7:=jQ ab7 [] func84 H.OX 1 aN H.anb (hc:=λx h=>by obtain⟨a,b,ar⟩:=h;exact sE ⟨⟨trivial,ru (congrArg (λo=>o.1) ar)⟩,ru (congrArg (λo=>o.2) ar)⟩)
def ab8:cG:=⟨⟨[(0,.hf),(1,.dV Ho),(1000000,.aR t2)],[]⟩,⟨[(1000000,.aR t2)],[]⟩,[],2,H.N9⟩
theorem avB:cO Tryz.prog dB 162 ab8:=dY (S:=H.N9) Q7 [] trivial func162 (S L (B (au [(0,.hf),(5,.j2 5),(1000000,.aR t2)] [(5,.cu t2 t2)] (S L (S eg yS))))) (λx=>A.le_refl _)
theorem avC:wO Tryz.prog 162 ⟨[Ho],t2,H.jS⟩:=M6 (c:=ab8) avB mw (λx l L=>(l,x.getD [],(l,L,[],false),())) rfl (by decide) (by simp[gg])
 (λx l L i ai=>by
  obtain⟨T,aV⟩:=ai;obtain⟨m,hm,_⟩:=aV;subst hm;by_cases aX:i=0
  ·subst aX;exact .inr (.inr (.inl ⟨rfl,rfl⟩))
  ·by_cases E:i=1
   ·subst E;exact .inr (.inl ⟨by decide,by decide,_,_,rfl,rfl⟩)
   by_cases U:i=b5
   ·subst U;exact .inr (.inr (.inr ⟨rfl,rfl⟩))
   ·refine .inl ?_;exact (if_neg aX).trans ((if_neg E).trans (if_neg U)))
 rfl (λbm=>⟨_,_,_,_,rfl⟩) (λx l ai=>by
  obtain⟨T,aV⟩:=ai;obtain⟨m,hm,_⟩:=aV;subst hm;have h:=H.amw l m;refine⟨h.1,λbm fZ dG e7 p fk=>?_⟩;have e:aF.aR bm.1.1 t2 bm.1.2.1 bm.1.2.2.1 bm.1.2.2.2=.aR dG t2 e7 p false:=fk;injection e with ay aN cA ea dU
  rw[<-ea];exact h.2 bm fZ dU)
def avD:=py Q7 (Q7.u [] [(162,⟨[Ho],t2,H.jS⟩)] ⟨avC,trivial⟩) [] trivial func87 H.HU aN H.alB
def ab9:=lZ avD [(84,1)] func38 H.Ic (S L (S L (S bG (S L (J [(10,.fH 24)] [(24,.mp t2 t2)] (S L (B (au abm [(4,.gI t2),(5,.gI t2),(24,.mp t2 t2)] (S L (S eg (J abm [(4,.gI t2),(5,.gI t2),(24,.mp t2 t2)] yR L)))))) ca))))) H.anc
def avE:cG:=k4 (au.fw 2 au.P7)
theorem avF:cO Tryz.prog dB 126 avE:=dY ab9 [] trivial func126 (S L (S L (S bG (S bG ca)))) au.aq9
def avG:=jQ ab9 [] func88 H.A0 1 aN H.am6
def ab_:=lZ avG [(88,1)] func39 H.Ie (S L (S L (S bG (J [(4,.own 4),(5,.own 5)] [(4,a2),(5,a2)] (S L (B (au abn BE (S L (S eg (J abn BE (B (S L (S L (J abi BE (S L (B (au abe BE (S L (S eg (J abe BE yR L)))))) (J abi BE ay ay))))) L)))))) ca)))) H.ani
def avH:cG:=k4 (au.fw 1 au.P9)
theorem avI:cO Tryz.prog dB 127 avH:=dY ab_ [] trivial func127 (S L kH) au.aq'
def avJ:=mk ab_ func143 Es tl aor
def avK:=jQ avJ [] func142 yk 1 aN aos (hc:=λx h=>by obtain⟨i,w,n,ar,_⟩:=h;exact sE ⟨⟨⟨trivial,ru (congrArg (λo=>o.1) ar)⟩,ru (congrArg (λo=>o.2.1) ar)⟩,ru (congrArg (λo=>o.2.2) ar)⟩)
def avL:=lZ avK [(142,1)] func63 A' (S L (S l_ (S bG (S L (J [(7,.a7 22 0)] [(22,.cells xT [v22,rV,v2,ti,.own 61]),(61,E5)] (S L (B (au [(2,.a7 2 0),(7,.a7 22 0),(24,v22),(25,v2),(26,v2)] abB (S L (S eg (J [(2,.a7 2 0),(7,.a7 22 0),(24,v22),(25,v2),(26,v2)] abB (B (S L (S L (J [(2,.a7 2 0),(7,.a7 22 0),(10,.own 10),(24,v22),(25,v2),(26,v2)] [(2,.gI um),(10,a2),(22,.cells xT [v22,rV,v2,ti,.own 61]),(61,E5)] (S L (B (au abd [(2,.gI um),(8,.gI t2),(9,aa'),(10,a2),(11,.cells t2 [v2]),(22,.cells xT [v22,rV,v2,ti,.own 61]),(61,E5)] (S ay (J abd [(2,.gI um),(8,.gI t2),(9,aa'),(10,a2),(11,.gI t2),(22,.cells xT [v22,rV,v2,ti,.own 61]),(61,E5)] yS (S ca L)))))) (S bG L))))) L)))))) ca))))) aox
def DT:=mk avL func24 yi BF aoF
def BI:cG:=⟨⟨[(0,.val t32)],[]⟩,⟨[(0,.val t22),(1,.val DE),(2,.val t2),(3,.own 28),(4,.own 11),(5,.own 16),(6,.own 20),(7,.own 24),(8,.val t2)],[(28,.bf Al),(11,.bf t2),(16,.bf xS),(20,.bf qL),(24,.bf rr)]⟩,[some 9],1,au.wC⟩
theorem E':cO Tryz.prog dB 118 BI:=dY DT [(188,QU),(189,QV),(190,QW),(191,.eW QX),(192,QY),(193,QZ),(194,JN),(195,Q1)] ⟨abL,abM,abN,abO,abR,abS,Q0,abT,trivial⟩ func118 k5 au.arl
def avM:cG:=k4 (au.fw 4 au.wz)
theorem avN:cO Tryz.prog dB 128 avM:=dY DT [(118,.eW BI)] ⟨E',trivial⟩ func128 (S L (S L (S L (S L (S bG (S l_ aN)))))) au.arq
def avO:=mk DT func146 Im abF aoy
def avP:=mk avO func66 Iu (S L (S L (J [(0,aa4),(1,v2),(9,v2)] [] (S L (B (au abo [] (S L (S eg (J abo [] yS L)))))) ca))) aoD
def rz:=mk avP func23 A8 (S L kH) aoH
def avQ:cG:=k4 (au.fw 3 au.P_)
theorem avR:cO Tryz.prog dB 129 avQ:=dY rz [] trivial func129 (S L kH) au.arb
def Fa:cG:=⟨⟨[(0,.a7 100000 0),(1,.val t32)],[(100000,.whole qp)]⟩,⟨[(0,.val t9)],[(100000,.whole qp)]⟩,[none],2,au.wD⟩
theorem JP:cO Tryz.prog dB 200 Fa:=dY rz [] trivial func200 (S L (S bG aN)) au.aro
def avS:cG:=k4 (au.fw 2 au.wA)
theorem avT:cO Tryz.prog dB 130 avS:=dY rz [(118,.eW BI),(200,.eW Fa)] ⟨E',JP,trivial⟩ func130 BF au.ars
def avU:cG:=k4 (au.fw 3 au.P')
theorem avV:cO Tryz.prog dB 131 avU:=dY rz [(118,.eW BI),(200,.eW Fa)] ⟨E',JP,trivial⟩ func131 uX au.art
def avW:cG:=k4 (au.fw 4 au.Qa)
theorem avX:cO Tryz.prog dB 132 avW:=dY rz [(118,.eW BI),(200,.eW Fa)] ⟨E',JP,trivial⟩ func132 uX au.aru
def avY:cG:=k4 (au.fw 5 au.qG)
theorem avZ:cO Tryz.prog dB 133 avY:=dY rz [(118,.eW BI),(200,.eW Fa)] ⟨E',JP,trivial⟩ func133 uX au.arv
def ab':cG:=⟨⟨[(0,.own 200001),(1,.val t3),(2,.val t3)],[(200001,.bf qL)]⟩,⟨[(0,.sub 200001)],[(200001,.bf qL)]⟩,[none],3,(au.Jg au.Jk)⟩
theorem av0:cO Tryz.prog dB 201 ab':=dY rz [] trivial func201 (S L (S L (S bG uX))) (au.arj au.Jk)
def av1:cG:=k4 (au.fw 1 au.rR)
theorem av2:cO Tryz.prog dB 134 av1:=dY rz [(194,JN),(201,.eW ab')] ⟨Q0,av0,trivial⟩ func134 (S L (S bG (S .Gq ca))) au.arw
def av3:=mk rz func217 s5 (S L (S L (S L (S L (S L (S L (S L (S L uX)))))))) ao9
def av4:=mk av3 func165 s5 (S L (S (C aN L) aN)) (ao' (λ_=>A.fail))
def av5:=mk av4 func163 IF (S L (J [(0,nA),(1,v2)] [] ay (S L (J [(0,nA),(6,v228)] [] ay (S L (S L (J [(7,.own 30)] [(30,JI)] (B (au [(7,.own 30),(8,v2)] [(30,JI)] (S ay (B L)))) ca))))))) aph
def av6:=mk av5 func90 Be (S L (S l_ (S bG (S L (J [(2,.a7 2 0),(7,.a7 30 0)] wG (S L (C l_ L)) (J [(2,.a7 2 0),(7,.a7 30 0)] wG (S L (B (au [(2,.a7 2 0),(7,.a7 30 0),(46,v2),(47,v2)] wG (S L (S eg (J [(2,.a7 2 0),(7,.a7 30 0),(46,v2),(47,v2)] wG (B (S L (S L (B (au abj wG (S L (S eg (J abj wG (B (S L (S L (B (au abf wG (S L (S eg (J abf wG yR L)))))))) L)))))))) L)))))) (J [(2,.a7 2 0),(7,.a7 30 0)] aby (S L (B (au [(2,.a7 2 0),(7,.a7 30 0),(92,en),(93,v2),(94,v2)] aby cA))) (J [(7,.a7 30 0)] abz (S L (B (au [(7,.a7 30 0),(114,pT),(115,v2),(116,v2)] abz cA))) ca)))))))) apw
def aca:=mk av6 func91 Po aN apk
def acb:cG:=⟨⟨[(0,.val eZ),(1,.val t3)],[]⟩,⟨[(0,.own 30)],[(30,.bf t3)]⟩,[none],2,wg⟩
theorem av7:cO Tryz.prog dB 92 acb:=dY aca [] trivial func92 tC Zt
def av8:=mk aca func168 wh (S L (S (B (S L (C ca (S L (C ca bG))))) ca)) apm
def acd:=mk av8 func96 IM (S L (S L (J [(6,.own 6)] [(6,Bz)] (S L (B (au [(0,kG),(6,.own 6),(14,en),(15,v2),(16,v2)] [(6,Bz)] (S L (S eg (J [(0,kG),(6,.own 6),(14,en),(15,v2),(16,v2)] [(6,Bz)] (B (S L (S ay (S L (S L (J [(0,kG),(6,.own 6),(10,.a7 10 0),(11,v2),(14,en),(15,v2),(16,v2)] [(6,Bz),(10,aa2)] (S L (B (S L (C ca ay)))) (S bG (S L (B (au [(0,kG),(6,.own 6),(10,.a7 10 0),(11,v2),(14,en),(15,v2),(16,v2),(58,en),(59,v2),(60,v2)] [(6,Bz),(10,aa2)] cA)))))))))) L)))))) ca))) apI
def ace:cG:=⟨⟨[(0,.val eZ),(1,.val t2)],[]⟩,⟨[(0,.own 30)],[(30,.bf t2)]⟩,[none],2,wg⟩
theorem av9:cO Tryz.prog dB 92 ace:=dY acd [] trivial func92 tC Zt
def acf:=mk acd func169 Bj aN apQ
def Q8(f:Nat):cG:=⟨⟨[(0,.val oJ),(1,.own 200001),(2,.val Am),(3,.val t2),(4,.fH 100002)],[(100002,.mp t2 t2),(200001,.bf t2)]⟩,⟨[(0,.val t4)],[(100002,.mp t2 t2),(200001,.bf t2)]⟩,[none],5,uO f⟩
theorem acg:∀f,cO Tryz.prog dB 170 (Q8 f)
 |0=>Nk func170 apZ
 |f+1=>dY acf [(170,.eW (Q8 f))] ⟨acg f,trivial⟩ func170 (S L (J [] QQ (S L (B (au abh QQ (S L (S eg (J abh QQ (B (S L (S ay (S L (S L (C aN L)))))) L)))))) ca)) (apY f)
def av_:=py acf mw [(92,.eW ace),(170,.eW (Q8 201))] ⟨av9,acg 201,trivial⟩ func98 IS (S L (S L (S L (J [(6,v2)] [] (S L (B (au abt [(50140,a2)] (S L (S eg (J abt [(50140,a2)] yS L)))))) ca)))) ap1
def awa:=mk av_ func93 wu tl ap2
def ach:=py awa mw [(92,.eW acb)] ⟨av7,trivial⟩ func40 I0 (S L (S L (S bG (S L (S L (J [(8,.own 8)] [(8,a2)] (S L (B (au abp [(8,a2),(50260,a2)] (S L (S eg (J abp [(8,a2),(50260,a2)] yR L)))))) ca)))))) aqm
def awb:cG:=k4 (au.fw 1 au.Qb)
theorem awc:cO Tryz.prog dB 135 awb:=dY ach [] trivial func135 tl au.ard
def awd:=mk ach func181 Pp aN apl
def awe:=mk awd func108 IG (S L (J [(1,en),(2,.a7 2 0)] [(2,yM)] (S L (B (au [(1,en),(2,.a7 2 0),(7,en),(8,v2),(9,v2)] [(2,yM)] ea))) ca)) apn
def awf:=mk awe func109 s9 (S L (J [(4,v2)] [] (S L (B (au [(0,kG),(4,v2),(7,en),(8,v2),(9,v2)] [] (S L (S eg (J [(0,kG),(4,v2),(7,en),(8,v2),(9,v2)] [] yS L)))))) ca)) apK
def aci:=mk awf func49 I1 (S L (S L (S bG (S bG ca)))) aqo
def awg:cG:=k4 (au.fw 0 au.Qc)
theorem awh:cO Tryz.prog dB 136 awg:=dY aci [(192,.eW abP)] ⟨abQ,trivial⟩ func136 (S L (S L (J [(0,.a7 100000 0),(5,.own 50100)] [(50100,a2),(100000,BA)] (S L (B (au [(0,.a7 100000 0),(5,.own 50100),(12,v2),(13,v2)] [(50100,a2),(100000,BA)] cA))) aN))) au.are
def Q9:=mk aci func92 ID tC apg
def JQ(f:Nat):cG:=⟨⟨[(0,.val oJ),(1,.val eZ),(2,.val t2),(3,.hf),(1000000,.aR eZ)],[]⟩,⟨[(0,.val t4),(1000000,.aR eZ)],[]⟩,[none],4,rN f⟩
theorem Q_:∀f,cO Tryz.prog dB 167 (JQ f)
 |0=>Nk func167 aqa
 |f+1=>dY Q9 [(167,.eW (JQ f))] ⟨Q_ f,trivial⟩ func167 (S L (S L (S bG (J [(0,kG),(1,en),(2,v2),(3,.hf),(9,v2),(1000000,.aR eZ)] [] (S L (B (au abg [] (S L (S eg (J abg [] (B (S L (S ay bG))) L)))))) ca)))) (ap' f)
def acj:cG:=⟨⟨[(0,.val oJ),(1,.hf),(1000000,.aR eZ)],[]⟩,⟨[(1000000,.aR eZ)],[]⟩,[],2,(HD (rN 10))⟩
theorem awi:cO Tryz.prog dB 218 acj:=dY (S:=(HD (rN 10))) Q9 [(167,.eW (JQ 10))] ⟨Q_ 10,trivial⟩ func218 L (λx=>A.le_refl _)
def JR:zK:=⟨oJ,eZ,yw,IU⟩
theorem awj:C4 Tryz.prog 218 JR:=UN (c:=acj) awi mw (ic:=JR) (λx l L=>(x,l,(l,L,[],false),())) rfl (by decide) (by simp[JR])
 (λx l L i=>by
  by_cases aX:i=0
  ·subst aX;exact .inr (.inl ⟨by decide,rfl⟩)
  ·by_cases E:i=1
   ·subst E;exact .inr (.inr (.inl ⟨rfl,rfl⟩))
   ·by_cases U:i=b5
    ·subst U;exact .inr (.inr (.inr ⟨rfl,rfl⟩))
    ·refine .inl ?_;exact (if_neg aX).trans ((if_neg E).trans (if_neg U)))
 rfl (λbm=>⟨_,_,_,_,rfl⟩) (λx l ao=>by
  obtain⟨s,aD,af⟩:=ao;subst aD;have h:=aqb s af l;refine⟨h.1,λbm fZ dG e7 n fk=>?_⟩;have e:aF.aR bm.1.1 eZ bm.1.2.1 bm.1.2.2.1 bm.1.2.2.2=.aR dG eZ e7 n false:=fk;injection e with ay aN cA ea dU
  exact ea.symm.trans ((h.2 bm fZ).2.2 dU))
def awk:=py Q9 mw [(218,.cu JR)] ⟨awj,trivial⟩ func166 PS (S L (S L (S (S L (B (cf [(1,.a7 1 0),(3,.a7 3 0)] [(1,.cells oJ [kG]),(3,.cells eZ [en])] [(1,.a7 100001 0),(3,.a7 100003 0),(15,en)] [(100001,.cells oJ [kG]),(100003,.cells eZ [en])] [] [(100001,.cells oJ [kG]),(100003,.cells eZ [en])] L (B ay)))) ca))) aqh
def awl:=mk awk func94 PU (S L kH) aqi
def Q':=mk awl func41 IX aN aqj
def awm:cG:=k4 (au.fw 0 au.Qd)
theorem awn:cO Tryz.prog dB 137 awm:=dY Q' [] trivial func137 tl au.arf
def ack:cG:=⟨⟨[(0,.val oJ),(1,.hf),(1000000,.aR eZ)],[]⟩,⟨[(1000000,.aR eZ)],[]⟩,[],2,(HE (rN 10))⟩
theorem awo:cO Tryz.prog dB 95 ack:=dY (S:=(HE (rN 10))) Q' [(167,.eW (JQ 10))] ⟨Q_ 10,trivial⟩ func95 L (λx=>A.le_refl _)
def JS:zK:=⟨oJ,eZ,yw,PN⟩
theorem awp:C4 Tryz.prog 95 JS:=UN (c:=ack) awo mw (ic:=JS) (λx l L=>(x,l,(l,L,[],false),())) rfl (by decide) (by simp[JS])
 (λx l L i=>by
  by_cases aX:i=0
  ·subst aX;exact .inr (.inl ⟨by decide,rfl⟩)
  ·by_cases E:i=1
   ·subst E;exact .inr (.inr (.inl ⟨rfl,rfl⟩))
   ·by_cases U:i=b5
    ·subst U;exact .inr (.inr (.inr ⟨rfl,rfl⟩))
    ·refine .inl ?_;exact (if_neg aX).trans ((if_neg E).trans (if_neg U)))
 rfl (λbm=>⟨_,_,_,_,rfl⟩) (λx l ao=>by
  obtain⟨s,aD,af⟩:=ao;subst aD;have h:=aqc s af l;refine⟨h.1,λbm fZ dG e7 n fk=>?_⟩;have e:aF.aR bm.1.1 eZ bm.1.2.1 bm.1.2.2.1 bm.1.2.2.2=.aR dG eZ e7 n false:=fk;injection e with ay aN cA ea dU
  exact ea.symm.trans ((h.2 bm fZ).2.2 dU))
def awq:=mk Q' func97 PH (S L (J [] [] (S L (B (au [(0,kG),(9,pT),(10,v2),(11,v2)] [] (S L (S eg (J [(0,kG),(9,pT),(10,v2),(11,v2)] [] (B (S L (S L (J [(0,kG),(7,v4),(9,pT),(10,v2),(11,v2)] [] (S L (B (au [(0,kG),(6,.a7 6 0),(7,v4),(9,pT),(10,v2),(11,v2),(20,v2),(21,v2)] [(6,atj)] cA))) bG)))) L)))))) ca)) apS
def Ra:=py awq mw [(95,.cu JS)] ⟨awp,trivial⟩ func42 IZ (S L (S L (S bG (S L (S (S L (B (cf [(4,.a7 4 0),(6,.a7 6 0)] [(4,.cells oJ [kG]),(6,.cells t2 [v2])] [(4,.a7 100004 0),(6,.a7 100006 0),(21,en)] [(100004,.cells oJ [kG]),(100006,.cells t2 [v2])] [] [(100004,.cells oJ [kG]),(100006,.cells t2 [v2])] L (B (S L (S ay (S L ay))))))) (S bG ca)))))) aqk
def awr:cG:=k4 (au.fw 0 au.Qe)
theorem aws:cO Tryz.prog dB 138 awr:=dY Ra [] trivial func138 tl au.arh
theorem awt:∀ k∈[119,120,121,122,123,124,125,126,127,128,129,130,131,132,133,134,135,136,137,138],cO Tryz.prog dB k {Q4 with sh:=au.EV k}:=E1.mem (l:=[119,120,121,122,123,124,125,126,127,128,129,130,131,132,133,134,135,136,137,138]) ⟨auR,auT,auV,avl,avp,avu,avA,avF,avI,avN,avR,avT,avV,avX,avZ,av2,awc,awh,awn,aws,trivial⟩
def Rb:cG:=⟨⟨[(0,.a7 100000 0),(1,.val Na),(2,.val t9)],[(100000,.whole qp)]⟩,⟨[(0,.val t9)],[(100000,.whole qp)]⟩,[none],3,au.Bt⟩
theorem acm:cO Tryz.prog dB 59 Rb:=dY Ra [(999999,.F_ Q4 au.EV [119,120,121,122,123,124,125,126,127,128,129,130,131,132,133,134,135,136,137,138])] ⟨awt,trivial⟩ func59 (S L (S L (S L (S l_ (S L (J [(0,.a7 100000 0),(8,.a7 8 0),(11,.own 48)] [(8,aa_),(48,a2),(100000,BA)] (S L (B (au [(0,.a7 100000 0),(8,.a7 8 0),(11,.own 48),(50,pV),(51,v2),(52,v2)] [(8,aa_),(48,a2),(100000,BA)] (S L (S eg (S (B (S L (S L (S bG L)))) L)))))) ca)))))) au.arE
def HF:=py Ra mw [(57,.eW Q2),(59,.eW Rb)] ⟨abV,acm,trivial⟩ func20 au.rU (S L (S l_ (S bG (S L (J [(4,.own 4),(5,.a7 5 0),(8,.a7 50230 0)] abx (S L (B (au [(4,.own 4),(5,.a7 5 0),(8,.a7 50230 0),(9,aa3),(25,pV),(26,v2),(27,v2)] abx cA))) ca))))) au.arK
def acn:cG:=⟨⟨[(0,.val o2),(1,.own 200001)],[(200001,.bf t9)]⟩,⟨[(0,.val uZ),(1,.val o2),(2,.val UY)],[(200001,.bf t9)]⟩,[none,none,none],2,au.Bx⟩
theorem awu:cO Tryz.prog dB 20 acn:=dY HF [(57,.eW Q2),(59,.eW Rb)] ⟨abV,acm,trivial⟩ func20 (S L (S l_ (S bG (S L (J [(4,.own 4),(5,.a7 5 0),(8,.a7 50230 0)] abw (S L (B (au [(4,.own 4),(5,.a7 5 0),(8,.a7 50230 0),(9,aa3),(25,.own 200001),(26,v2),(27,v2)] abw cA))) ca))))) au.as6
def awv:=mk HF func62 au.uT (S L (S bG (J [] [] (S L (B (au [(0,en),(1,en),(5,v2)] [] dU))) ca))) au.arZ
def aww:=mk awv func60 au.Jy (S L (S bG (J JL E7 (S L (B (au [(2,.a7 2 0),(3,.a7 3 0),(5,v2)] E7 dU))) (J JL E7 (S L (B (au [(2,.a7 2 0),(3,.a7 3 0),(6,v2)] E7 dU))) (J [] [] (S L (B (au QP E7 dU))) ca))))) au.ar0
def awx:=mk aww func61 au.Jz (S L (S bG (J JL yP (S L (B (au [(2,.a7 2 0),(3,.a7 3 0),(5,v2)] yP dU))) (J JL yP (S L (B (au [(2,.a7 2 0),(3,.a7 3 0),(6,v2)] yP dU))) (J [] [] (S L (B (au QP yP (S ay (J QP yP (B (S L (S bG (S L (B (au [(2,.a7 2 0),(3,.a7 3 0),(7,v2),(8,QM),(9,QM),(10,v2)] yP dU)))))) L))))) ca))))) au.ar1
def N0:=mk awx func22 au.EY (S L (S L (S bG (J [(5,.a7 5 0),(6,.a7 6 0)] E8 (S L (B (au [(5,.a7 5 0),(6,.a7 6 0),(7,v2)] E8 yQ))) (J [(5,.a7 5 0),(6,.a7 6 0)] E8 (S L (B (au [(5,.a7 5 0),(6,.a7 6 0),(10,v2)] E8 yQ))) (J [] [] (S L (B (au [(5,.a7 5 0),(6,.a7 6 0),(13,v2)] E8 dU))) ca)))))) au.ar2
def awy:=mk N0 func208 ct aN anP
def awz:=mk awy func148 H.ct aN H.ak1
def awA:=mk awz func147 H.vJ aN H.ak5
def awB:=mk awA func149 H.vK kH H.ak7
def awC:=mk awB func67 H.vM (S L (S bG (J nB oe (S L (B (au tj oe dU))) (J nB oe (S L (B (au [(1,.a7 1 0),(4,v2)] oe dU))) (J nB oe (S L (B (au BD oe dU))) (J [] [] (S L (B (au [(1,.a7 1 0),(6,v2)] oe yQ))) ca)))))) H.alD
def awD:=mk awC func68 H.HN aN H.ak'
def awE:=mk awD func26 H.h2 (S L (S bG (J [] [] (S L (B (au tj oe (S ay (J tj oe (B (S L (B (au JK oe dU)))) L))))) ca))) H.alF
def awF:=mk awE func251 oW aN anU
def awG:=mk awF func316 uF abD anV
def awH:=mk awG func252 s3 (S L (J nB [(1,abb)] (S L (B (au tj [(1,abb)] dU))) ca)) anX
def awI:=mk awH func253 pI aN anQ
def awJ:=mk awI func317 A5 aN anS
def awK:=mk awJ func254 rG aN anT
def awL:=mk awK func179 s4 (S L (S bG (J nB nC (S L (B (au tj nC yQ))) (J nB nC (S L (B (au BD nC (S ay (J BD nC (B (S bG (S L (B (au [(1,.a7 1 0),(5,v2),(6,v2)] nC dU))))) L))))) (J [] [] (S L (B (au [(1,.a7 1 0),(7,v2)] nC yQ))) ca))))) anZ
def awM:=mk awL func104 h2 (S L (S bG (J [] [] (S L (B (au tj nC (S ay (J tj nC (B (S L (B (au JK nC yQ)))) L))))) ca))) an1
def awN:=mk awM func105 ct aN aoR
def awO:=mk awN func180 Iy (S L (J [] [] (S L (B (au [(0,en),(1,v2),(5,v2)] [] dU))) ca)) aoV
def awP:=mk awO func106 IA kH ao5
def awQ:=mk awP func107 IB aN ao6
def awR:=mk awQ func48 pO (S L (S l_ (S bG (J nB qK abE (J nB qK (S L (B (au BD qK dU))) (J nB qK (S L (B (au [(1,.a7 1 0),(6,v2)] qK dU))) (J [] [] (S L (B (au [(1,.a7 1 0),(7,v2)] qK yQ))) ca))))))) ao7
def x3:=mk awR func15 au.qJ kH au.arO
def awS:=mk x3 func110 vY (S L (S bG (J nB nC (S L (B (au tj nC (S ay (J tj nC (B (S bG (S L (B (au JK nC dU))))) L))))) (S bG (J nB nC (S L (B (au BD nC dU))) ca))))) aoN
def awT:=mk awS func50 I2 (S L (S bG (J nB qK (S L (B (au tj qK dU))) (J nB qK abE (S bG (S L (J BD qK (S L (B (au [(1,.a7 1 0),(5,v2),(6,v2)] qK BG))) ca))))))) aqr
def awU:=mk awT func51 H.vY (S L (S bG (S bG (S L (J [(3,v2)] [] (S L (B (au JK oe BG))) ca))))) H.ank
def awV:=mk awU func111 au.Ju (S L (S L (J [(3,.own 5)] [(5,a9)] (S L (B (au [(0,v9),(3,.own 5),(4,v2)] [(5,a9)] (S ay (J [(0,v9),(3,.own 5),(4,v2)] [(5,a9)] (B ay) L))))) ca))) au.arR
def awW:=mk awV func112 au.Jt (S L (S bG (S L (J [(3,v2)] [] (S L (B (au [(0,v9),(3,v2),(4,v2)] [] (S ay (S (B (S bG L)) L))))) ca)))) au.arQ
def awX:=mk awW func113 au.Jv (S L uX) au.arT
def awY:=mk awX func52 au.Jx (S L (S L (J [(3,.own 3),(5,pV)] [(3,a2)] (S L (B (au [(3,.own 3),(5,pV),(6,v2)] [(3,a2)] (S ay (S (B (S L (S bG L))) L))))) (S L (J [] [] (S L (B (au [(3,.own 3),(5,pV),(8,pV),(9,en),(10,en),(11,v2)] [(3,a2)] dU))) ca))))) au.arU
def sI:=mk awY func14 au.JB (S L (S bG (S L (J [(1,pV),(2,.a7 2 0),(5,v2),(6,v2),(7,v2),(8,v2)] [(2,yN)] (S L (B (au [(1,pV),(2,.a7 2 0),(5,v2),(6,v2),(7,v2),(8,v2),(9,v2)] [(2,yN)] BG))) (J [(2,.a7 2 0),(5,v2),(6,v2),(7,v2),(8,v2)] [(2,yN)] (S L (B (au abq [(2,yN)] (S ay (J abq [(2,yN)] (B (S bG (S L (B (S L (C L (S L (C L (S L (C ca ay)))))))))) L))))) ca))))) au.ar4
def awZ:=mk sI func28 au.uV aN au.ar5
def aw0:=mk awZ func30 au.EW (S L (S bG (J [] [] (S L (B (au [(0,pV),(1,pV),(5,v2)] [] dU))) ca))) au.arX
def aw1:=mk aw0 func183 Pk aN aoO
def aw2:=mk aw1 func115 I3 aN aqs
def aw3:=mk aw2 func54 au.Jq aN au.arM
def aw4:=mk aw3 func29 au.E0 tl au.ar_
def aw5:=mk aw4 func45 au.yK (S L (S bG (S L (J [(3,v9)] [] (B (au [(0,v2),(3,v9)] [] (S ay (B ca)))) ca)))) au.asX
def Rc:=mk aw5 func33 au.yL (S L (J [(0,v9)] [] (S L (B (au [(0,v9),(1,en),(5,v2)] [] BG))) ca)) au.asZ
theorem aw6:gU Tryz.prog 28 (.az o2 (.az uZ t3)) t4 au.uV.sh/\Fh Tryz.prog 28 (.az o2 (.az uZ t3)) t4 au.uV.sh:=au.atg rfl (Rc.ok (28,au.uV.cY) (xY (by kernel_rfl))).1
theorem acF:gU Tryz.prog 10 (.az o2 (.az uZ qL)) t4 (λx=>QC au.Bx au.rU.sh au.EY.sh au.uV.sh au.E0.sh au.yL.sh au.yK.sh x):=Hw Rc mw (sp:=[(20,.CH au.rU.cY acn),(28,.F9 ⟨(.az o2 (.az uZ t3)),t4,au.uV.sh,true⟩)]) ⟨⟨Rc.ok (20,au.rU.cY) (xY (by kernel_rfl)),awu⟩,aw6,trivial⟩ func10 (ann:=(S L (S bG (S L (J [(1,pV),(3,.a7 3 0),(7,v9)] [(3,yN)] (S L (B (au [(1,pV),(3,.a7 3 0),(5,.a7 5 0),(7,v9),(8,v2)] [(3,yN),(5,ati)] (S ay (S (B (S bG L)) L))))) (S L (S bG (S L (S L (S bG (S bG (S (.CQ 9 L) (S (.CQ 9 L) L))))))))))))) (λx=>A.le_refl _) (by kernel_rfl) λx=>by kernel_rfl
end
end Go.Fer.og
namespace Go.Fer.og
open Go Go.Proofs
theorem JU{P:Program}{w:World}:∀ {l:List (String×DataW Unit)} {ps:List MemPlace},DataW.LaidVars P w l ps->∀ n d,(n,d)∈l->∃ g t cs cg p,P.globalNamed n=some g/\(P.globals[g]?).map (·.type)=some t/\w.var? P n=some cs/\DataW.trod (λ_=>()) P w 0 (λ_=>true) false cg t cs.toList=some (d,p)
 | [],_,_,_,_,hm=>by cases hm
 | (iW,qQ)::r,ps,h,n,d,hm=>by
  obtain⟨g,t,cs,cg,p,q,E,U,ah,aZ,bM,_⟩:=h;rcases List.mem_cons.1 hm with e | e
  ·cases e;exact⟨g,t,cs,cg,p,E,U,ah,aZ⟩
  ·exact JU bM n d e
theorem acB{P:Program}{w:World}{n:String}{g:Nat}{t:TypeId}{d:DataW Unit}{cg:Nat}{cs:Array Value}{p:List MemPlace}(aC:P.globalNamed n=some g)(af:w.var? P n=some cs)(hu:∃ ms,P.underlying t=some (.interface ms))
  (h:DataW.trod (λ_=>()) P w 0 (λ_=>true) false cg t cs.toList=some (d,p)):∃ v,w.cell? ⟨g,0,none⟩=some v/\(v=.nilIface\/∃ lE l',v=.iface lE l'):=by
 obtain⟨ms,hu⟩:=hu;have hc:w.cell? ⟨g,0,none⟩=cs[0]?:=by
  unfold World.var? at af;rw[aC]at af;simp only[Option.bind_some]at af;cases ag:w.heap[g]? with
  | none=>rw[ag]at af;cases af
  | some o=>
   rw[ag]at af;cases o with
   | cells a T sQ=>cases af;simp[World.cell?,ag]
   | _=>cases af
 have aK:cs[0]?=cs.toList[0]?:=by simp
 rw[hc,aK];generalize cs.toList=l at h;cases cg with
 | zero=>simp[DataW.trod]at h
 | succ cg=>
  match l with
  | []=>simp[DataW.trod,hu]at h
  | [.nilIface]=>exact⟨_,rfl,.inl rfl⟩
  | [.iface u v]=>exact⟨_,rfl,.inr ⟨u,v,rfl⟩⟩
  | _::_::_=>simp[DataW.trod,hu]at h
  | [x]=>cases x<;>first | exact⟨_,rfl,.inl rfl⟩ | exact⟨_,rfl,.inr ⟨_,_,rfl⟩⟩ | (simp[DataW.trod,hu]at h;done)
theorem aw7:((List.range 8).all λb=>(((begin Tryz.prog (λ_ _=>0) default).world.heap[b]?).bind Obj.row?).isSome)=true:=by kernel_rfl
theorem acH{au : World}(h : au.ShapedOpen Tryz.prog)(E : ∃ v, au.cell? ⟨1, 0, none⟩ = some v /\ (v = .nilIface \/ ∃ lE l', v = .iface lE l'))(U : ∃ v, au.cell? ⟨2, 0, none⟩ = some v /\ (v = .nilIface \/ ∃ lE l', v = .iface lE l'))(aK : Lib.TabIs Tryz.prog au "internal/strconv.uint64pow10" .u64 Lib.pow10Tab) : nF Tryz.prog (qn au) au := λb aa => by
 have iQ:b<8:=Nat.lt_of_lt_of_le aa (of_decide_eq_true (by kernel_rfl));refine⟨?_,?_⟩
 ·have M:=List.all_eq_true.1 aw7 b (List.mem_range.2 iQ);obtain⟨⟨zero,t⟩,bk⟩:=Option.isSome_iff_exists.1 M;obtain⟨cs,c7,_⟩:=h.1 b zero t aa bk;exact (Array.getElem?_eq_some_iff.1 c7).1
 ·match b,aa,iQ with
  | 0,aa,_=>exact cell_of_shapedOpen_int (t:=3) (zero:=#[.int .i64 0]) h aa (by kernel_rfl) rfl (by kernel_rfl) (by kernel_rfl) Tryz.underlying3
  | 1,_,_=>exact E
  | 2,_,_=>exact U
  | 3,_,_=>trivial
  | 4,_,_=>trivial
  | 5,_,_=>
   show ∀ i,au.cell? ⟨5,i,none⟩=if i<20 then some (.int .u64 (10 ^ i)) else none
   unfold Lib.TabIs World.var? at aK;rw[show Tryz.prog.globalNamed "internal/strconv.uint64pow10" = some 5 by kernel_rfl]at aK;change (match au.heap[5]? with | some (.cells cs _ _)=>some cs | _=>none)=_ at aK;intro i;cases ag:au.heap[5]? with
   | none=>rw[ag]at aK;cases aK
   | some o=>
    rw[ag]at aK;cases o with
    | cells cs T sQ=>
     simp only[Option.some.injEq]at aK;simp only[World.cell?,ag,aK];simp only[Option.isSome_none,Bool.false_eq_true,if_false,List.getElem?_toArray,List.getElem?_map,Lib.pow10Tab];split
     ·rename_i Bw;rw[List.getElem?_range Bw];simp
     ·rename_i Bw;rw[List.getElem?_eq_none (by simp;omega)];rfl
    | _=>cases aK
  | 6,_,_=>trivial
  | 7,_,_=>trivial
end Go.Fer.og
