/- Part 7 of the proof of Replayed: shallow programs of Go functions, and what they compute. No condition. -/
import Derived.Test.YtplfnoecifjgeaaGreatDoorReplayedF
import Derived.Shelf.SlGeneric
import Derived.Shelf.Spec.SlicesGrow
import Derived.Shelf.Strings.OnBuilder
import Derived.Shelf.LaysM
import Derived.Shelf.Strconv.Itoa3
import Derived.Shelf.LaysC
import Derived.Shelf.Strconv.AtoiAll
import Derived.Shelf.Strings.Split
import Derived.Shelf.Slices.In.SortNone
import Derived.Test.YtplfnoecifjgeaaGreatDoorProg
import Derived.WalkKit
import Derived.WalkSpells
import Derived.Handy
import Derived.Shelf.Sort.AssemblyIn
import Derived.Sort.EveryDepth
import Derived.Handed
import Derived.Shelf.Vars
import Derived.Lib.LaidTab
import Derived.Lib.ItoaNum
noncomputable section
set_option linter.unusedVariables false
set_option linter.unusedSimpArgs false
namespace Go.Fer.W
open M (aa)
open H (hG)
abbrev Er:aJ:=⟨.ax sI sI,.bool,λx=>x.1.length<2 ^ 63,λx=>decide (x.1=x.2)⟩
theorem ari(a b:List aK)(h:a.length=b.length):((List.range a.length).any λi=>decide (a.getD i []≠b.getD i []))=!decide (a=b):=by
 rw[Bool.eq_iff_iff];simp only[List.any_eq_true,List.mem_range,decide_eq_true_eq,Bool.not_eq_true',decide_eq_false_iff_not];constructor
 ·grind
 ·intro dZ;refine Classical.byContradiction λfj=>dZ (List.ext_getElem h λi h1 h2=>?_);simp_all
theorem arj(x):M.le (Yg x) (Er.sh x):=M.bh λh=>by
 obtain⟨a,b⟩:=x;change a.length<2 ^ 63 at h;unfold Yg;show _=M.pure (decide (a=b));by_cases ai:a.length=b.length
 ·rw[if_neg (by grind)];rw[M.dk (List.range a.length) (λi (_:Unit)=>(a,b,(i:Int),())) (λi (_:Unit)=>if decide (a.getD i []≠b.getD i [])=true then .done (.done false) else .next ()) (λ_=>.next ()) () ?_ ?_ ?_]
  ·rw[q9,ari a b ai,M.aE];cases decide (a=b)<;>rfl
  ·rfl
  ·intro i G _;have G:i<a.length:=by grind
   have ab:i<b.length:=by omega
   have hw:=bo (n:=(i:Int)+1) (by omega) (by omega);simp only[List.getElem_range,bJ,cE G,if_true,cq G,cq ab,M.bg,b7,hw,Int.toNat_natCast];by_cases hc:decide (a.getD i []≠b.getD i [])=true
   ·rw[if_pos hc,if_pos hc,M.aE,M.aE];rfl
   ·rw[if_neg hc,if_neg hc];rfl
  simp
 ·rw[if_pos (show decide (Int.ofNat a.length≠Int.ofNat b.length)=true by grind),show decide (a=b)=false from decide_eq_false λe=>ai (by rw[e])]
theorem ark{a b:List aK}(h:a.length<2 ^ 63):Er.sh (a,b)=M.pure (decide (a=b)):=M.bF h _
abbrev uv:aJ:=⟨.ax fF fF,.bool,λx=>x.1=x.2/\x.1.length<2 ^ 63,λ_=>true⟩
theorem arl(x):M.le (X_ x) (uv.sh x):=M.bh λh=>by
 obtain⟨a,b⟩:=x;obtain⟨rfl,h⟩:a=b/\a.length<2 ^ 63:=h;unfold X_;rw[if_neg (by simp)];rw[M.dk a (λi (_:Unit)=>(a,a,(i:Int),())) (λ_ b=>.next b) (λ_=>.next ()) () ?_ ?_ ?_]
 ·rw[dM,M.aE,M.bK]
 ·rfl
 ·intro i G _;have hw:=bo (n:=(i:Int)+1) (by omega) (by omega);simp_all
 simp
theorem Es{a:z1'}(h:a.length<2 ^ 63):uv.sh (a,a)=M.pure true:=M.bF ⟨rfl,h⟩ _
abbrev I6:aJ:=⟨.ax H.je H.je,.bool,λx=>x.1=x.2/\H.iC x.1,λ_=>true⟩
theorem arn(x):M.le (X9 uv.sh x) (I6.sh x):=M.bh λh=>by
 obtain⟨a,b⟩:=x;obtain⟨rfl,h1,h2,h3,aR⟩:a=b/\H.iC a:=h;unfold X9;rw[Es h3];simp only[M.kB,M.aE];rw[if_neg (by simp)];rw[M.dk a.1 (λi (_:Unit)=>((i:Int),a,a,())) (λ_ b=>.next b) (λ_=>.next (a,a,())) () ?_ ?_ ?_]
 ·rw[dM,M.aE,M.bK];rw[M.dk a.2.1 (λi (_:Unit)=>((i:Int),a,a,())) (λ_ b=>.next b) (λ_=>.next (a,a,())) () ?_ ?_ ?_]
  ·rw[dM,M.aE,M.bK];rw[M.dk a.2.2.2.1 (λi (_:Unit)=>((i:Int),a,a,())) (λ_ b=>.next b) (λ_=>.next ()) () ?_ ?_ ?_]
   ·rw[dM,M.aE,M.bK]
   ·rfl
   ·intro i G _;have hw:=bo (n:=(i:Int)+1) (by omega) (by omega);simp_all
   simp
  ·rfl
  ·intro i G _;have hw:=bo (n:=(i:Int)+1) (by omega) (by omega);simp_all
  simp
 ·rfl
 ·intro i G _;have hw:=bo (n:=(i:Int)+1) (by omega) (by omega);simp_all
 simp
abbrev I7:aJ:=⟨.ax kp kp,.bool,λx=>x.1=x.2/\gv x.1,λ_=>true⟩
theorem aro(x):M.le (X' uv.sh x) (I7.sh x):=M.bh λh=>by
 obtain⟨a,b⟩:=x;obtain⟨rfl,h1,h2,h3,aR⟩:a=b/\gv a:=h;unfold X';rw[if_neg (by simp)];rw[M.dk a.1 (λi (_:Unit)=>((i:Int),a,a,())) (λ_ b=>.next b) (λ_=>.next (a,a,())) () ?_ ?_ ?_]
 ·rw[dM,M.aE,M.bK];rw[M.dk a.2.2.2 (λi (_:Unit)=>((i:Int),a,a,())) (λ_ b=>.next b) (λ_=>.next (a,a,())) () ?_ ?_ ?_]
  ·rw[dM,M.aE,M.bK];rw[M.dk a.2.1 (λi (_:Unit)=>((i:Int),a,a,())) (λ_ b=>.next b) (λ_=>.next ()) () ?_ ?_ ?_]
   ·rw[dM,M.aE,M.bK]
   ·rfl
   ·intro i G _;have hw:=bo (n:=(i:Int)+1) (by omega) (by omega);obtain⟨an,hs⟩:=aR _ (List.getElem_mem G);simp only[bJ,cE G,if_true,cT G,cq G,M.bg,b7,hw];rw[if_neg (by simp)];rw[M.dk a.2.1[i] (λj (_:Unit)=>((i:Int),a.2.1[i],a.2.1[i],(j:Int),a,a,())) (λ_ b=>.next b) (λ_=>.next ((i:Int),a,a,())) () ?_ ?_ ?_]
    ·rw[dM,M.aE,M.bK];simp_all
    ·rfl
    ·intro j aC _;have hw:=bo (n:=(j:Int)+1) (by omega) (by omega);have be:uv.sh (a.2.1[i][j].2.1,a.2.1[i][j].2.1)=M.pure true:=Es (hs _ (List.getElem_mem aC));simp_all
    simp
   simp
  ·rfl
  ·intro i G _;have hw:=bo (n:=(i:Int)+1) (by omega) (by omega);simp_all
  simp
 ·rfl
 ·intro i G _;have hw:=bo (n:=(i:Int)+1) (by omega) (by omega);simp_all
 simp
abbrev Et:aJ:=⟨.ax vY vY,.bool,λx=>x.1=x.2/\e' x.1.1/\H.iC x.1.2,λ_=>true⟩
theorem arp(x):M.le (X8 I6.sh I7.sh uv.sh x) (Et.sh x):=M.bh λh=>by
 obtain⟨a,b⟩:=x;obtain⟨rfl,⟨h1,h2,h3,aR,bw,cY,fK⟩,hc⟩:a=b/\e' a.1/\H.iC a.2:=h;unfold X8;rw[show I6.sh (a.2,a.2)=M.pure true from M.bF ⟨rfl,hc⟩ _,show I7.sh (a.1.1,a.1.1)=M.pure true from M.bF ⟨rfl,h1⟩ _,Es h2];simp only[M.kB,M.aE];rw[if_neg (by simp)];rw[M.dk a.1.2.2.1 (λi (_:Unit)=>((i:Int),a.1,a.1,())) (λ_ b=>.next b) (λ_=>.next (a.1,a.1,())) () ?_ ?_ ?_]
 ·rw[dM,M.aE,M.bK];rw[M.dk a.1.2.2.2.1 (λi (_:Unit)=>((i:Int),a.1,a.1,())) (λ_ b=>.next b) (λ_=>.next (a.1,a.1,())) () ?_ ?_ ?_]
  ·rw[dM,M.aE,M.bK];rw[M.dk a.1.2.2.2.2.1 (λi (_:Unit)=>((i:Int),a.1,a.1,())) (λ_ b=>.next b) (λ_=>.next ()) () ?_ ?_ ?_]
   ·rw[dM,M.aE,M.bK]
   ·rfl
   ·intro i G _;have hw:=bo (n:=(i:Int)+1) (by omega) (by omega);simp_all
   simp
  ·rfl
  ·intro i G _;have hw:=bo (n:=(i:Int)+1) (by omega) (by omega);have be:uv.sh (a.1.2.2.2.1[i].1,a.1.2.2.2.1[i].1)=M.pure true:=Es (fK _ (List.getElem_mem G));simp_all
  simp
 ·rfl
 ·intro i G _;have hw:=bo (n:=(i:Int)+1) (by omega) (by omega);have be:uv.sh (a.1.2.2.1[i].2.2.2.2,a.1.2.2.1[i].2.2.2.2)=M.pure true:=Es (cY _ (List.getElem_mem G));simp_all
 simp
theorem arq{d:aW}(h:db d):Et.sh (d,d)=M.pure true:=M.bF ⟨rfl,h.gN,h.iC⟩ _
abbrev Eu:Type:=Int×Int×Int×Int
def PX(s:aK)(c:Eu):Eu:=
 if (!(nT s).2.2)=true then c else if decide ((nT s).1=[119,105,115,104])=true then (IntKind.wrap .i64 (c.1+1),c.2)
 else if decide ((nT s).1=[112,105,101,99,101])=true then (c.1,IntKind.wrap .i64 (c.2.1+1),c.2.2.1,IntKind.wrap .i64 (c.2.2.2+IntKind.wrap .i64 (((nT s).2.1.length:Int) - 4)))
 else if decide ((nT s).1=[99,111,109,101,115])=true then (c.1,c.2.1,IntKind.wrap .i64 (c.2.2.1+1),c.2.2.2) else c
def ZP(d:aW):Eu:=((d.1.2.2.2.1.length:Int),(d.1.2.2.1.length:Int),(d.1.2.2.2.2.1.length:Int),d.1.2.2.1.foldl (λn p=>IntKind.wrap .i64 (n+(p.2.2.2.2.length:Int))) 0)
def ars(c:Eu):Bool:=decide (c.1 > 3)||decide (c.2.1 > 4)||decide (c.2.2.1 > 3)||decide (c.2.2.2 > 4)
def uw(d:aW)(l:List aK):Bool:=
 if (uq d.1||H.lM d.2||decide ((l.length:Int) > 60))=true then true else if (l.any λs=>decide ((s.length:Int) > 80))=true then true
 else decide (jN d=0)&&ars (l.foldl (λc s=>PX s c) (ZP d))
abbrev I8(x:aW×List aK):Prop:=e' x.1.1/\H.iC x.1.2/\x.2.length<2 ^ 63
abbrev I9:aJ:=⟨.ax vY sI,.bool,I8,λx=>uw x.1 x.2⟩
theorem art(x):M.le (Yb sN.sh It.sh H.vA.sh A6.sh x) (I9.sh x):=M.bh λh=>by
 obtain⟨d,l⟩:=x;obtain⟨h1,h2,h3⟩:I8 (d,l):=h;have iS:d.1.2.2.1.length<2 ^ 63:=h1.2.2.1;change l.length<2 ^ 63 at h3;unfold Yb;show _=M.pure (uw d l);unfold uw;rw[show It.sh d.1=M.pure (uq d.1) from M.bF h1 _,M.aE,show H.vA.sh d.2=M.pure (H.lM d.2) from M.bF h2 _,M.kB,M.aE];have e:(uq d.1||(if (!uq d.1)=true then H.lM d.2 else false)||decide (Int.ofNat l.length > 60))=(uq d.1||H.lM d.2||decide ((l.length:Int) > 60)):=by grind
 rw[e];by_cases ar:(uq d.1||H.lM d.2||decide ((l.length:Int) > 60))=true
 ·grind
 ·rw[if_neg ar,if_neg ar];rw[M.dk d.1.2.2.1 (λi (n:Int)=>(l,(d.1.2.2.2.1.length:Int),(d.1.2.2.1.length:Int),(d.1.2.2.2.2.1.length:Int),n,(i:Int),d,())) (λp n=>.next (IntKind.wrap .i64 (n+(p.2.2.2.2.length:Int)))) (λn=>.next (l,(d.1.2.2.2.1.length:Int),(d.1.2.2.1.length:Int),(d.1.2.2.2.2.1.length:Int),n,d,())) 0 ?_ ?_ ?_]
  ·rw[dM,M.aE,M.bK];rw[M.dk l (λi (c:Eu)=>(l,c.1,c.2.1,c.2.2.1,c.2.2.2,(i:Int),d,())) (λs c=>if decide ((s.length:Int) > 80)=true then .done (.done true) else .next (PX s c)) (λc=>.next (c.1,c.2.1,c.2.2.1,c.2.2.2,d,())) (ZP d) ?_ ?_ ?_]
   ·rw[PS,M.aE];by_cases aU:(l.any λs=>decide ((s.length:Int) > 80))=true
    ·simp_all
    ·rw[if_neg aU,if_neg aU,M.bK];rw[show sN.sh d=M.pure (jN d) from M.bF ⟨h1,h2⟩ _,M.aE];rfl
   ·rfl
   ·intro i G c;have hw:=bo (n:=(i:Int)+1) (by omega) (by omega);simp only[Prod.cK,Prod.e6,Prod.gq,bJ,cE G,if_true,cT G,cq G,M.bg,b7];by_cases hc:decide ((l[i].length:Int) > 80)=true
    ·simp_all
    ·rw[if_neg hc,if_neg hc];rw[PV (by grind),M.aE];unfold PX;split
     ·simp_all
     ·split
      ·simp_all
      ·split
       ·simp_all
       ·split
        ·rw[M.aE,M.bK];simp only[hw];rfl
        ·rw[M.aE,M.bK];simp only[hw];rfl
   simp
  ·rfl
  ·intro i G n;have hw:=bo (n:=(i:Int)+1) (by omega) (by omega);simp_all
  simp
abbrev Ev:aJ:=⟨.ax vY (.ax sI (.int .i64)),.bool,λx=>I8 (x.1,x.2.1),λx=>!uw x.1 x.2.1&&decide (jN x.1=0)&&decide ((x.2.1.length:Int)<=x.2.2)⟩
theorem aru(x):M.le (Ya I9.sh sN.sh x) (Ev.sh x):=M.bh λh=>by
 obtain⟨d,l,n⟩:=x;obtain⟨h1,h2,h3⟩:I8 (d,l):=h;unfold Ya;rw[show I9.sh (d,l)=M.pure (uw d l) from M.bF ⟨h1,h2,h3⟩ _,M.aE,show sN.sh d=M.pure (jN d) from M.bF ⟨h1,h2⟩ _,M.kB,M.aE];grind
theorem arv{d:aW}{l:List aK}{n:Int}(h1:e' d.1)(h2:H.iC d.2)(h:(!uw d l&&decide (jN d=0)&&decide ((l.length:Int)<=n))=true):db d/\(l.length:Int)<=n/\∀ s∈l,s.length<=80:=by
 simp only[Bool.and_eq_true,Bool.not_eq_true',decide_eq_true_eq]at h;obtain⟨⟨ar,he⟩,aA⟩:=h;unfold uw at ar;split at ar
 ·grind
 ·rename_i aU;split at ar
  ·grind
  ·rename_i ab;simp only[Bool.or_eq_true,not_or,Bool.not_eq_true]at aU;refine⟨ZI h1 (H.amu aU.1.2) he,aA,λs hs=>?_⟩;grind
theorem arw:e' oJ.1/\H.iC oJ.2:=⟨apP,by decide,by decide,by decide,by decide⟩
theorem arx:H.gu oJ.2:=⟨⟨by decide,by decide,by decide,by decide⟩,λ_=>by decide +kernel⟩
abbrev Ew:aJ:=⟨.cy,.bool,λ_=>True,λ_=>true⟩
theorem ary:v_ oJ o9=(IY,(fw (fi oJ) o9).2,0):=by
 unfold v_;rw[if_neg (by rw[aq4];decide),if_neg (by decide),PR.1]
theorem arz(x):M.le (Yf uu.sh Er.sh IX.sh x) (Ew.sh x):=M.bh λ_=>by
 unfold Yf;rw[show IX.sh ()=M.pure oJ from rfl,M.aE];show M.bind (uu.sh (oJ,o9)) _=M.pure true;rw[show uu.sh (oJ,o9)=M.pure (v_ oJ o9) from M.bF ⟨arw.1,arx,by decide,by decide⟩ _,M.aE,ary];show M.bind (b3 (decide ((0:Int)=0)) (Er.sh (IY,IY)) false) _=_;rw[ark (by decide),M.kB,M.aE];simp only[bJ,PR.2.1,PR.2.2];simp
theorem arA:Ew.sh ()=M.pure true:=rfl
theorem ZQ{d:aW}(au:db d){l:List aK}(axL:l.length<=40)(ai:∀ s∈l,s.length<=10000):uu.sh (d,l)=M.pure ((fw (fi d) l).1,(fw (fi d) l).2,0):=by
 have e:uu.sh (d,l)=M.pure (v_ d l):=M.bF ⟨au.gN,au.gu,by show l.length<2 ^ 63;omega,ai⟩ _;rw[e];unfold v_;rw[if_neg (by rw[au.aqe];decide),if_neg (by omega)]
theorem Gw{d:aW}{l:List aK}{n:Int}(h1:e' d.1)(h2:H.iC d.2)(h3:l.length<2 ^ 63):Ev.sh (d,l,n)=M.pure (!uw d l&&decide (jN d=0)&&decide ((l.length:Int)<=n)):=M.bF ⟨h1,h2,h3⟩ _
theorem arB{E:aW}(l:List aK):(l.zip (fw E l).1).length=l.length:=by rw[List.length_zip,PG,Nat.min_self]
end Go.Fer.W
namespace Go.Proofs
open Go.Shelf
theorem cj{P:Program}{k:Nat}{f g:Func}(h:P.funcs[k]?=some f)(e:f=g:=by kernel_rfl):P.funcs[k]?=some g:=h.trans (congrArg some e)
open Tryz
def Tryz.ZR:Go.Shelf.Ren:=⟨fun | 156=>258 | 165=>318 | 166=>319 | 169=>320 | 240=>358 | 241=>359 | 276=>386 | 277=>387 | n=>n,fun | 31=>48 | 9=>9 | 3=>3 | 4=>4 | 0=>0 | 20=>20 | 72=>345 | 76=>267 | 70=>343 | 37=>171 | 75=>266 | 127=>380 | 164=>405 | 5=>5 | 80=>347 | n=>n,fun | n=>n⟩
theorem Tryz.ZS : Go.Proofs.Lays.n156 Tryz.prog Tryz.ZR := {
  mixed:=by kernel_rfl
  f156:=cj func258
  f165:=cj func318
  f166:=cj func319
  f169:=cj func320
  f240:=cj func358
  f241:=cj func359
  f276:=cj func386
  f277:=cj func387
  t0:=underlying0
  a0:=isAgg0
  z0:=sizeOf0
  v0:=zeroValue0
  t3:=underlying3
  a3:=isAgg3
  z3:=sizeOf3
  v3:=zeroValue3
  t4:=underlying4
  a4:=isAgg4
  z4:=sizeOf4
  v4:=zeroValue4
  t9:=underlying9
  a9:=isAgg9
  z9:=sizeOf9
  v9:=zeroValue9
  t20:=underlying20
  a20:=isAgg20
  z20:=sizeOf20
  v20:=zeroValue20
  t31:=underlying48
  a31:=isAgg48
  z31:=sizeOf48
  v31:=zeroValue48
  t37:=underlying171
  a37:=isAgg171
  z37:=sizeOf171
  v37:=zeroValue171
  t70:=underlying343
  a70:=isAgg343
  z70:=sizeOf343
  v70:=zeroValue343
  t72:=underlying345
  a72:=isAgg345
  z72:=sizeOf345
  v72:=zeroValue345
  t75:=underlying266
  a75:=isAgg266
  z75:=sizeOf266
  v75:=zeroValue266
  t76:=underlying267
  a76:=isAgg267
  z76:=sizeOf267
  v76:=zeroValue267
  t127:=underlying380
  a127:=isAgg380
  z127:=sizeOf380
  v127:=zeroValue380
  t164:=underlying405
  a164:=isAgg405
  z164:=sizeOf405
  v164:=zeroValue405 }
theorem Tryz.ZT : Builder.Extra Tryz.prog Tryz.ZR := {
  sizeBuilder:=by kernel_rfl
  liesBuilder:=by kernel_rfl
  t5:=underlying5
  a5:=isAgg5
  z5:=sizeOf5
  v5:=zeroValue5
  infoByte:=by kernel_rfl
  cellsByte:=by kernel_rfl
  sizeByte:=by kernel_rfl
  neB5:=by decide }
def Tryz.arC:Go.Shelf.Ren:=⟨fun | 171=>204 | 243=>264 | 246=>330 | 283=>368 | 284=>369 | 285=>370 | 286=>371 | 129=>291 | 317=>392 | 318=>393 | 319=>394 | 320=>395 | 337=>399 | 338=>400 | n=>n,fun | 3=>3 | 9=>9 | 2=>2 | 4=>4 | 171=>386 | 0=>0 | 53=>285 | 37=>171 | 5=>5 | 173=>388 | 212=>418 | 51=>282 | 20=>20 | 213=>419 | 46=>228 | 232=>423 | 233=>424 | n=>n,fun | 17=>5 | 18=>6 | 19=>7 | n=>n⟩
theorem Tryz.ZU : Go.Proofs.LaysM.n171 Tryz.prog Tryz.arC := {
  mixed:=by kernel_rfl
  f129:=cj func291
  f171:=cj func204
  f243:=cj func264
  f246:=cj func330
  f283:=cj func368
  f284:=cj func369
  f285:=cj func370
  f286:=cj func371
  f317:=cj func392
  f318:=cj func393
  f319:=cj func394
  f320:=cj func395
  f337:=cj func399
  f338:=cj func400
  t0:=underlying0
  a0:=isAgg0
  z0:=sizeOf0
  v0:=zeroValue0
  t2:=underlying2
  a2:=isAgg2
  z2:=sizeOf2
  v2:=zeroValue2
  t3:=underlying3
  a3:=isAgg3
  z3:=sizeOf3
  v3:=zeroValue3
  t4:=underlying4
  a4:=isAgg4
  z4:=sizeOf4
  v4:=zeroValue4
  t5:=underlying5
  a5:=isAgg5
  z5:=sizeOf5
  v5:=zeroValue5
  t9:=underlying9
  a9:=isAgg9
  z9:=sizeOf9
  v9:=zeroValue9
  t20:=underlying20
  a20:=isAgg20
  z20:=sizeOf20
  v20:=zeroValue20
  t37:=underlying171
  a37:=isAgg171
  z37:=sizeOf171
  v37:=zeroValue171
  t46:=underlying228
  a46:=isAgg228
  z46:=sizeOf228
  v46:=zeroValue228
  t51:=underlying282
  a51:=isAgg282
  z51:=sizeOf282
  v51:=zeroValue282
  t53:=underlying285
  a53:=isAgg285
  z53:=sizeOf285
  v53:=zeroValue285
  t171:=underlying386
  a171:=isAgg386
  z171:=sizeOf386
  v171:=zeroValue386
  t173:=underlying388
  a173:=isAgg388
  z173:=sizeOf388
  v173:=zeroValue388
  t212:=underlying418
  a212:=isAgg418
  z212:=sizeOf418
  v212:=zeroValue418
  t213:=underlying419
  a213:=isAgg419
  z213:=sizeOf419
  t232:=underlying423
  a232:=isAgg423
  z232:=sizeOf423
  v232:=zeroValue423
  t233:=underlying424
  a233:=isAgg424
  z233:=sizeOf424
  v233:=zeroValue424
  g17:=by kernel_rfl
  g18:=by kernel_rfl
  g19:=by kernel_rfl
  i0:=by kernel_rfl
  i2:=by kernel_rfl
  i3:=by kernel_rfl
  i4:=by kernel_rfl
  i5:=by kernel_rfl
  i9:=by kernel_rfl
  i20:=by kernel_rfl
  i37:=by kernel_rfl
  i46:=by kernel_rfl
  i51:=by kernel_rfl
  i53:=by kernel_rfl
  i171:=by kernel_rfl
  i173:=by kernel_rfl
  i212:=by kernel_rfl
  i232:=by kernel_rfl
  i233:=by kernel_rfl
  m17:=by kernel_rfl
  m18:=by kernel_rfl
  m19:=by kernel_rfl }
def Tryz.arD:Go.Shelf.Ren:=⟨fun | 172=>203 | 244=>262 | 245=>263 | 247=>325 | 279=>326 | 280=>327 | 281=>328 | 282=>329 | 287=>365 | 316=>366 | 171=>204 | 205=>367 | 321=>390 | 322=>391 | 243=>264 | 246=>330 | 283=>368 | 284=>369 | 285=>370 | 286=>371 | 129=>291 | 317=>392 | 318=>393 | 319=>394 | 320=>395 | 337=>399 | 338=>400 | n=>n,fun | 9=>9 | 3=>3 | 75=>266 | 76=>267 | 4=>4 | 5=>5 | 167=>351 | 37=>171 | 0=>0 | 85=>352 | 2=>2 | 168=>354 | 53=>285 | 175=>381 | 46=>228 | 210=>384 | 127=>380 | 145=>416 | 143=>414 | 21=>21 | 171=>386 | 173=>388 | 212=>418 | 51=>282 | 20=>20 | 213=>419 | 232=>423 | 233=>424 | 80=>347 | n=>n,fun | 15=>1 | 16=>2 | 17=>5 | 18=>6 | 19=>7 | n=>n⟩
theorem Tryz.PY : Go.Proofs.LaysC.n172 Tryz.prog Tryz.arD := {
  mixed:=by kernel_rfl
  f129:=cj func291
  f171:=cj func204
  f172:=cj func203
  f205:=cj func367
  f243:=cj func264
  f244:=cj func262
  f245:=cj func263
  f246:=cj func330
  f247:=cj func325
  f279:=cj func326
  f280:=cj func327
  f281:=cj func328
  f282:=cj func329
  f283:=cj func368
  f284:=cj func369
  f285:=cj func370
  f286:=cj func371
  f287:=cj func365
  f316:=cj func366
  f317:=cj func392
  f318:=cj func393
  f319:=cj func394
  f320:=cj func395
  f321:=cj func390
  f322:=cj func391
  f337:=cj func399
  f338:=cj func400
  t0:=underlying0
  a0:=isAgg0
  z0:=sizeOf0
  v0:=zeroValue0
  t2:=underlying2
  a2:=isAgg2
  z2:=sizeOf2
  v2:=zeroValue2
  t3:=underlying3
  a3:=isAgg3
  z3:=sizeOf3
  v3:=zeroValue3
  t4:=underlying4
  a4:=isAgg4
  z4:=sizeOf4
  v4:=zeroValue4
  t5:=underlying5
  a5:=isAgg5
  z5:=sizeOf5
  v5:=zeroValue5
  t9:=underlying9
  a9:=isAgg9
  z9:=sizeOf9
  v9:=zeroValue9
  t20:=underlying20
  a20:=isAgg20
  z20:=sizeOf20
  v20:=zeroValue20
  t21:=underlying21
  a21:=isAgg21
  z21:=sizeOf21
  v21:=zeroValue21
  t37:=underlying171
  a37:=isAgg171
  z37:=sizeOf171
  v37:=zeroValue171
  t46:=underlying228
  a46:=isAgg228
  z46:=sizeOf228
  v46:=zeroValue228
  t51:=underlying282
  a51:=isAgg282
  z51:=sizeOf282
  v51:=zeroValue282
  t53:=underlying285
  a53:=isAgg285
  z53:=sizeOf285
  v53:=zeroValue285
  t75:=underlying266
  a75:=isAgg266
  z75:=sizeOf266
  v75:=zeroValue266
  t76:=underlying267
  a76:=isAgg267
  z76:=sizeOf267
  v76:=zeroValue267
  t85:=underlying352
  a85:=isAgg352
  z85:=sizeOf352
  v85:=zeroValue352
  t127:=underlying380
  a127:=isAgg380
  z127:=sizeOf380
  v127:=zeroValue380
  t143:=underlying414
  a143:=isAgg414
  z143:=sizeOf414
  v143:=zeroValue414
  t145:=underlying416
  a145:=isAgg416
  z145:=sizeOf416
  v145:=zeroValue416
  t167:=underlying351
  a167:=isAgg351
  z167:=sizeOf351
  v167:=zeroValue351
  t168:=underlying354
  a168:=isAgg354
  z168:=sizeOf354
  v168:=zeroValue354
  t171:=underlying386
  a171:=isAgg386
  z171:=sizeOf386
  v171:=zeroValue386
  t173:=underlying388
  a173:=isAgg388
  z173:=sizeOf388
  v173:=zeroValue388
  t175:=underlying381
  a175:=isAgg381
  z175:=sizeOf381
  v175:=zeroValue381
  t210:=underlying384
  a210:=isAgg384
  z210:=sizeOf384
  v210:=zeroValue384
  t212:=underlying418
  a212:=isAgg418
  z212:=sizeOf418
  v212:=zeroValue418
  t213:=underlying419
  a213:=isAgg419
  z213:=sizeOf419
  t232:=underlying423
  a232:=isAgg423
  z232:=sizeOf423
  v232:=zeroValue423
  t233:=underlying424
  a233:=isAgg424
  z233:=sizeOf424
  v233:=zeroValue424
  g15:=by kernel_rfl
  g16:=by kernel_rfl
  g17:=by kernel_rfl
  g18:=by kernel_rfl
  g19:=by kernel_rfl
  t80:=underlying347
  a80:=isAgg347
  z80:=sizeOf347
  v80:=zeroValue347
  i0:=by kernel_rfl
  i2:=by kernel_rfl
  i3:=by kernel_rfl
  i4:=by kernel_rfl
  i5:=by kernel_rfl
  i9:=by kernel_rfl
  i20:=by kernel_rfl
  i21:=by kernel_rfl
  i37:=by kernel_rfl
  i46:=by kernel_rfl
  i51:=by kernel_rfl
  i53:=by kernel_rfl
  i75:=by kernel_rfl
  i76:=by kernel_rfl
  i80:=by kernel_rfl
  i85:=by kernel_rfl
  i127:=by kernel_rfl
  i143:=by kernel_rfl
  i145:=by kernel_rfl
  i167:=by kernel_rfl
  i168:=by kernel_rfl
  i171:=by kernel_rfl
  i173:=by kernel_rfl
  i175:=by kernel_rfl
  i210:=by kernel_rfl
  i212:=by kernel_rfl
  i232:=by kernel_rfl
  i233:=by kernel_rfl
  m15:=by kernel_rfl
  m16:=by kernel_rfl
  m17:=by kernel_rfl
  m18:=by kernel_rfl
  m19:=by kernel_rfl
  c0:=by kernel_rfl
  c2:=by kernel_rfl
  c3:=by kernel_rfl
  c4:=by kernel_rfl
  c5:=by kernel_rfl
  c9:=by kernel_rfl
  c20:=by kernel_rfl
  c21:=by kernel_rfl
  c37:=by kernel_rfl
  c46:=by kernel_rfl
  c51:=by kernel_rfl
  c53:=by kernel_rfl
  c75:=by kernel_rfl
  c76:=by kernel_rfl
  c80:=by kernel_rfl
  c85:=by kernel_rfl
  c127:=by kernel_rfl
  c143:=by kernel_rfl
  c145:=by kernel_rfl
  c167:=by kernel_rfl
  c168:=by kernel_rfl
  c171:=by kernel_rfl
  c173:=by kernel_rfl
  c175:=by kernel_rfl
  c210:=by kernel_rfl
  c212:=by kernel_rfl
  c213:=by kernel_rfl
  c232:=by kernel_rfl
  c233:=by kernel_rfl }
open Go.RowKit in
theorem Tryz.strconv_Atoi_ok(s:ByteArray)(y2:s.size<=9223372036854775806)(v:Int)(h:Lib.atoiAll s.data.toList=.ok v)(w:World) :
  Calls Tryz.prog 203 #[.string s] w λe w'=>e=.returned (.tuple #[.int .i64 v,.nilIface])/\(w'=w\/∃ t,w'=Lib.bytesWorld w 5 t):=Any.strconv_Atoi_ok Tryz.PY s y2 v h w
open Go.RowKit in
theorem Tryz.strconv_Atoi_syntax(s:ByteArray)(rM:s.size<=281474976710656)(h:Lib.atoiAll s.data.toList=Lib.atoiAll [])(hW:Value)(w:World)(hv:w.cell? ⟨1,0,none⟩=some hW)(pq:hW=.nilIface\/∃ te pe,hW=.iface te pe) :
  Calls Tryz.prog 203 #[.string s] w λe w'=>∃ N,e=.returned (.tuple #[.int .i64 (0),.iface 354 (.pointer (some ⟨N,0,none⟩))])/\w.heap.size<=N/\w'.heap[N]?=some (.cells #[.string ⟨#[65,116,111,105]⟩,.string s,hW] 384 (0,0))/\Below w.heap.size w w':=Any.strconv_Atoi_syntax Tryz.PY s rM h hW w hv pq
open Go.RowKit in
theorem Tryz.strconv_Atoi_range(s:ByteArray)(rM:s.size<=281474976710656)(h:Lib.atoiAll s.data.toList=.range)(hW:Value)(w:World)(hv:w.cell? ⟨2,0,none⟩=some hW)(pq:hW=.nilIface\/∃ te pe,hW=.iface te pe) :
  Calls Tryz.prog 203 #[.string s] w λe w'=>∃ N,e=.returned (.tuple #[.int .i64 (Lib.atoiSat s.data.toList),.iface 354 (.pointer (some ⟨N,0,none⟩))])/\w.heap.size<=N/\w'.heap[N]?=some (.cells #[.string ⟨#[65,116,111,105]⟩,.string s,hW] 384 (0,0))/\Below w.heap.size w w':=Any.strconv_Atoi_range Tryz.PY s rM h hW w hv pq
def Tryz.arE:Go.Shelf.Ren:=⟨fun | 146=>139 | 221=>202 | 268=>259 | 138=>260 | 143=>261 | 195=>321 | 197=>322 | 218=>323 | 219=>324 | 260=>360 | 217=>361 | 225=>362 | 224=>363 | 267=>364 | 266=>388 | 314=>389 | n=>n,fun | 9=>9 | 31=>48 | 3=>3 | 4=>4 | 0=>0 | 105=>348 | 21=>21 | 5=>5 | 46=>228 | 119=>408 | 139=>411 | 138=>410 | 146=>283 | 51=>282 | n=>n,fun | 1=>0 | 3=>3 | 4=>4 | n=>n⟩
theorem Tryz.arF : Go.Proofs.Lays.n146 Tryz.prog Tryz.arE := {
  mixed:=by kernel_rfl
  f138:=cj func260
  f143:=cj func261
  f146:=cj func139
  f195:=cj func321
  f197:=cj func322
  f217:=cj func361
  f218:=cj func323
  f219:=cj func324
  f221:=cj func202
  f224:=cj func363
  f225:=cj func362
  f260:=cj func360
  f266:=cj func388
  f267:=cj func364
  f268:=cj func259
  f314:=cj func389
  t0:=underlying0
  a0:=isAgg0
  z0:=sizeOf0
  v0:=zeroValue0
  t3:=underlying3
  a3:=isAgg3
  z3:=sizeOf3
  v3:=zeroValue3
  t4:=underlying4
  a4:=isAgg4
  z4:=sizeOf4
  v4:=zeroValue4
  t5:=underlying5
  a5:=isAgg5
  z5:=sizeOf5
  v5:=zeroValue5
  t9:=underlying9
  a9:=isAgg9
  z9:=sizeOf9
  v9:=zeroValue9
  t21:=underlying21
  a21:=isAgg21
  z21:=sizeOf21
  v21:=zeroValue21
  t31:=underlying48
  a31:=isAgg48
  z31:=sizeOf48
  v31:=zeroValue48
  t46:=underlying228
  a46:=isAgg228
  z46:=sizeOf228
  v46:=zeroValue228
  t51:=underlying282
  a51:=isAgg282
  z51:=sizeOf282
  v51:=zeroValue282
  t105:=underlying348
  a105:=isAgg348
  z105:=sizeOf348
  v105:=zeroValue348
  t119:=underlying408
  a119:=isAgg408
  z119:=sizeOf408
  t138:=underlying410
  a138:=isAgg410
  z138:=sizeOf410
  v138:=zeroValue410
  t139:=underlying411
  a139:=isAgg411
  z139:=sizeOf411
  v139:=zeroValue411
  t146:=underlying283
  a146:=isAgg283
  z146:=sizeOf283
  v146:=zeroValue283
  g1:=by kernel_rfl
  g3:=by kernel_rfl
  g4:=by kernel_rfl }
def Tryz.arG:Go.Shelf.Ren:=⟨fun | 189=>161 | 125=>215 | 257=>214 | 128=>290 | 129=>291 | 294=>281 | 295=>282 | 296=>283 | 297=>284 | 298=>285 | 299=>286 | 216=>287 | 300=>288 | 301=>289 | 328=>340 | 329=>341 | 330=>342 | 331=>343 | 332=>344 | 215=>339 | 343=>383 | n=>n,fun | 28=>27 | 3=>3 | 46=>228 | 0=>0 | 51=>282 | 53=>285 | 4=>4 | 183=>314 | 182=>313 | 131=>193 | 5=>5 | 9=>9 | 218=>359 | 222=>363 | 228=>398 | 229=>331 | n=>n,fun | n=>n⟩
theorem Tryz.ZV : Go.Proofs.Lays.n189 Tryz.prog Tryz.arG := {
  mixed:=by kernel_rfl
  f125:=cj func215
  f128:=cj func290
  f129:=cj func291
  f189:=cj func161
  f215:=cj func339
  f216:=cj func287
  f257:=cj func214
  f294:=cj func281
  f295:=cj func282
  f296:=cj func283
  f297:=cj func284
  f298:=cj func285
  f299:=cj func286
  f300:=cj func288
  f301:=cj func289
  f328:=cj func340
  f329:=cj func341
  f330:=cj func342
  f331:=cj func343
  f332:=cj func344
  f343:=cj func383
  t0:=underlying0
  a0:=isAgg0
  z0:=sizeOf0
  v0:=zeroValue0
  t3:=underlying3
  a3:=isAgg3
  z3:=sizeOf3
  v3:=zeroValue3
  t4:=underlying4
  a4:=isAgg4
  z4:=sizeOf4
  v4:=zeroValue4
  t5:=underlying5
  a5:=isAgg5
  z5:=sizeOf5
  v5:=zeroValue5
  t9:=underlying9
  a9:=isAgg9
  z9:=sizeOf9
  v9:=zeroValue9
  t28:=underlying27
  a28:=isAgg27
  z28:=sizeOf27
  v28:=zeroValue27
  t46:=underlying228
  a46:=isAgg228
  z46:=sizeOf228
  v46:=zeroValue228
  t51:=underlying282
  a51:=isAgg282
  z51:=sizeOf282
  v51:=zeroValue282
  t53:=underlying285
  a53:=isAgg285
  z53:=sizeOf285
  v53:=zeroValue285
  t131:=underlying193
  a131:=isAgg193
  z131:=sizeOf193
  v131:=zeroValue193
  t182:=underlying313
  a182:=isAgg313
  z182:=sizeOf313
  v182:=zeroValue313
  t183:=underlying314
  a183:=isAgg314
  z183:=sizeOf314
  v183:=zeroValue314
  t218:=underlying359
  a218:=isAgg359
  z218:=sizeOf359
  v218:=zeroValue359
  t222:=underlying363
  a222:=isAgg363
  z222:=sizeOf363
  v222:=zeroValue363
  t228:=underlying398
  a228:=isAgg398
  z228:=sizeOf398
  v228:=zeroValue398
  t229:=underlying331
  a229:=isAgg331
  z229:=sizeOf331
  v229:=zeroValue331 }
def Tryz.arH:Go.Shelf.Ren:=⟨fun | 4=>257 | n=>n,fun | 22=>27 | 25=>3 | 3=>3 | 4=>4 | 9=>9 | 20=>20 | 0=>0 | n=>n,fun | n=>n⟩
theorem Tryz.ZW : Go.Proofs.Lays8.n4 Tryz.prog Tryz.arH := {
  mixed:=by kernel_rfl
  f4:=⟨Tryz.f257.name,by decide,cj func257⟩
  t0:=underlying0
  a0:=isAgg0
  z0:=sizeOf0
  v0:=zeroValue0
  t3:=underlying3
  a3:=isAgg3
  z3:=sizeOf3
  v3:=zeroValue3
  t4:=underlying4
  a4:=isAgg4
  z4:=sizeOf4
  v4:=zeroValue4
  t9:=underlying9
  a9:=isAgg9
  z9:=sizeOf9
  v9:=zeroValue9
  t20:=underlying20
  a20:=isAgg20
  z20:=sizeOf20
  v20:=zeroValue20
  t22:=underlying27
  a22:=isAgg27
  z22:=sizeOf27
  v22:=zeroValue27 }
def Tryz.arI:Go.Shelf.Ren:=⟨fun | 4=>256 | n=>n,fun | 22=>34 | 25=>125 | 3=>3 | 4=>4 | 9=>9 | 20=>20 | 0=>0 | n=>n,fun | n=>n⟩
theorem Tryz.ZX : Go.Proofs.Lays8.n4 Tryz.prog Tryz.arI := {
  mixed:=by kernel_rfl
  f4:=⟨Tryz.f256.name,by decide,cj func256⟩
  t0:=underlying0
  a0:=isAgg0
  z0:=sizeOf0
  v0:=zeroValue0
  t3:=underlying3
  a3:=isAgg3
  z3:=sizeOf3
  v3:=zeroValue3
  t4:=underlying4
  a4:=isAgg4
  z4:=sizeOf4
  v4:=zeroValue4
  t9:=underlying9
  a9:=isAgg9
  z9:=sizeOf9
  v9:=zeroValue9
  t20:=underlying20
  a20:=isAgg20
  z20:=sizeOf20
  v20:=zeroValue20
  t22:=underlying34
  a22:=isAgg34
  z22:=sizeOf34
  v22:=zeroValue34 }
end Go.Proofs
namespace Go.Fer.W
theorem ZY:∀ s:aK,(Go.Lib.index s [32]=-1/\cB s=[s])\/∃ t r,s=t++32::r/\Go.Lib.index s [32]=(t.length:Int)/\cB s=t::cB r
 | []=>.inl ⟨rfl,rfl⟩
 | b::l=>by
  unfold Go.Lib.index;by_cases ab:b=32
  ·subst ab;exact .inr ⟨[],l,rfl,by rfl,by rfl⟩
  ·have hp:List.isPrefixOf [32] (b::l)=false:=by
    grind
   rw[hp];have hs:=ur l;rcases ZY l with⟨h1,h2⟩ | ⟨t,r,h1,h2,h3⟩
   ·rw[h1];refine .inl ⟨rfl,?_⟩;unfold cB;grind
   ·rw[h2];refine .inr ⟨b::t,r,by grind,?_,?_⟩
    ·rfl
    ·conv=>lhs;unfold cB
     grind
theorem arJ:∀ (n:Nat) (s:aK),s.length<=n->Go.Lib.splitK [32] 0 (Go.Lib.count s [32]) s=cB s:=by
 intro n;induction n with
 | zero=>
  intro s h;have:s=[]:=List.eq_nil_of_length_eq_zero (by omega);subst this;rfl
 | succ n aG=>
  intro s h;rcases ZY s with⟨h1,h2⟩ | ⟨t,r,h1,h2,h3⟩
  ·rw[Go.Lib.count_miss h1,h2];rfl
  ·rw[Go.Lib.count_hit (by simp) h2,h3,Nat.add_comm,Go.Lib.splitK,h2];have:((t.length:Int) == -1)=false:=by rfl
   rw[this];have e:((t.length:Int)).toNat=t.length:=rfl;have WV:s.drop (t.length+1)=r:=by simp_all
   grind
end Go.Fer.W
namespace Go.Fer.nV
open Go Go.Proofs Go.RowKit
section
variable {P:Program} {F:Nat->Prop} {w:World}
theorem PZ(x:List UInt8):(ByteArray.mk x.toArray).data.toList=x:=by simp
theorem I_(x:List UInt8):(ByteArray.mk x.toArray).size=x.length:=by rfl
theorem P0{args:List Value}{x:List UInt8}(h:eY P .str F w args x):args=[.string ⟨x.toArray⟩]/\x.length<2 ^ 63:=by
 obtain⟨v,rfl,hv⟩:=(rz rfl).1 h;obtain⟨rfl,ai⟩:=lS.1 hv;grind
theorem arK{args:List Value}{x y:List UInt8}(h:eY P (.ax .str .str) F w args (x,y)):args=[.string ⟨x.toArray⟩,.string ⟨y.toArray⟩]/\x.length<2 ^ 63/\y.length<2 ^ 63:=by
 obtain⟨v,us,rfl,hv,hu⟩:=EM h;obtain⟨rfl,ai⟩:=lS.1 hv;obtain⟨rfl,fS⟩:=P0 hu;grind
theorem arL(w:World)(k:Nat)(os:Array Obj):Below w.heap.size w (Go.Sort.grow (w.drewN k) os):=by
 refine⟨rfl,rfl,rfl,?_,λj aC=>?_⟩
 ·simp
 ·show (w.heap++os)[j]?=_;grind
theorem I'(h:nk Tryz.prog F w){b:Nat}(ab:b<6):F b/\QC b λi=>w.cell? ⟨b,i,none⟩:=h b (Nat.lt_of_lt_of_le ab (of_decide_eq_true (by rfl)))
end
theorem ZZ(sep:ByteArray):∀ (k:Nat) (s:ByteArray),∀ x∈Lib.splitB sep 0 k s,x.size<=s.size
 | 0,s,x,hx=>by
  unfold Lib.splitB at hx;grind
 | k+1,s,x,hx=>by
  unfold Lib.splitB at hx;split at hx
  ·grind
  ·simp only[List.mem_cons]at hx;rcases hx with rfl | hx
   ·rw[ByteArray.size_extract];omega
   ·have:=ZZ sep k _ x hx;rw[ByteArray.size_extract]at this;omega
def p0(s sep:List UInt8):List (List UInt8):=(Lib.splitB ⟨sep.toArray⟩ 0 (Lib.countB ⟨s.toArray⟩ ⟨sep.toArray⟩) ⟨s.toArray⟩).map (·.data.toList)
theorem arM(s:List UInt8):p0 s [32]=W.cB s:=by
 unfold p0;rw[Lib.splitB_data];exact W.arJ s.length s (Nat.le_refl _)
abbrev arN:Code:=Tryz.f139.body.getD .skip
theorem arO:hL Tryz.prog 139 (.ax .str .str) (.slice .str) W.IS.sh where
 enter:=tL Tryz.func139 (show Tryz.f139.body=some arN by rfl) (by rfl)
 iD:=λF w args x bb fQ aU hs=>by
  obtain⟨s,sep⟩:=x;obtain⟨hs,h1⟩:s.length<=10000/\sep=[32]:=hs;subst h1;obtain⟨rfl,ai,fS⟩:=arK aU;obtain⟨_,m,an⟩:=I' fQ (b:=0) (by decide);have bU:1<=(ByteArray.mk [32].toArray).size:=by decide
  refine (Any.strings_Split Tryz.arF (by kernel_rfl) ⟨s.toArray⟩ ⟨[32].toArray⟩ m w (by rw[I_];omega) an bU).mono ?_;rintro e w' ⟨rfl,rfl⟩;have hlen:=Lib.splitB_all ⟨[32].toArray⟩ bU 0 _ ⟨s.toArray⟩ rfl;have q4:=Lib.countB_le ⟨[32].toArray⟩ bU _ ⟨s.toArray⟩ (Nat.le_refl _);rw[I_]at q4;have jZ:=ZZ ⟨[32].toArray⟩ (Lib.countB ⟨s.toArray⟩ ⟨[32].toArray⟩) ⟨s.toArray⟩;rw[I_]at jZ;have wM:(p0 s [32]).length=Lib.countB ⟨s.toArray⟩ ⟨[32].toArray⟩+1:=by unfold p0;grind
  refine⟨_,p0 s [32],rfl,arM s,⟨[_],rfl,(rz rfl).2 ⟨_,rfl,(dx rfl).2 ⟨rfl,some ⟨w.heap.size,0,none⟩,Lib.countB ⟨s.toArray⟩ ⟨[32].toArray⟩+1,by rw[wM],by omega,by omega,nofun,λp hp hc=>?_⟩⟩⟩,?_⟩
  ·cases hp;refine⟨.inr ⟨Nat.le_refl _,by simp⟩,rfl,λi G=>?_⟩;have c6:i<(Lib.splitB ⟨[32].toArray⟩ 0 (Lib.countB ⟨s.toArray⟩ ⟨[32].toArray⟩) ⟨s.toArray⟩).length:=by omega
   generalize aN:Lib.splitB ⟨[32].toArray⟩ 0 (Lib.countB ⟨s.toArray⟩ ⟨[32].toArray⟩) ⟨s.toArray⟩=B at c6 jZ hlen;have jf:(p0 s [32])[i]=B[i].data.toList:=by
    have h2:p0 s [32]=B.map (·.data.toList):=by unfold p0;rw[aN]
    grind
   have e0:Value.string B[i]=.string ⟨(B[i].data.toList).toArray⟩:=by simp
   refine⟨[.string B[i]],⟨.inr ⟨Nat.le_refl _,by simp⟩,rfl,λj aC=>?_⟩,?_,?_⟩
   ·have aC:j=0:=by grind
    subst aC;rw[uL (pP w _)];have e1:0+i*ae.size .str+0=i:=by show 0+i*1+0=i;omega
    grind
   ·simp_all
   ·have:=jZ _ (List.getElem_mem c6);have e:(B[i]).data.toList.length=(B[i]).size:=Array.length_toList;grind
  ·exact (Below.refl _ _).alloc (Nat.le_refl _) _
theorem Z0{F : Nat -> Prop}{w : World}(h : nk Tryz.prog F w) : Lib.TabIs Tryz.prog w "internal/strconv.uint64pow10" .u64 Lib.pow10Tab := by
 have bw:∀ i,w.cell? ⟨5,i,none⟩=if i<20 then some (.int .u64 (10 ^ i)) else none:=(I' h (b:=5) (by decide)).2
 unfold Lib.TabIs World.var?;rw[show Tryz.prog.globalNamed "internal/strconv.uint64pow10" = some 5 by rfl];show (match w.heap[5]? with | some (.cells cs _ _)=>some cs | _=>none)=_;have h0:=bw 0;cases ag:w.heap[5]? with
 | none=>simp[World.cell?,ag]at h0
 | some o=>
  cases o with
  | cells cs T ep=>
   simp only[Option.some.injEq];apply Array.ext_getElem?;intro i;have G:=bw i;simp only[World.cell?,ag,Option.isSome_none,Bool.false_eq_true,if_false]at G;rw[G];split
   ·rename_i Ja;simp only[List.getElem?_toArray,List.getElem?_map,Lib.pow10Tab];grind
   ·rename_i Ja;rw[Array.getElem?_eq_none];simp[Lib.pow10Tab];omega
  | _=>simp[World.cell?,ag]at h0
abbrev arP:Code:=Tryz.f204.body.getD .skip
theorem arQ{P:Program}{F:Nat->Prop}{w:World}{args:List Value}{x:Int}(h:eY P (.int .i64) F w args x):args=[.int .i64 x]/\fy .i64 x:=by
 obtain⟨v,rfl,hv⟩:=(rz rfl).1 h;obtain⟨rfl,ai⟩:=gy.1 hv;grind
theorem arR{n:Int}(h:fy .i64 n):-9223372036854775808<=n/\n<=9223372036854775807:=h
theorem arS:hL Tryz.prog 204 (.int .i64) .str W.IH.sh where
 enter:=tL Tryz.func204 (show Tryz.f204.body=some arP by rfl) (by rfl)
 iD:=λF w args x bb fQ aU hs=>by
  change Int at x;obtain⟨rfl,V⟩:=arQ aU;obtain⟨h0,h1⟩:=arR V;refine (Any.strconv_Itoa Tryz.ZU x h0 h1 w (Z0 fQ)).mono ?_;rintro e w' ⟨rfl,k,os,rfl⟩;have hx:W.pD x=Lib.itoa x:=by unfold W.pD;rw[bo h0 (by omega)]
  refine⟨_,W.pD x,rfl,rfl,⟨[_],rfl,(rz rfl).2 ⟨_,rfl,lS.2 ⟨by rw[hx],Nat.lt_of_le_of_lt (W.Po x) (by decide)⟩⟩⟩,arL w k os⟩
abbrev arT:Code:=Tryz.f258.body.getD .skip
theorem arU:hL Tryz.prog 258 (.ax (.slice .str) .str) .str W.El.sh where
 enter:=tL Tryz.func258 (show Tryz.f258.body=some arT by rfl) (by rfl)
 iD:=λF w args x bb fQ aU hs=>by
  obtain⟨l,sep⟩:=x;obtain⟨aA,hw,h1⟩:l.length<=60000/\(∀ w∈l,w.length<=21)/\sep.length=1:=hs;have zA:=W.Zv l sep 21 hw;have h1:sep.length=1:=h1;have aA:l.length<=60000:=aA;rw[h1]at zA;have aC:(Lib.join l sep).length<2 ^ 63:=by omega
  obtain⟨v,us,rfl,hv,hu⟩:=EM aU;obtain⟨rfl,_⟩:=P0 hu;obtain⟨_,p,cap,hZ,c2,c3,c4,c5⟩:=(dx rfl).1 hv;obtain rfl:v=.slice p l.length cap:=by grind
  change l.length<=cap at c2;have fin:∀ w',Below w.heap.size w w'->∃ v y,Ending.returned (.string ⟨(Lib.join l sep).toArray⟩)=.returned v/\(W.El.sh (l,sep)).bC y/\sW Tryz.prog .str (uB F w w') w' v y/\Below w.heap.size w w':=λw' ab=>
   ⟨_,Lib.join l sep,rfl,rfl,⟨[_],rfl,(rz rfl).2 ⟨_,rfl,lS.2 ⟨rfl,aC⟩⟩⟩,ab⟩
  by_cases ai:l=[]
  ·subst ai;refine (Any.strings_Join_none Tryz.ZS Tryz.ZT p cap ⟨sep.toArray⟩ w).mono ?_;rintro e w' ⟨rfl,rfl⟩;exact fin _ (Below.refl _ _)
  ·have kT:0<l.length:=List.length_pos_iff.2 ai;obtain⟨q,rfl⟩:∃ q,p=some q:=by
    cases p with
    | none=>grind
    | some q=>simp
   obtain⟨d1,d2,d3⟩:=c5 q rfl (by omega);obtain⟨arV,o,sp⟩:=q;obtain rfl:sp=none:=d2;have hlen:(l.map λx:List UInt8=>ByteArray.mk x.toArray).length=l.length:=List.length_map ..;have JT:(l.map λx:List UInt8=>ByteArray.mk x.toArray).map (·.data.toList)=l:=by rw[List.map_map];exact (List.map_congr_left λx _=>PZ x).trans (List.map_id _)
   have:=Any.strings_Join Tryz.ZS Tryz.ZT arV o cap (l.map λx:List UInt8=>ByteArray.mk x.toArray) ⟨sep.toArray⟩ w (λj x hx=>by
    rw[List.getElem?_map]at hx;obtain⟨y,aM,rfl⟩:=Option.map_eq_some_iff.1 hx;obtain⟨zA,rfl⟩:=List.getElem?_eq_some_iff.1 aM;obtain⟨a8,⟨_,_,e3⟩,e4⟩:=d3 j zA;obtain⟨rfl,_⟩:=e4;have:=e3 0 (by simp);simpa [ae.size]using this) (bb _ d1) (by omega) (by omega) (by grind)
   rw[hlen,JT,PZ]at this;refine this.mono ?_;simp_all
end Go.Fer.nV
namespace Go.Proofs
open Go.RowKit
theorem Tryz.arW{P:Program}{w w':World}{n:String}{k:IntKind}{zs:z1'}(h:Lib.TabIs P w n k zs)(ab:Below w.heap.size w w'):Lib.TabIs P w' n k zs:=by
 unfold Lib.TabIs World.var? at *
 cases az:P.globalNamed n with
 | none=>rw[az]at h;cases h
 | some g=>
  rw[az]at h;simp only[Option.bind_some]at h ⊢;by_cases bZ:g<w.heap.size
  ·rw[ab.block g bZ];exact h
  ·rw[Array.getElem?_eq_none (by omega)]at h;cases h
set_option maxHeartbeats 4000000 in
set_option maxRecDepth 1000000 in
theorem Tryz.arX(s:ByteArray)(w:World)(v:Int)(y2:s.size<=9223372036854775806)(h:Lib.atoiAll s.data.toList=.ok v)(h0:-9223372036854775808<=v)(h1:v<=9223372036854775807)
  (arY : Lib.TabIs Tryz.prog w "internal/strconv.uint64pow10" .u64 Lib.pow10Tab) :
  Calls Tryz.prog 140 #[.string s] w λe w'=>e=.returned (.tuple #[.int .i64 v,.bool (decide (s.size<=6)&&decide (0<=v)&&decide (Lib.itoa v=s.data.toList))])/\Below w.heap.size w w':=by
 go_enter Tryz.func140,Tryz.ntmps140;go_wp2_with fail;refine (Tryz.strconv_Atoi_ok s y2 v h w).mono ?_;rintro e b1 ⟨rfl,ly⟩;have l4:Below w.heap.size w b1:=by
  rcases ly with rfl | ⟨t,rfl⟩
  ·exact Below.refl _ _
  ·exact Lib.bytesWorld_below w 5 t
 have arZ:=Tryz.arW arY l4;clear ly;by_cases aO:(s.size:Int)<=6
 ·by_cases aP:v>=0
  ·go_wp2_with fail;refine (Any.strconv_Itoa Tryz.ZU v h0 h1 b1 arZ).mono ?_;rintro e cI ⟨rfl,k,os,rfl⟩;have qH:Below w.heap.size w (Go.Sort.grow (b1.drewN k) os):=l4.trans ⟨rfl,rfl,rfl,by show _<=(b1.heap++os).size;simp,λj aC=>by
    have:=l4.size;show (b1.heap++os)[j]?=_;rw[Array.getElem?_append_left (by omega)]⟩
   generalize Go.Sort.grow (b1.drewN k) os=cI at qH;go_wp2;go_returns;refine⟨congrArg Ending.returned (congrArg Value.tuple ?_),qH⟩;show #[Value.int IntKind.i64 v,Value.bool (Lib.itoa v == s.toList)]=_;rw[Go.ByteArray.toList_eq,show decide (s.size<=6)=true from decide_eq_true (by omega),show decide (0<=v)=true from decide_eq_true aP,Bool.true_and,Bool.true_and,show (Lib.itoa v == s.data.toList)=decide (Lib.itoa v=s.data.toList) by rw[Bool.eq_iff_iff];simp]
  ·go_wp2;go_returns;refine⟨congrArg Ending.returned (congrArg Value.tuple ?_),l4⟩;show #[Value.int IntKind.i64 v,Value.bool false]=_;rw[show decide (0<=v)=false from decide_eq_false (by omega),Bool.and_false,Bool.false_and]
 ·go_wp2;go_returns;refine⟨congrArg Ending.returned (congrArg Value.tuple ?_),l4⟩;show #[Value.int IntKind.i64 v,Value.bool false]=_;rw[show decide (s.size<=6)=false from decide_eq_false (by omega),Bool.false_and,Bool.false_and]
set_option maxHeartbeats 4000000 in
set_option maxRecDepth 1000000 in
theorem Tryz.ar0(s:ByteArray)(w:World)(rM:s.size<=281474976710656)(h:Lib.atoiAll s.data.toList=Lib.atoiAll [])(hW:Value)(hv:w.cell? ⟨1,0,none⟩=some hW)(pq:hW=.nilIface\/∃ te pe,hW=.iface te pe) :
  Calls Tryz.prog 140 #[.string s] w λe w'=>e=.returned (.tuple #[.int .i64 0,.bool false])/\Below w.heap.size w w':=by
 go_enter Tryz.func140,Tryz.ntmps140;go_wp2_with fail;refine (Tryz.strconv_Atoi_syntax s rM h hW w hv pq).mono ?_;rintro e b1 ⟨N,rfl,_,_,l4⟩;go_wp2;go_returns;exact⟨rfl,l4⟩
set_option maxHeartbeats 4000000 in
set_option maxRecDepth 1000000 in
theorem Tryz.ar1(s:ByteArray)(w:World)(rM:s.size<=281474976710656)(h:Lib.atoiAll s.data.toList=.range)(hW:Value)(hv:w.cell? ⟨2,0,none⟩=some hW)(pq:hW=.nilIface\/∃ te pe,hW=.iface te pe) :
  Calls Tryz.prog 140 #[.string s] w λe w'=>e=.returned (.tuple #[.int .i64 (Lib.atoiSat s.data.toList),.bool false])/\Below w.heap.size w w':=by
 go_enter Tryz.func140,Tryz.ntmps140;go_wp2_with fail;refine (Tryz.strconv_Atoi_range s rM h hW w hv pq).mono ?_;rintro e b1 ⟨N,rfl,_,_,l4⟩;go_wp2;go_returns;exact⟨rfl,l4⟩
end Go.Proofs
namespace Go.Fer.W
open M (aa)
theorem Z1:∀ (s:aK) (n:Int),0<=n->fJ s n≠-1->n<=fJ s n
 | [],n,_,_=>Int.le_refl _
 | c::s,n,h,h1=>by
  unfold fJ at h1 ⊢;split at h1
  ·omega
  ·rename_i hc;rw[if_neg hc];simp only[Bool.or_eq_true,decide_eq_true_eq,not_or]at hc;have:=Z1 s _ (by omega) h1;omega
theorem P1(d:UInt8):∀ (s:aK) (n:Int),0<=n->fJ (s++[d]) n=if fJ s n=-1 then -1 else if (decide ((d.toNat:Int)<48)||decide ((d.toNat:Int) > 57))=true then -1 else 10*fJ s n+((d.toNat:Int) - 48)
 | [],n,h=>by
  show fJ [d] n=if n=-1 then _ else _
  rw[if_neg (by omega)];rfl
 | c::s,n,h=>by
  rw[List.cons_append];conv=>lhs;unfold fJ
  by_cases hc:(decide ((c.toNat:Int)<48)||decide ((c.toNat:Int) > 57))=true
  ·rw[if_pos hc,show fJ (c::s) n=-1 by unfold fJ;grind,if_pos rfl]
  ·rw[if_neg hc,show fJ (c::s) n=fJ s (10*n+((c.toNat:Int) - 48)) from (if_neg hc:(if (decide ((c.toNat:Int)<48)||decide ((c.toNat:Int) > 57))=true then (-1:Int) else _)=_)];simp only[Bool.or_eq_true,decide_eq_true_eq,not_or]at hc;exact P1 d s _ (by omega)
theorem Jb(k:Nat)(h:k<10):((UInt8.ofNat (48+k)).toNat:Int)=48+k:=by
 have:(UInt8.ofNat (48+k)).toNat=(48+k) % 256:=UInt8.toNat_ofNat';omega
theorem ar2(u:Nat):fJ (Go.Lib.decDigits u) 0=u:=by
 induction u using Nat.strongRecOn with
 | _ u aG=>
  unfold Go.Lib.decDigits;split
  ·rename_i h;have:=Jb u h;unfold fJ;rw[if_neg (by grind),this];show (10*0+(48+(u:Int) - 48))=u;omega
  ·rename_i h;have au:=Jb (u % 10) (by omega);rw[P1 _ _ _ (Int.le_refl _),aG (u / 10) (by omega),if_neg (by omega),if_neg (by grind),au];omega
theorem ar3(u:Nat):Go.Lib.decDigits u≠[]/\(1<(Go.Lib.decDigits u).length->((Go.Lib.decDigits u).getD 0 0).toNat≠48):=by
 induction u using Nat.strongRecOn with
 | _ u aG=>
  by_cases h:u<10
  ·rw[Go.Lib.decDigits_one h];simp
  ·obtain⟨h1,h2⟩:=aG (u / 10) (by omega);have e:Go.Lib.decDigits u=Go.Lib.decDigits (u / 10)++[UInt8.ofNat (48+u % 10)]:=by
    conv=>lhs;unfold Go.Lib.decDigits
    grind
   rw[e];refine⟨by simp,λ_=>?_⟩;have ai:0<(Go.Lib.decDigits (u / 10)).length:=List.length_pos_iff.2 h1;rw[show (Go.Lib.decDigits (u / 10)++[UInt8.ofNat (48+u % 10)]).getD 0 0=(Go.Lib.decDigits (u / 10)).getD 0 0 by
    grind]
   by_cases h3:1<(Go.Lib.decDigits (u / 10)).length
   ·omega
   ·have pK:u / 10<10:=by
     refine Classical.byContradiction λaA=>h3 ?_;have e2:Go.Lib.decDigits (u / 10)=Go.Lib.decDigits (u / 10 / 10)++[UInt8.ofNat (48+u / 10 % 10)]:=by
      conv=>lhs;unfold Go.Lib.decDigits
      grind
     grind
    rw[Go.Lib.decDigits_one pK];have:=Jb (u / 10) pK;grind
theorem ar4:∀ (n:Nat) (s:aK),s.length=n->s≠[]->(1<s.length->(s.getD 0 0).toNat≠48)->fJ s 0≠-1->Go.Lib.decDigits (fJ s 0).toNat=s:=by
 intro n;induction n with
 | zero=>simp
 | succ n aG=>
  intro s h1 h2 h3 aR;obtain⟨a,d,rfl⟩:∃ a d,s=a++[d]:=⟨s.dropLast,s.getLast h2,(List.dropLast_concat_getLast h2).symm⟩
  rw[P1 _ _ _ (Int.le_refl _)]at aR ⊢;split at aR
  ·omega
  ·rename_i aU;split at aR
   ·omega
   ·rename_i au;rw[if_neg aU,if_neg au];simp only[Bool.or_eq_true,decide_eq_true_eq,not_or]at au;have LM:UInt8.ofNat (48+(d.toNat - 48))=d:=by
     apply UInt8.toNat_inj.1;rw[UInt8.toNat_ofNat'];omega
    by_cases aA:a=[]
    ·subst aA;have e:(10*fJ [] 0+((d.toNat:Int) - 48)).toNat=d.toNat - 48:=by show (10*0+((d.toNat:Int) - 48)).toNat=_;omega
     rw[e,Go.Lib.decDigits_one (by omega),LM];rfl
    ·have ai:0<a.length:=List.length_pos_iff.2 aA;have cz:(a.getD 0 0).toNat≠48:=by
      grind
     have hp:1<=fJ a 0:=by
      cases a with
      | nil=>grind
      | cons c r=>
       unfold fJ at aU ⊢;split at aU
       ·omega
       ·rename_i hc;rw[if_neg hc];simp only[Bool.or_eq_true,decide_eq_true_eq,not_or]at hc;have axM:c.toNat≠48:=cz;have:=Z1 r _ (by omega) aU;omega
     have G:=aG a (by grind) aA (λ_=>cz) aU;have e1:(10*fJ a 0+((d.toNat:Int) - 48)).toNat / 10=(fJ a 0).toNat:=by omega
     have e2:(10*fJ a 0+((d.toNat:Int) - 48)).toNat % 10=d.toNat - 48:=by omega
     conv=>lhs;unfold Go.Lib.decDigits
     grind
theorem ar5{s:aK}{v:Int}(h:Go.Lib.atoiAll s=.ok v):(decide (s.length<=6)&&decide (0<=v)&&decide (Go.Lib.itoa v=s))=decide (0<=eW s):=by
 rw[Bool.eq_iff_iff];simp only[Bool.and_eq_true,decide_eq_true_eq];constructor
 ·rintro⟨⟨cY,hv⟩,G⟩;obtain⟨u,rfl⟩:∃ u:Nat,v=u:=⟨v.toNat,by omega⟩
  have e:Go.Lib.itoa (u:Int)=Go.Lib.decDigits u:=by rfl
  rw[e]at G;obtain⟨aO,aP⟩:=ar3 u;rw[G]at aO aP;unfold eW;rw[if_neg]
  ·have:=ar2 u;grind
  grind
 ·intro aA;have e:=PO aA;rw[h]at e;obtain rfl:v=eW s:=by grind
  refine⟨⟨?_,aA⟩,?_⟩
  ·unfold eW at aA;grind
  ·have e:Go.Lib.itoa (eW s)=Go.Lib.decDigits (eW s).toNat:=by unfold Go.Lib.itoa;grind
   rw[e];unfold eW at aA ⊢;split at aA
   ·omega
   ·rename_i ab;rw[if_neg ab];simp only[Bool.or_eq_true,Bool.and_eq_true,decide_eq_true_eq,not_or,not_and]at ab;exact ar4 _ s rfl (λe=>ab.1.1 (by grind)) ab.2 (by omega)
theorem Z2{s:aK}(h:∀ v,Go.Lib.atoiAll s≠.ok v):decide (0<=eW s)=false:=decide_eq_false λaA=>h _ (PO aA)
end Go.Fer.W
namespace Go.Fer.nV
open Go Go.Proofs Go.RowKit
abbrev ar6:Code:=Tryz.f140.body.getD .skip
theorem ar7:hL Tryz.prog 140 .str (.ax (.int .i64) .bool) W.En.sh where
 enter:=tL Tryz.func140 (show Tryz.f140.body=some ar6 by kernel_rfl) (by kernel_rfl)
 iD:=λF w args x bb fQ aU hs=>by
  change List UInt8 at x;have hs:x.length<=10000:=hs;obtain⟨rfl,ai⟩:=P0 aU;have ab:=PZ x;have a_:=I_ x;have fin:∀ (n:Int) (b:Bool) (w':World),fy .i64 n->W.qS x=(n,b)->Below w.heap.size w w'->∃ v y,Ending.returned (.tuple #[.int .i64 n,.bool b])=.returned v/\(W.En.sh x).bC y/\sW Tryz.prog (.ax (.int .i64) .bool) (uB F w w') w' v y/\Below w.heap.size w w':=λn b w' V he yo=>
   ⟨_,(n,b),rfl,he.symm,⟨[.int .i64 n,.bool b],rfl,Bo.2 ⟨gy.2 ⟨rfl,V⟩,(rz rfl).2 ⟨_,rfl,eQ.2 rfl⟩⟩⟩,yo⟩
  cases he:Lib.atoiAll x with
  | ok v=>
   have hv:=Lib.atoiAll_bounds he;refine (Tryz.arX ⟨x.toArray⟩ w v (by rw[a_];omega) (by rw[ab];exact he) hv.1 hv.2 (Z0 fQ)).mono ?_;rintro e w' ⟨rfl,yo⟩;refine fin v _ w' hv ?_ yo;rw[ab,a_,W.ar5 he];unfold W.qS W.sJ;rw[he]
  | range=>
   obtain⟨_,hW,hv,pq⟩:=I' fQ (b:=2) (by decide);refine (Tryz.ar1 ⟨x.toArray⟩ w (by rw[a_];omega) (by rw[ab];exact he) hW hv pq).mono ?_;rintro e w' ⟨rfl,yo⟩;rw[ab]at *
   refine fin _ _ w' (Lib.atoiSat_bounds x) ?_ yo;unfold W.qS W.sJ;rw[he,W.Z2 λv h=>by rw[he]at h;cases h]
  | _=>
   obtain⟨_,hW,hv,pq⟩:=I' fQ (b:=1) (by decide);refine (Tryz.ar0 ⟨x.toArray⟩ w (by rw[a_];omega) (by rw[ab];exact he) hW hv pq).mono ?_;rintro e w' ⟨rfl,yo⟩;refine fin 0 _ w' (by decide) ?_ yo;unfold W.qS W.sJ;rw[he,W.Z2 λv h=>by rw[he]at h;cases h]
end Go.Fer.nV
namespace Go.Fer
open Go.RowKit
abbrev mj:ae:=.int .i64
def P2(x:z1'×Unit):M (z1'×Unit):=M.du (x.1.length<4611686018427387904) (x.1.mergeSort (λa b=>decide (a<=b)),())
def pH:IOC:=⟨⟨[(0,.own 200001)],[(200001,.a7 mj)]⟩,⟨[],[(200001,.a7 mj)]⟩,[],1,P2⟩
section
variable {P:Program} {F:Nat->Prop} {w:World}
theorem Z3{cs:Array Value}{off:Nat}{xs:z1'}(h:lg P mj F w cs off xs){i:Nat}(G:i<xs.length):cs[off+i]?=some (.int .i64 xs[i])/\fy .i64 xs[i]:=by
 obtain⟨a8,h1,h2,h3⟩:=h i G;subst h2;have:=h1 0 (by simp);refine⟨?_,h3⟩;have e:off+i*ae.size mj+0=off+i:=by show off+i*1+0=off+i;omega
 rw[e]at this;exact this
theorem ar8{cs:Array Value}{off:Nat}{xs:z1'}(h:∀ i (h:i<xs.length),cs[off+i]?=some (.int .i64 xs[i])/\fy .i64 xs[i]):lg P mj F w cs off xs:=λi G=>by
 obtain⟨h1,h2⟩:=h i G;refine⟨[.int .i64 xs[i]],λj aC=>?_,rfl,h2⟩;have aC:j=0:=by simpa using aC
 subst aC;have e:off+i*ae.size mj+0=off+i:=by show off+i*1+0=off+i;omega
 rw[e];exact h1
theorem ar9{cs:Array Value}{T:TypeId}{b off:Nat}{xs:z1'}(ab:w.heap[b]?=some (.cells cs T (0,0)))(h:lg P mj F w cs off xs):Go.Sort.Holds (Value.int .i64) w b off xs.toArray:=λj aC=>by
 have fz:j<xs.length:=by simpa using aC
 obtain⟨h1,_⟩:=Z3 h fz;refine⟨?_,by simp[World.frozen?,ab]⟩;simp only[World.cell?,ab];simp only[Option.isSome_none,Bool.false_eq_true,if_false];rw[h1];simp[fz]
theorem ar_{cs:Array Value}{off:Nat}{xs ys:z1'}(ai:ys.length=xs.length)(hin:∀ y∈ys,fy .i64 y)(bU:off+xs.length<=cs.size):lg P mj F w (Go.Sort.putCells (Value.int .i64) off ys.toArray cs) off ys:=by
 refine ar8 λi G=>⟨?_,hin _ (List.getElem_mem G)⟩
 have h1:off+i<cs.size:=by omega
 simp[Go.Sort.putCells,h1,G]
end
section
variable {P:Program} {U:dh}
theorem ar'{k:FuncId}(he:∀ args w,(callFunc k args).run P w=.ok (.enter k args) w)
  (h1:∀ (ad off cap:Nat) (zs:z1') (w:World),Go.Sort.Holds (Value.int .i64) w ad off zs.toArray->ad<w.heap.size->zs.length<4611686018427387904->Calls P k #[.slice (some ⟨ad,off,none⟩) zs.length cap] w λe w'=>
   e=.returned (.tuple #[])/\∃ n os,w'=Go.Sort.grow (Go.Sort.putRow (Value.int .i64) (Go.Sort.ahead w n) ad off (zs.mergeSort λx y=>decide (x<=y)).toArray) os)
  (h0:∀ (p:Option Addr) (cap:Nat) (w:World),Calls P k #[.slice p 0 cap] w λe w'=>e=.returned (.tuple #[])/\w'=w):IoSpec P U k pH where
 enter:=he
 iD C a w κ F A i' zM V au q1 ta h hs:=by
  obtain⟨xs,u⟩:=A;have hlen:xs.length<4611686018427387904:=hs;have bU:a.tmps.size=1:=h.di.trans q1;have p4:=h.bE 0;have ab:=h.bn 200001;change jm C.P _ κ F w (κ 200001) (.a7 mj xs) at ab;have hv:a.tmps.getD 0 undef=(κ 200001).slice xs.length:=p4.2 rfl rfl;have aU:a.tmps=#[(κ 200001).slice xs.length]:=by
   apply Array.ext (by simp[bU]);intro i G dp;have:i=0:=by omega
   subst this;rw[<-hv];simp[Array.getD,bU]
  have p9:∀ τ,τ=((xs.mergeSort (λx y=>decide (x<=y)),()):z1'×Unit)->(pH.sh (xs,u)).bC τ:=λτ e=>e;have nD:∀ {w':World} {F':Nat->Prop} {ys:z1'},ba C (ay.mk (pH.b2.st (xs,u)).aw λi=>if i=200001 then ⟨0,.a7 mj ys⟩ else (pH.b2.st (xs,u)).ad i) a w' κ F'->ba { C with nt:=0 } (pH.bC.st (ys,())) { tmps:=#[],defers:=[] } w' κ F':=λ{w' F' ys} jB=>by
   have e:(pH.bC.st (ys,())).ad=λi=>if i=200001 then (⟨0,.a7 mj ys⟩:bu) else (pH.b2.st (xs,u)).ad i:=by
    funext i;show et [(200001,bB.a7 mj ys)] i=if i=200001 then _ else et [(200001,bB.a7 mj xs)] i
    simp only[et];by_cases G:i=200001
    ·rw[if_pos G,if_pos G]
    ·rw[if_neg G,if_neg G,if_neg G]
   refine { di:=rfl,dfr:=au.symm,bE:=λi=>trivial,bn:=λb=>?_,own:=λb=>?_,inj:=λb aZ=>?_,cL:=jB.cL,gL:=jB.gL,hy:=jB.hy,gX:=jB.gX,eb:=jB.eb,size:=jB.size,dQ:=jB.dQ,fO:=Nat.zero_le _,j9:=jB.j9,jn:=λb r=>?_,jQ:=jB.jQ,j_:=λb k=>?_,pro:=λl aI L n st e=>(by cases e),jo:=jB.jo,ib:=jB.ib }
   ·rw[e];exact jB.bn b
   ·rw[e];exact jB.own b
   ·rw[e];exact jB.inj b aZ
   ·rw[e];exact jB.jn b r
   ·rw[e];exact jB.j_ b k
  subst i';rw[aU];by_cases aA:(κ 200001).eI=true
  ·have hx:xs=[]:=ab.1 aA;subst hx;have hZ:(κ 200001).slice 0=.slice none 0 0:=by simp[bm.slice,aA]
   rw[show ([]:z1').length=0 from rfl,hZ];refine (h0 none 0 w).mono ?_;rintro e w' ⟨rfl,rfl⟩;refine⟨_,([],()),[],κ,F,rfl,p9 _ (congrArg (λl=>(l,())) List.mergeSort_nil.symm),⟨[],rfl,rfl,rfl⟩,nD ?_⟩;have e:(λi=>if i=200001 then (⟨0,.a7 mj []⟩:bu) else (pH.b2.st ([],u)).ad i)=(pH.b2.st ([],u)).ad:=by
    funext i;by_cases G:i=200001
    ·subst G;rfl
    ·rw[if_neg G]
   rw[e];exact h
  ·have aA:(κ 200001).eI=false:=by simpa using aA
   obtain⟨cs,T,dd,dV,j8,nh,sQ⟩:=ab.2 aA;have fP:((pH.b2.st (xs,u)).ad 200001).body.bL (κ 200001)=true:=by show (!(κ 200001).eI)=true;rw[aA];rfl
   have ag:=h.own 200001 fP;have hZ:(κ 200001).slice xs.length=.slice (some ⟨(κ 200001).ad,(κ 200001).off,none⟩) xs.length (κ 200001).cap:=by simp[bm.slice,aA]
   rw[hZ];refine (h1 (κ 200001).ad (κ 200001).off (κ 200001).cap xs w (ar9 dd sQ) ag.1 hlen).mono ?_;rintro e w' ⟨rfl,n,os,rfl⟩;have hp:(xs.mergeSort λx y=>decide (x<=y)).Perm xs:=List.mergeSort_perm _ _;generalize jV:(xs.mergeSort λx y=>decide (x<=y))=ys at hp p9;have Z4:ys.length=xs.length:=hp.length_eq;have E6:(κ 200001).off+xs.length<=cs.size:=by
    have:(κ 200001).cap*ae.size mj=(κ 200001).cap:=Nat.mul_one _;omega
   have hin:∀ y∈ys,fy .i64 y:=λy aM=>by
    have:=hp.mem_iff.1 aM;obtain⟨i,G,rfl⟩:=List.getElem_of_mem this;exact (Z3 sQ G).2
   have asa:(Go.Sort.putRow (Value.int .i64) (Go.Sort.ahead w n) (κ 200001).ad (κ 200001).off ys.toArray).heap[(κ 200001).ad]?=some (.cells (Go.Sort.putCells (Value.int .i64) (κ 200001).off ys.toArray cs) T (0,0)):=by
    simp[Go.Sort.putRow,Go.Sort.mapBlock,Go.Sort.ahead,Array.getElem?_modify,dd,Go.Sort.onCells]
   have wh:ba C ((pH.b2.st (xs,u)).b' 200001 ⟨0,.a7 mj ys⟩) a (Go.Sort.putRow (Value.int .i64) (Go.Sort.ahead w n) (κ 200001).ad (κ 200001).off ys.toArray) κ F:=by
    refine h.oO (b:=200001) (x:=⟨0,.a7 mj ys⟩) fP ?_ ?_ nofun nofun (λr V=>?_) (by simp[Go.Sort.putRow,Go.Sort.mapBlock,Go.Sort.ahead]) ⟨rfl,rfl,rfl⟩ (λH mw iv kg=>⟨λhc=>absurd (aA.symm.trans hc) nofun,λ_=>?_⟩)
    ·show (!(κ 200001).eI)=true;rw[aA];rfl
    ·intro b;by_cases ab:b=200001
     ·subst ab;exact⟨Nat.le_refl _,λ_=>⟨nofun,λ_=>⟨rfl,rfl,Z4,rfl⟩,nofun,nofun⟩⟩
     ·show pO _ (if b=200001 then _ else _) _ _;rw[if_neg ab];exact pO.refl _ _
    ·simp[Go.Sort.putRow,Go.Sort.mapBlock,Go.Sort.ahead,Array.getElem?_modify,Ne.symm V]
    ·refine⟨_,T,asa,?_,?_,nh,ar_ Z4 hin E6⟩
     ·simpa [Go.Sort.putCells]using dV
     ·show ys.length<=_;omega
   refine⟨_,(ys,()),[],κ,_,rfl,p9 _ rfl,⟨[],rfl,rfl,rfl⟩,nD (wh.grow ?_)⟩;refine⟨rfl,rfl,rfl,by simp[Go.Sort.grow],λk ao=>?_⟩;simp only[Go.Sort.grow];rw[Array.getElem?_append_left ao]
end
end Go.Fer
namespace Go.Fer
open Go.RowKit
def asb(e:ae)(x:Int×Unit):M (List e.ah×Unit):=M.du (0<=x.1/\x.1<60000) ([],())
def ux(e:ae):IOC:=⟨⟨[(0,.cR),(1,.val (.int .i64))],[]⟩,⟨[(0,.own 50000)],[(50000,.a7 e)]⟩,[none],2,asb e⟩
section
variable {P:Program} {U:dh} {e:ae}
theorem Z5{C:bQ}{a:Act}{w w':World}{κ:Nat->bm}{F:Nat->Prop}{A:(ux e).b2.ah}(h:ba C ((ux e).b2.st A) a w κ F)(au:C.dfr=[]){kb:bm}{v:Value}
  (hv:v=kb.slice 0) (bU:w.heap.size<=w'.heap.size) (hw:∀ r,r<w.heap.size->w'.heap[r]?=w.heap[r]?) (hc:cM w w') (kU:kb.eI=false->kb.ad=w.heap.size/\w.heap.size<w'.heap.size)
  (aN:kb.eI=false->∃ cs T,w'.heap[kb.ad]?=some (.cells cs T (0,0))/\kb.off+kb.cap*e.size<=cs.size/\kb.cap<2 ^ 63) :
  ba { C with nt:=1 } ((ux e).bC.st ([],())) { tmps:=#[v],defers:=[] } w' (λi=>if i=50000 then kb else κ i) F:=by
 have ab:∀ b,((ux e).bC.st ([],())).ad b=if b=50000 then ⟨0,.a7 e []⟩ else ⟨0,.fb⟩:=λb=>rfl
 have aU:∀ b,b≠50000->((ux e).bC.st ([],())).ad b=⟨0,.fb⟩:=λb aA=>by rw[ab,if_neg aA]
 have bw:((ux e).bC.st ([],())).ad 50000=⟨0,.a7 e []⟩:=rfl;have fP:∀ b,(((ux e).bC.st ([],())).ad b).body.bL (if b=50000 then kb else κ b)=true->b=50000/\kb.eI=false:=λb ag=>by
  by_cases e:b=50000
  ·subst e;rw[bw,if_pos rfl]at ag;exact⟨rfl,by simpa [bB.bL]using ag⟩
  ·rw[aU b e]at ag;cases ag
 refine { di:=rfl,dfr:=au.symm,bE:=λi=>?_,bn:=λb=>?_,own:=λb ag=>?_,inj:=λb aZ h1 h2 _=>?_,cL:=λr V=>Nat.lt_of_lt_of_le (h.cL r V) bU,gL:=h.gL,hy:=h.hy,gX:=h.gX,eb:=λr V=>?_,size:=Nat.le_trans h.size bU,dQ:=h.dQ.trans hc,fO:=(by unfold eu;exact (by decide:1<=100000)),j9:=h.j9,jn:=λb r V iJ=>?_,jQ:=h.jQ,j_:=λb k ao _ G=>?_,pro:=λl aI L n st e=>(by cases e),jo:=h.jo,ib:=h.ib.mono (λ_ h=>h) ⟨bU,λr V=>hw r (h.cL r V)⟩ }
 ·by_cases G:i=0
  ·subst G;refine⟨⟨Nat.le_refl _,?_⟩,λ_ _=>?_⟩
   ·show v.oneCell'=true;rw[hv];unfold bm.slice;split<;>rfl
   ·show v=_;rw[hv];show kb.slice 0=(if (50000:Nat)=50000 then kb else κ 50000).slice 0;rw[if_pos rfl]
  ·have:((ux e).bC.st ([],())).aw i=.undef:=by
    show e5 [(0,aD.own 50000 0)] i=.undef;simp[e5,G]
   rw[this];trivial
 ·unfold cg;by_cases e1:b=50000
  ·subst e1;rw[bw];show jm _ _ _ _ _ (if (50000:Nat)=50000 then kb else κ 50000) (.a7 e []);rw[if_pos rfl];refine⟨λ_=>rfl,λaA=>?_⟩;obtain⟨cs,T,h1,h2,h3⟩:=aN aA;exact⟨cs,T,h1,h2,Nat.zero_le _,h3,λi G=>absurd G (Nat.not_lt_zero _)⟩
  ·rw[aU b e1];trivial
 ·obtain⟨rfl,aA⟩:=fP b ag;obtain⟨h1,h2⟩:=kU aA;rw[if_pos rfl,h1];refine⟨h2,λar=>?_,λao=>?_⟩
  ·have:=h.cL _ ar;omega
  ·have:=h.gX _ ao;have:=h.size;omega
 ·rw[(fP b h1).1,(fP aZ h2).1]
 ·have h1:=h.gX r V;rw[hw r (Nat.lt_of_lt_of_le h1 h.size)];exact h.eb r V
 ·by_cases e1:b=50000
  ·subst e1;rw[bw]at iJ;rcases iJ with h | h<;>cases h
  ·rw[aU b e1]at iJ;rcases iJ with h | h<;>cases h
 ·by_cases e1:b=50000
  ·subst e1;have:=h.jQ _ _ ao;unfold wz at this;omega
  ·rw[aU b e1]at G;cases G
theorem Z6{k:FuncId}(he:∀ args w,(callFunc k args).run P w=.ok (.enter k args) w)
  (h0:∀ w:World,Calls P k #[.slice none 0 0,.int .i64 0] w λe w'=>e=.returned (.slice none 0 0)/\w'=w)
  (h1:∀ (n:Nat) (w:World),0<n->n<60000->Calls P k #[.slice none 0 0,.int .i64 (n:Int)] w λy w'=>∃ (bV:Nat) (T:TypeId) (cs:Array Value),y=.returned (.slice (some ⟨w.heap.size,0,none⟩) 0 bV)/\
   w'=w.drew.alloc (.cells cs T)/\bV<2 ^ 63/\bV*e.size<=cs.size):IoSpec P U k (ux e) where
 enter:=he
 iD C a w κ F A i' zM V au q1 ta h hs:=by
  obtain⟨n,u⟩:=A;change Int at n;obtain⟨rR,pY⟩:0<=n/\n<60000:=hs;have bU:a.tmps.size=2:=h.di.trans q1;have asc:a.tmps.getD 0 undef=.slice none 0 0:=h.bE 0;have pQ:a.tmps.getD 1 undef=.int .i64 n:=(gy.1 (h.bE 1)).1;have aU:a.tmps=#[.slice none 0 0,.int .i64 n]:=by
   apply Array.ext (by simp[bU]);intro i G dp;have:i=0\/i=1:=by omega
   rcases this with rfl | rfl
   ·rw[<-asc];simp[Array.getD,bU]
   ·rw[<-pQ];simp[Array.getD,bU]
  subst i';rw[aU];by_cases a_:n=0
  ·subst a_;refine (h0 w).mono ?_;rintro y w' ⟨rfl,rfl⟩;refine⟨_,([],()),[.slice none 0 0],_,F,rfl,rfl,⟨[.slice none 0 0],rfl,rfl,[],rfl,rfl⟩,Z5 h au (kb:=⟨0,0,0,true⟩) rfl (Nat.le_refl _) (λ_ _=>rfl) (cM.refl _) nofun nofun⟩
  ·obtain⟨m,rfl⟩:∃ m:Nat,n=m:=⟨n.toNat,by omega⟩
   refine (h1 m w (by omega) (by omega)).mono ?_;rintro y w' ⟨bV,T,cs,rfl,rfl,fQ,oR⟩;refine⟨_,([],()),[.slice (some ⟨w.heap.size,0,none⟩) 0 bV],_,F,rfl,rfl,⟨[_],rfl,rfl,[],rfl,rfl⟩,Z5 h au (kb:=⟨w.heap.size,0,bV,false⟩) rfl (by simp) (λr V=>?_) ⟨rfl,rfl,rfl⟩ (λ_=>⟨rfl,by simp⟩) (λ_=>⟨cs,T,?_,by simpa using oR,fQ⟩)⟩
   ·exact oN w.drew _ V
   ·show (w.drew.heap.push _)[w.heap.size]?=_;exact Array.getElem?_push_size
theorem Z7{aF:Go.Shelf.Ren}(L:Go.Proofs.Lays8.n4 P aF)(w:World):Calls P (aF.f 4) #[.slice none 0 0,.int .i64 0] w λe w'=>e=.returned (.slice none 0 0)/\w'=w:=
 Go.Proofs.Any8.slices_Grow_room L none 0 0 0 w (Nat.le_refl _) (by decide) (by decide) (Nat.le_refl _)
theorem Z8{aF:Go.Shelf.Ren}(L:Go.Proofs.Lays8.n4 P aF)(aH:bP P e (aF.t 25))(hs:e.size≠0)(n:Nat)(w:World)(h0:0<n)(h1:n<60000) :
  Calls P (aF.f 4) #[.slice none 0 0,.int .i64 (n:Int)] w λy w'=>∃ (bV:Nat) (T:TypeId) (cs:Array Value),y=.returned (.slice (some ⟨w.heap.size,0,none⟩) 0 bV)/\w'=w.drew.alloc (.cells cs T)/\bV<2 ^ 63/\bV*e.size<=cs.size:=by
 obtain⟨i0,z,n6,bU,ab,Ko,asd,_⟩:=kc aH.ka;have mG:0<i0.size:=by omega
 have tn:=(BO (P:=P) e asd).2;refine (Go.Proofs.Any8.slices_Grow_grow L i0 z n6 Ko mG none 0 0 n [] w (Nat.le_refl _) (by omega) ?_ (by omega) (by simp) (λ_=>rfl) nofun).mono ?_
 ·have:(0+n)*i0.bytes<=(0+n)*1024:=Nat.mul_le_mul_left _ ab;omega
 ·rintro y w' ⟨rfl,rfl⟩;refine⟨_,_,_,rfl,rfl,?_,?_⟩
  ·have:=grownCap_le_maxLen w (0+n) 0 (aF.t 25) (by unfold maxLen;omega);unfold maxLen at this;omega
  ·have:=grownCap_ge w (0+n) 0 (aF.t 25);generalize grownCap w (0+n) 0 (aF.t 25)=bV at this;simp only[Array.size_append,size_zeroCells,tn];have e1:(0+n - 0)*e.size+(bV - (0+n))*e.size=bV*e.size:=by rw[<-Nat.add_mul];congr 1;omega
   have e2:(#[]:Array Value).size=0:=rfl;omega
end
end Go.Fer
namespace Go.Fer.nV
open Go.Proofs
def Ex(U:dh)(c:IOC)(sh:Nat->c.b2.ah->M c.bC.ah):List Nat->Prop
 | []=>True
 | k::l=>IoSpec Tryz.prog U k { c with sh:=sh k }/\Ex U c sh l
theorem Ex.mem{U:dh}{c:IOC}{sh:Nat->c.b2.ah->M c.bC.ah}:∀ {l:List Nat},Ex U c sh l->∀ k∈l,IoSpec Tryz.prog U k { c with sh:=sh k }
 | [],_,k,h=>by cases h
 | j::l,h,k,ao=>by
  rcases List.mem_cons.1 ao with rfl | ao
  ·exact h.1
  ·exact Ex.mem h.2 k ao
theorem yp{k:Nat}{e:ae}{f:List e.ah×Unit->M (List e.ah×Unit)}{sh:(ae.slice e).ah->M (ae.slice e).ah}(h:IoSpec Tryz.prog noU k ⟨⟨[(0,.val (.slice e))],[]⟩,⟨[(0,.own 60)],[(60,.a7 e)]⟩,[none],1,f⟩)
  (hp:∀ x:List e.ah,(sh x).b8->(f (x,())).b8/\∀ τ,(f (x,())).bC τ->τ.1=(sh x).val (ae.slice e).cN):nn (SC.ow ⟨.slice e,.slice e,sh,true⟩).tr=true/\B2 Tryz.prog k (SC.ow ⟨.slice e,.slice e,sh,true⟩):=
 aiv (by simp) h l9 (b0:=60) (λx=>(x,())) (λx=>rfl) rfl (by show 1<=eu;decide) rfl (λτ=>τ.1) (λτ=>⟨rfl,rfl⟩) hp
abbrev ase:Code:=Tryz.f161.body.getD .skip
theorem asf(U:dh):IoSpec Tryz.prog U 161 pH:=
 ar' (tL Tryz.func161 (show Tryz.f161.body=some ase by kernel_rfl) (by kernel_rfl)) (λad off cap zs w h1 h2 h3=>calls_of_every_depth λD=>AnyS.slices_Sort_int_in Tryz.ZV D ad off cap zs w h1 h2 h3)
  λp cap w=>Any.slices_Sort_int_none Tryz.ZV p cap w
theorem asg:P2=H.xP:=by
 funext x;unfold P2 H.xP;rw[show x.1.mergeSort (λa b=>decide (a<=b))=H.e7 H.gW x.1 from (H.z_ ((List.pairwise_mergeSort (le:=λa b:Int=>decide (a<=b)) (λa b c h1 h2=>by simp at h1 h2 ⊢;omega) (λa b=>by simp;omega) x.1).imp λh=>by simpa using h) (List.mergeSort_perm _ _).symm).symm]
def P3:IOC:=⟨⟨[(0,.own 200001)],[(200001,.a7 t3)]⟩,⟨[],[(200001,.a7 t3)]⟩,[],1,H.xP⟩
theorem Z9:IoSpec Tryz.prog noU 161 P3:=by
 have:=asf noU;unfold pH at this;rw[asg]at this;exact this
abbrev ash:Code:=Tryz.f257.body.getD .skip
abbrev asi:Code:=Tryz.f256.body.getD .skip
def Z_:IOC:=⟨⟨[(0,.cR),(1,.val t3)],[]⟩,⟨[(0,.own 50000)],[(50000,.a7 t3)]⟩,[none],2,H.Iw⟩
def Z':IOC:=⟨⟨[(0,.cR),(1,.val t3)],[]⟩,⟨[(0,.own 50000)],[(50000,.a7 H.gU)]⟩,[none],2,H.Ix⟩
theorem asj:IoSpec Tryz.prog noU 257 Z_:=
 Z6 (e:=t3) (tL Tryz.func257 (show Tryz.f257.body=some ash by kernel_rfl) (by kernel_rfl)) (Z7 Tryz.ZW) (Z8 Tryz.ZW (nI.bS (id:=3) rfl (by decide)) (by decide))
theorem asl:IoSpec Tryz.prog noU 256 Z':=
 Z6 (e:=H.gU) (tL Tryz.func256 (show Tryz.f256.body=some asi by kernel_rfl) (by kernel_rfl)) (Z7 Tryz.ZX) (Z8 Tryz.ZX (nI.bS (id:=125) rfl (by decide)) (by decide))
def g1:=ait.cons (n:=139) (c:=W.IS.c7) ⟨arO,λ_ _=>M.vg⟩
def dR:=g1.cons (n:=204) (c:=W.IH.c7) ⟨arS,λ_ _=>M.vg⟩
def g3:=dR.cons (n:=258) (c:=W.El.c7) ⟨arU,λ_ _=>M.vg⟩
def asm:=g3.cons (n:=140) (c:=W.En.c7) ⟨ar7,λ_ _=>M.vg⟩
end Go.Fer.nV
namespace Go.Fer.W
open M (aa)
open H (hG)
theorem asn{d:aW}{m:List H.aV}{v:z1'}:(pF d m v).1≠mi->(pF d m v).2=d:=by
 unfold pF;grind
theorem aaa{d:aW}{s:br}:(lR d s).1≠mi->(lR d s).2=d:=by
 unfold lR;grind
theorem aso(j:Nat)(d:aW)(l:z1'):(ru j d l).1≠mi->(ru j d l).2=d:=by
 unfold ru;split<;>first
  | exact λ_=>rfl
  | exact asn
  | exact aaa
  | (unfold vZ;grind)
  | (unfold v8;grind)
  | (unfold v7;split;exact λ_=>rfl;exact aaa)
theorem asp{d:aW}{s:aK}(h:(jj d s).1≠mi):(jj d s).2=d:=by
 unfold jj at h ⊢;cases hp:A1 s with
 | none=>rfl
 | some q=>
  obtain⟨j,l⟩:=q;rw[hp]at h;exact aso j d l h
abbrev uy(s:aK):Prop:=s.getD 0 0≠111
theorem uy.asq{s:aK}(h:uy s):s≠mi:=λe=>h (by rw[e];rfl)
theorem asr(u:Nat):∃ c s,Go.Lib.decDigits u=c::s/\c.toNat<=57:=by
 induction u using Nat.strongRecOn with
 | _ u aG=>
  unfold Go.Lib.decDigits;split
  ·rename_i h;have:=Jb u h;exact⟨_,_,rfl,by omega⟩
  ·rename_i h;obtain⟨c,s,h1,h2⟩:=aG (u / 10) (by omega);exact⟨c,_,by rw[h1];rfl,h2⟩
theorem ass(n:Int)(r:aK):uy (pD n++r):=by
 unfold pD Go.Lib.itoa;split
 ·exact λh=>absurd (show (45:UInt8)=111 from h) (by decide)
 ·obtain⟨c,s,h1,h2⟩:=asr (IntKind.wrap .i64 n).toNat;rw[h1];intro h;have h:c=111:=h;subst h;exact absurd h2 (by decide)
theorem aab(l:z1')(r:aK):uy (pE l++r):=by
 unfold pE;split
 ·exact λh=>absurd (show (110:UInt8)=111 from h) (by decide)
 ·cases l with
  | nil=>contradiction
  | cons n l=>
   rw[List.map_cons,Go.Lib.join_cons,List.append_assoc];exact ass _ _
theorem Jc(e:Int)(l:z1'):uy (oH e l):=by
 unfold oH;split
 ·have:=aab l [];rwa [List.append_nil]at this
 ·split<;>decide
theorem ast(r:z1'×Int):uy (Ej r):=by
 unfold Ej;split
 ·exact Jc _ _
 ·split
  ·decide
  ·exact λh=>absurd (show (115:UInt8)=111 from h) (by decide)
theorem asu(r:z1'×z1'×Int):uy (Ek r):=by
 unfold Ek;split
 ·exact Jc _ _
 ·rw[List.append_assoc];exact aab _ _
theorem asv(r:Int×Int):uy (rm r):=by
 unfold rm;split
 ·exact Jc _ _
 ·generalize r.1.toNat=k;match k with
  | 0 | 1 | 2 | 3=>decide
  | k+4=>exact λh=>absurd (show (0:UInt8)=111 from h) (by decide)
theorem asw{j:Nat}(aC:ZO (j7.getD j ([],0,false)).1=false)(d:aW)(l:z1'):uy (ru j d l).1:=by
 unfold ru;split<;>first | exact Jc _ _ | exact ast _ | exact asu _ | exact asv _ | exact absurd aC (by decide)
theorem asx{s:aK}(h:A8 s=true)(d:aW):(jj d s).1≠mi:=by
 unfold jj;split
 ·exact show Zt≠mi by decide
 ·rename_i j l hp;obtain⟨p,aC,V⟩:=arc hp;refine (asw ?_ d l).asq;unfold A8 at h;grind
def pI:aW->List aK->List aK
 | _,[]=>[]
 | d,s::l=>if (jj d s).1=mi then s::pI (jj d s).2 l else pI (jj d s).2 l
theorem aac:∀ (l:List aK) (E:aW),(fw E (pI E l)).2=(fw E l).2/\∀ a∈(fw E (pI E l)).1,a=mi
 | [],E=>⟨rfl,by simp[pI,fw]⟩
 | s::l,E=>by
  obtain⟨h1,h2⟩:=aac l (jj E s).2;unfold pI;split
  ·rename_i h;simp only[fw];exact⟨h1,List.forall_mem_cons.2 ⟨h,h2⟩⟩
  ·rename_i h;have e:=asp h;simp only[fw];rw[e]at h1 h2 ⊢;exact⟨h1,h2⟩
theorem P4:∀ (l:List aK) (E:aW),(pI E l).Sublist l
 | [],_=>.slnil
 | s::l,E=>by
  unfold pI;split
  ·exact (P4 l _).cons_cons s
  ·exact (P4 l _).cons s
theorem aad:∀ (l:List aK) (E:aW) (r:List aK),(l.zip (fw E l).1).foldl (λ(r:List aK) (x:aK×aK)=>if x.2=mi then r++[x.1] else r) r=r++pI E l
 | [],E,r=>by simp[pI]
 | s::l,E,r=>by
  simp only[fw,List.zip_cons_cons,List.foldl_cons];rw[aad l];conv=>rhs;unfold pI
  split<;>simp
theorem aae:∀ (l:List aK) (E:aW),∀ p∈l.zip (fw E l).1,p.2=mi->A8 p.1=false
 | [],_,_,hp,_=>absurd hp (by simp)
 | s::l,E,p,hp,h=>by
  simp only[fw,List.zip_cons_cons,List.mem_cons]at hp;rcases hp with rfl | hp
  ·cases aU:A8 s with
   | false=>rfl
   | true=>exact absurd h (asx aU E)
  ·exact aae l _ p hp h
theorem abR(x:aW×List aK)(h1:e' x.1.1)(h2:H.iC x.1.2)(h3:x.2.length<2 ^ 63):OD uu.sh Et.sh Ev.sh Ew.sh Ep.sh x=M.pure true:=by
 obtain⟨d,l⟩:=x;unfold OD;rw[Gw h1 h2 h3,M.aE,arA];by_cases V:(!uw d l&&decide (jN d=0)&&decide ((l.length:Int)<=40))=true
 ·rw[V,if_neg (by simp)];obtain⟨au,aA,asy⟩:=arv h1 h2 V;have aA:l.length<=40:=by omega
  have kg:=ZF au;have ai:∀ s∈l,s.length<=10000:=λs hs=>by have:=asy s hs;omega
  rw[ZQ au aA ai,M.aE];have aU:=PG (fi d) l;have a_:=arB (E:=fi d) l;have ao:=aae l (fi d);rw[if_neg (by simp[aU])];rw[M.gg (l.zip (fw (fi d) l).1) (λi (p:List aK)=>(l,(fw (fi d) l).1,(i:Int),d,(fw (fi d) l).2,p,())) (λx p=>.next (if x.2=mi then p++[x.1] else p)) (λp=>.next (d,(fw (fi d) l).2,p,())) (λi p=>p.length<=i) [] ?_ (Nat.le_refl _) ?_ ?_]
  ·rw[dM,aad,M.aE,M.bK];simp only[List.nil_append];have hs:=P4 l (fi d);obtain⟨aO,aP⟩:=aac l (fi d);have ab:=PG (fi d) (pI (fi d) l);rw[ZQ au (Nat.le_trans hs.length_le aA) λs an=>ai s (hs.subset an),M.aE,aO,arq (aq0 kg ai)];generalize (fw (fi d) (pI (fi d) l)).1=b at *
   have axN:=hs.length_le;simp only[M.kB,M.aE];rw[if_neg (by simp[ab])];rw[M.dk b (λi (_:Unit)=>(b,(i:Int),())) (λ_ b=>.next b) (λ_=>.next ()) () ?_ ?_ ?_]
   ·rw[dM,M.aE,M.bK]
   ·rfl
   ·intro i G _;have hw:=bo (n:=(i:Int)+1) (by omega) (by omega);have:=aP _ (List.getElem_mem G);simp only[bJ,cE G,if_true,cT G,cq G,M.bg,b7,hw,this];rfl
   ·simp
  ·rfl
  ·intro i G p aO;have u1:i<l.length:=by omega
   have c6:i<(fw (fi d) l).1.length:=by omega
   have hw:=bo (n:=(i:Int)+1) (by omega) (by omega);have e1:(l.zip (fw (fi d) l).1)[i].1=l[i]:=by simp
   have e2:(l.zip (fw (fi d) l).1)[i].2=(fw (fi d) l).1[i]:=by simp
   have ao:=ao _ (List.getElem_mem G);rw[e1,e2]at ao;refine⟨?_,λaZ cS=>?_⟩
   ·simp only[bJ,cE u1,if_true,cT u1,cT c6,cq u1,cq c6,M.bg,b7,e1,e2];by_cases hc:(fw (fi d) l).1[i]=mi
    ·rw[if_pos (decide_eq_true hc),if_pos hc,arh (ai _ (List.getElem_mem u1)),M.aE,ao hc,if_neg (by decide),M.bp (hG (by simp only[jC];omega)),M.aE,M.bK,hw];rfl
    ·rw[if_neg (by simpa using hc),if_neg hc,M.aE,M.bK,hw];rfl
   ·simp only[aa.next.injEq]at cS;subst cS;split
    ·simpa using aO
    ·exact Nat.le_succ_of_le aO
  ·intro p aO;simp[a_]
 ·rw[if_pos (by rw[Bool.not_eq_true]at V;rw[V];rfl),M.aE]
end Go.Fer.W
namespace Go.Fer.nV
open Go.Proofs Go.Proofs.Tryz
open M (aa)
set_option maxRecDepth 100000
noncomputable section
abbrev L:cf:=.ek
abbrev S(a b:cf):cf:=.seq a b
abbrev D:cf:=S L L
abbrev C(a b:cf):cf:=.cond a b
abbrev B(a:cf):cf:=.block a
abbrev J(s:List (Nat×bH))(b:List (Nat×bN))(x y:cf):cf:=.join ⟨s,b⟩ x y
abbrev W(s:List (Nat×bH))(b:List (Nat×bN))(x:cf):cf:=.loop ⟨s,b⟩ x
abbrev bV(s:List (Nat×bH))(b:List (Nat×bN))(t:List (Nat×bH))(c:List (Nat×bN))(u:List (Nat×bH))(d:List (Nat×bN))(x y:cf):cf:=.range ⟨s,b⟩ ⟨t,c⟩ ⟨u,d⟩ x y
abbrev v2:bH:=.val t2
abbrev a2:bN:=.a7 t2
abbrev v4:bH:=.val t4
abbrev v9:bH:=.val t9
abbrev a9:bN:=.a7 t9
abbrev v22:bH:=.val t22
abbrev rv:bH:=.val Db
abbrev v24:bH:=.val GR
abbrev P5:bN:=.fI tN
abbrev dU:bH:=.val t27
abbrev Ey:bN:=.a7 t27
abbrev v28:bH:=.val t28
abbrev A9:bH:=.val GS
abbrev pJ:bH:=.val zR
abbrev yq:bN:=.fI t32
abbrev nd:bH:=.val qb
abbrev v34:bH:=.val t34
abbrev aaf:bN:=.fI ME
abbrev Jd:bN:=.fI sR
abbrev ry:bN:=.fI wj
abbrev P6:bN:=.a7 zQ
abbrev oK:bH:=.val EI
abbrev Je:bN:=.a7 xy
abbrev P7:bN:=.fI xy
abbrev asz:bN:=.a7 vb
abbrev A_:bN:=.a7 q6
abbrev asA:bN:=.fI q6
abbrev asB:bN:=.a7 xA
abbrev aag:bN:=.fI xA
abbrev asC:bH:=.val MG
abbrev Ez:bN:=.fI qc
abbrev aah:bH:=.val Uh
abbrev A':bH:=.val Dc
abbrev aai:bH:=.val iM
abbrev we:bN:=.a7 iM
abbrev P8:bH:=.val vc
abbrev aaj:bH:=.val Ui
abbrev aak:bH:=.val pa
abbrev EA:bN:=.a7 pa
abbrev asD:bH:=.val Uj
abbrev aal:bH:=.val MI
abbrev aam:bH:=.val MJ
abbrev gx:bN:=.a7 qd
abbrev yr:bN:=.fI qd
abbrev P9:bH:=.val MK
abbrev kq:bH:=.val oj
abbrev asE:bH:=.val Up
abbrev aan:bN:=.fI MF
abbrev P_:bN:=.a7 zO
abbrev aao:bN:=.fI zO
abbrev P':bH:=.val GQ
abbrev aap:bN:=.a7 xz
abbrev asF:bN:=.a7 zP
abbrev aaq:bN:=.fI zP
abbrev asG:bH:=.val Uq
abbrev Qa:bH:=.val MM
abbrev v228:bH:=.val t228
abbrev asH:bH:=.val Ut
abbrev asI:bH:=.val Uu
abbrev asJ:bH:=.val Uv
abbrev Ba:bH:=.val Uw
abbrev asK:bH:=.val Ux
abbrev asL:bH:=.val Uy
abbrev Jf:bH:=.val De
abbrev mU:List (Nat×bH):=[(6,.loc 17 0),(56,.hi [30000,30001,30002,30003,30004,30005,30006,30007,30008,30009]),(57,v2)]
abbrev nf:List (Nat×bH):=[(1,.loc 1 0)]
abbrev aar:List (Nat×bH):=[(1,.loc 1 0),(2,.loc 2 0),(3,.loc 1 0),(38,v2),(39,v2)]
abbrev aas:List (Nat×bH):=[(2,.loc 2 0),(7,.loc 22 0),(8,.loc 8 0),(9,.loc 9 0),(10,.own 10),(11,.loc 11 0),(24,v22),(25,v2),(26,v2)]
abbrev aat:List (Nat×bH):=[(2,.loc 2 0),(3,.loc 3 0),(4,.own 4),(5,.own 5),(7,P8),(8,v2),(9,v2),(23,v2),(29,P9),(30,v2),(31,v2)]
abbrev sO:List (Nat×bH):=[(1,.loc 1 0),(3,v2)]
abbrev aau:List (Nat×bH):=[(2,.loc 2 0),(7,.loc 30 0),(10,v2),(11,v2),(46,v2),(47,v2),(52,rv),(53,v2),(54,v2),(61,v2),(62,v2)]
abbrev asM:List (Nat×bH):=[(1,.loc 1 0),(2,.loc 2 0),(3,.loc 1 0),(5,.iE 22),(38,v2),(39,v2),(60,v2),(61,v2)]
abbrev aav:List (Nat×bH):=[(0,kq),(1,dU),(2,v2),(3,.gK),(9,v2),(29,v28),(30,v2),(31,v2),(1000000,.tr t27)]
abbrev aaw:List (Nat×bH):=[(0,kq),(1,.own 200001),(2,pJ),(3,v2),(4,.fk 100002),(16,nd),(17,v2),(18,v2)]
abbrev Qb:List (Nat×bH):=[(1,.loc 1 0),(2,.loc 2 0)]
abbrev aax:List (Nat×bH):=[(2,.loc 2 0),(3,.loc 3 0),(4,.own 4),(5,.own 5),(7,P8),(8,v2),(9,v2),(23,v2)]
abbrev aay:List (Nat×bH):=[(2,.loc 2 0),(7,.loc 30 0),(10,v2),(46,v2),(47,v2),(52,rv),(53,v2),(54,v2)]
abbrev aaz:List (Nat×bH):=[(0,.gK),(2,.dy vc),(10,aam),(11,v2),(1000000,.tr (.ax iM t2))]
abbrev aaA:List (Nat×bH):=[(2,v2),(6,.loc 6 0),(8,.loc 8 0),(9,v4),(17,aal),(18,v2),(19,v2)]
abbrev aaB:List (Nat×bH):=[(4,.loc 4 0),(5,.loc 5 0),(10,.fk 24),(28,P9),(29,v2),(30,v2)]
abbrev aaC:List (Nat×bH):=[(2,.loc 2 0),(3,.loc 3 0),(4,.own 4),(5,.own 5),(7,P8),(23,v2)]
abbrev aaD:List (Nat×bH):=[(0,aah),(1,v2),(2,v2),(3,v2),(9,v2),(18,dU),(19,v2),(20,v2)]
abbrev Bb:List (Nat×bH):=[(1,.loc 1 0),(5,v2)]
abbrev aaE:List (Nat×bH):=[(1,oK),(2,.loc 2 0),(5,oK),(6,.loc 6 0),(8,.own 8),(9,v2)]
abbrev aaF:List (Nat×bH):=[(1,v2),(6,kq),(8,.own 8),(9,.own 50260),(29,v2),(30,v2)]
abbrev aaG:List (Nat×bH):=[(1,oK),(2,.loc 2 0),(5,v2),(6,v2),(7,v2),(8,v2),(10,v2)]
abbrev aaH:List (Nat×bH):=[(1,asD),(4,.loc 4 0),(5,v4),(13,P9),(14,v2),(15,v2)]
abbrev aaI:List (Nat×bH):=[(0,kq),(1,pJ),(5,.own 50140),(6,v2),(16,v2),(17,v2)]
abbrev Jg:List (Nat×bH):=[(1,.loc 1 0),(3,v2),(4,v2)]
abbrev Jh:List (Nat×bH):=[(2,.loc 2 0),(3,.loc 3 0)]
abbrev Qc:List (Nat×bH):=[(2,.loc 2 0),(3,.loc 3 0),(7,v2)]
abbrev jk:List (Nat×bN):=[(17,.cells Dd [dU,.own 30000,.own 30001,.own 30002,.own 30003,.own 30004,.own 30005,.own 30006,.own 30007,.own 30008,.own 30009]),(30000,gx),(30001,gx),(30002,gx),(30003,gx),(30004,gx),(30005,gx),(30006,gx),(30007,gx),(30008,gx),(30009,gx),(100000,.cells q7 [nd,v34,dU,nd,v2,v2,v2,v2,v2,v2,v2,v34,.own 100002]),(100002,EA)]
abbrev sP:List (Nat×bN):=[(12,yr),(17,.cells Dd [dU,.own 30000,.own 30001,.own 30002,.own 30003,.own 30004,.own 30005,.own 30006,.own 30007,.own 30008,.own 30009]),(30000,gx),(30001,gx),(30002,gx),(30003,gx),(30004,gx),(30005,gx),(30006,gx),(30007,gx),(30008,gx),(30009,gx),(100000,.cells q7 [nd,v34,dU,nd,v2,v2,v2,v2,v2,v2,v2,v34,.own 100002]),(100002,EA)]
abbrev Ji:List (Nat×bN):=[(1,.cells t32 [.own 17,.own 22,v2,.own 27,.own 84,.own 87,.own 90,.own 93,v2]),(2,.cells t32 [.cR,.cR,v2,.cR,.cR,.cR,.cR,.cR,v2]),(17,P_),(22,aap),(27,P6),(84,a2),(87,asB),(90,asz),(93,A_)]
abbrev aaJ:List (Nat×bN):=[(1,.cells t32 [.own 17,.own 22,v2,.own 27,dU,v28,A9,pJ,v2]),(2,.cells t32 [.cR,.cR,v2,.cR,.cR,.cR,.cR,.cR,v2]),(17,P_),(22,.fN xz (.own 50530)),(27,P6),(50530,asF)]
abbrev wg:List (Nat×bN):=[(2,yq),(28,.mp q6 t2),(30,.cells t222 [v22,rv,v2,v24,dU,v28,A9,pJ,v2,.cR,.fk 28])]
abbrev aaK:List (Nat×bN):=[(1,.cells t32 [.own 17,.own 22,v2,.own 27,dU,v28,A9,pJ,v2]),(2,.cells t32 [.cR,.cR,v2,.cR,.cR,.cR,.cR,.cR,v2]),(17,P_),(22,aap),(27,P6)]
abbrev aaL:List (Nat×bN):=[(4,a9),(5,.cells wj [.cR,.cR,v2,.cR,.cR,.cR,.cR,.cR,v2,.cR,.cR,.cR,.cR,v2,v2,v2,v2,v2,v2,v2]),(50230,Ez)]
abbrev Bc:List (Nat×bN):=[(2,Jd),(3,.gi t2),(4,a2),(5,a2)]
abbrev aaM:List (Nat×bN):=[(2,yq),(28,.mp q6 t2),(30,.cells t222 [v22,rv,v2,v24,dU,v28,A9,pJ,v2,.own 109,.fk 28]),(109,Je)]
abbrev aaN:List (Nat×bN):=[(28,.mp q6 t2),(30,.cells t222 [v22,rv,v2,v24,dU,v28,A9,pJ,v2,.own 109,.fk 28]),(109,Je)]
abbrev aaO:List (Nat×bN):=[(100000,.cells q7 [nd,v34,dU,nd,v2,v2,v2,v2,v2,v2,v2,v34,.own 100002]),(100002,EA)]
abbrev ng:List (Nat×bN):=[(1,P5)]
abbrev nU:List (Nat×bN):=[(1,Jd)]
abbrev aaP:List (Nat×bN):=[(2,.gi tN),(22,.cells xB [v22,rv,v2,v24,.own 61]),(61,Ey)]
abbrev yt:List (Nat×bN):=[(2,P5),(3,P5)]
abbrev qu:List (Nat×bN):=[(1,yq)]
abbrev Qd:List (Nat×bN):=[(100002,.mp t2 t2),(200001,a2)]
abbrev EB:List (Nat×bN):=[(2,Jd),(3,Jd)]
abbrev EC:List (Nat×bN):=[(5,yq),(6,yq)]
abbrev e0:cf:=S L (C D L)
abbrev e10:cf:=C L L
abbrev e1:cf:=S L e10
abbrev e2:cf:=S L D
abbrev ml:cf:=S L e0
abbrev e3:cf:=S L (S e10 (S (B ml) L))
abbrev e4:cf:=S L (S e10 (S (B D) L))
abbrev dB:cf:=S e1 (S (B e0) L)
abbrev kO:cf:=S L (S L (S L (J Qb aaK (S L (B (W aar aaK (S L (S e10 (J aar aaJ (B (S L (S L (S (.nv 5 L) (S L (B (W asM aaJ e4))))))) (.FT 22 L))))))) (S L (J Qb Ji (S L (B (W [(1,.loc 1 0),(2,.loc 2 0),(100,v2),(101,v2)] Ji e4))) (J Qb Ji (S L (B (W [(1,.loc 1 0),(2,.loc 2 0),(119,v2),(120,v2)] Ji e4))) D))))))
abbrev s7:cf:=S L (J [(0,dU),(1,v2)] [] e1 (S L (J [(0,dU),(6,v228)] [] e1 (S L (S L (J [(7,.own 30)] [(30,a2)] (B (W [(7,.own 30),(8,v2)] [(30,a2)] (S e1 (B L)))) D))))))
abbrev aaQ:cf:=S L (S L (J [(4,.fk 12)] [(12,.mp t2 iM)] (S L (B (W [(4,.fk 12),(13,v34),(14,v2),(15,v2)] [(12,.mp t2 iM)] (S L (S e10 (S (B (S L (S ml L))) L)))))) (S L (J [(9,.own 9)] [(9,we)] (S L (B (W [(4,.fk 12),(9,.own 9),(39,dU),(40,v2),(41,v2)] [(9,we),(12,.iU t2 iM)] e4))) D))))
abbrev e9:cf:=S L (S e0 D)
abbrev yu:cf:=S e1 (S (B ml) L)
abbrev Bd:cf:=S L (S L (S e0 e2))
abbrev yv:cf:=B (S L (S L e1))
abbrev e20:cf:=S L e2
abbrev uz:cf:=S L e20
abbrev ED:cf:=S e1 (S (B L) L)
abbrev aaR:cf:=S L (J [] [] (S L (B (W [(0,dU),(3,v2)] [] dB))) D)
abbrev yw:cf:=B (S L e1)
abbrev aaS:cf:=S L (B (W [(1,.loc 1 0),(4,v2)] qu dB))
abbrev aaT:cf:=S L (S (S L (B (S L (C D e0)))) D)
abbrev iA0:=IOC.mk ⟨[(0,.loc 100000 0),(1,.val t27)],[(100000,.fI qc)]⟩ ⟨[(0,.val t9)],[(100000,.fI qc)]⟩ [none] 2
def asN:=mk asm func276 (kH jJ) (S L (J [] [] (S L (B (W [(0,v24),(1,asG),(7,v2),(8,v2)] [] e3))) D)) (si jJ)
def asO:=mk asN func206 (iO jJ) e2 (sj jJ)
def asP:=jD asO [] func207 (vL jJ) 1 e2 (D0 jJ)
def asQ:=lH asP [(207,1)] func144 (fcAllF jJ) e2 (D1 jJ)
def asR:=mk asQ func145 b4 e2 ano
def asS:=mk asR func266 x2 e2 anq
def asT:=mk asS func267 oC e2 anp
def asU:=mk asT func265 HR e2 anz
def asV:=mk asU func292 (kH tI) (S L (J [] [] (S L (B (W [(0,dU),(1,aaj),(7,v2),(8,v2)] [] e3))) D)) (si tI)
def asW:=mk asV func227 (iO tI) e2 (sj tI)
def asX:=jD asW [] func331 (vL tI) 1 e2 (D0 tI)
def asY:=lH asX [(331,1)] func269 (fcAllF tI) e2 (D1 tI)
def asZ:=mk asY func270 uc aaR anu
def as0:=lH asZ [] func268 sB e2 anA
def as1:=mk as0 func372 (kH tSlot) (S L (J [] [] (S L (B (W [(0,P'),(1,asJ),(7,v2),(8,v2)] [] e3))) D)) (si tSlot)
def as2:=mk as1 func332 (iO tSlot) e2 (sj tSlot)
def as3:=jD as2 [] func333 (vL tSlot) 1 e2 (D0 tSlot)
def as4:=lH as3 [(333,1)] func272 (fcAllF tSlot) e2 (D1 tSlot)
def as5:=jD as4 [] func271 AI 1 e2 anB
def as6:=mk as5 func64 pv e2 anr
def as7:=mk as6 func65 rj e2 ant
def as8:=jD as7 [] func273 AJ 1 e2 anC
def as9:=mk as8 func373 (kH ko) (S L (J [] [] (S L (B (W [(0,v22),(1,asK),(7,v2),(8,v2)] [] e3))) D)) (si ko)
def as_:=mk as9 func334 (iO ko) e2 (sj ko)
def as':=jD as_ [] func335 (vL ko) 1 e2 (D0 ko)
def ata:=lH as' [(335,1)] func274 (fcAllF ko) e2 (D1 ko)
def atb:=mk ata func374 (kH kK) (S L (J [] [] (S L (B (W [(0,rv),(1,asL),(7,v2),(8,v2)] [] e3))) D)) (si kK)
def atc:=mk atb func336 (iO kK) e2 (sj kK)
def atd:=jD atc [] func337 (vL kK) 1 e2 (D0 kK)
def ate:=lH atd [(337,1)] func275 (fcAllF kK) e2 (D1 kK)
def atf:=lH ate [(271,1),(273,1)] func205 sC (S L (S L uz)) anD
def atg:=mk atf func141 hI (S L (S e0 (S L (J [] [] (S L (B (W [(3,.fk 12),(14,v24),(15,v2),(16,v2)] [(12,.mp q6 t2)] (S L (S e10 (S (B (S L (S L (S ml L)))) L)))))) D)))) anH
def ath:=mk atg func164 b4 e2 an9
def ati:=mk ath func220 fcHund e2 an'
def atj:=mk ati func221 fcRising (S L (J [] [] (S L (B (W [(0,dU),(1,aaj),(7,dU),(8,v2),(9,v2)] [] e3))) D)) aob
def atk:=jD atj [] func222 D5 1 e2 aof (hc:=λx h=>by obtain⟨w,p,ar,_⟩:=h;exact sa ⟨⟨trivial,q8 (congrArg (λo=>o.1) ar)⟩,q8 (congrArg (λo=>o.2) ar)⟩)
def atl:=jD atk [(222,1)] func219 D6 1 e2 aog (hc:=λx h=>by obtain⟨_,w,ar,_⟩:=h;exact sa ⟨trivial,q8 ar⟩)
def atm:=mk atl func224 fcHund e2 aoa
def atn:=lH atm [] func223 D7 e2 aoh
def ato:=jD atn [] func225 D8 1 e2 aoi (hc:=λx h=>by obtain⟨w,ar,_⟩:=h;exact sa ⟨trivial,q8 ar⟩)
def atp:=mk ato func226 D9 e2 aoj
def atq:=mk atp func293 (kH mR) (S L (J [] [] (S L (B (W [(0,v28),(1,asH),(7,v2),(8,v2)] [] e3))) D)) (si mR)
def atr:=mk atq func228 (iO mR) e2 (sj mR)
def ats:=mk atr func294 (kH tWi) (S L (J [] [] (S L (B (W [(0,A9),(1,asE),(7,v2),(8,v2)] [] e3))) D)) (si tWi)
def att:=mk ats func229 (iO tWi) e2 (sj tWi)
def atu:=mk att func295 (kH pz) (S L (J [] [] (S L (B (W [(0,pJ),(1,asI),(7,v2),(8,v2)] [] e3))) D)) (si pz)
def atv:=mk atu func230 (iO pz) e2 (sj pz)
def atw:=lH atv [(219,1),(225,1)] func171 OQ (S L (S L (S L uz))) aok
def Qe:=mk atw func100 pB (S L (S ml (S e0 D))) aol
def aaU:IOC:=⟨⟨[(0,.cR),(1,.val ML)],[]⟩,⟨[(0,.own 50000)],[(50000,.a7 t2)]⟩,[none],2,H.Aa⟩
theorem atx:IoSpec Tryz.prog noU 213 aaU:=mkI Qe [] trivial func213 (S L (S (S L (B (bV [(2,.loc 2 0)] [(2,.cells t27 [.own 50000]),(50000,a2)] [(2,.loc 100002 0),(7,v2)] [(100002,.cells t27 [.own 150000]),(150000,a2)] [] [(100002,.cells t27 [.own 150000]),(150000,a2)] L (B L)))) D)) H.akF
def aaV:IOC:=⟨⟨[(0,.val ML)],[]⟩,⟨[(0,.own 50040)],[(50040,.a7 t2)]⟩,[none],1,H.Aa⟩
theorem aty:IoSpec Tryz.prog noU 160 aaV:=mkI Qe [(213,.io aaU)] ⟨atx,trivial⟩ func160 e2 H.akG
def Qf:=pd Qe l9 [(160,.io aaV),(161,.io P3)] ⟨aty,Z9,trivial⟩ func86 H.sk uz H.akH
def aaW:IOC:=⟨⟨[(0,.gK),(1,.dy GV),(1000000,.tr t2)],[]⟩,⟨[(1000000,.tr t2)],[]⟩,[],2,H.NF⟩
theorem atz:IoSpec Tryz.prog noU 277 aaW:=mkI (S:=H.NF) Qf [] trivial func277 (S L (B (W [(0,.gK),(5,.jP 5),(1000000,.tr t2)] [(5,.b5 t2 iM)] (S L (S e10 yw))))) (λx=>M.le_refl _)
theorem atA:wu Tryz.prog 277 ⟨[GV],t2,H.jF⟩:=MA (c:=aaW) atz l9 (λx l L=>(l,x.getD [],(l,L,[],false),())) rfl (by decide) (by simp[fM])
 (λx l L i hx=>by
  obtain⟨T,hT⟩:=hx;obtain⟨m,an,_⟩:=hT;subst an;by_cases h0:i=0
  ·subst h0;exact .inr (.inr (.inl ⟨rfl,rfl⟩))
  ·by_cases h1:i=1
   ·subst h1;exact .inr (.inl ⟨by decide,by decide,_,_,rfl,rfl⟩)
   by_cases h2:i=TRS
   ·subst h2;exact .inr (.inr (.inr ⟨rfl,rfl⟩))
   ·refine .inl ?_;exact (if_neg h0).trans ((if_neg h1).trans (if_neg h2)))
 rfl (λτ=>⟨_,_,_,_,rfl⟩) (λx l hx=>by
  obtain⟨T,hT⟩:=hx;obtain⟨m,an,_⟩:=hT;subst an;have h:=H.alH l m;refine⟨h.1,λτ hτ l' L' p hsl=>?_⟩;have e:aD.tr τ.1.1 t2 τ.1.2.1 τ.1.2.2.1 τ.1.2.2.2=.tr l' t2 L' p false:=hsl;injection e with e1 e2 e3 e4 dB
  rw[<-e4];exact h.2 τ hτ dB)
def atB:=pd Qf (Qf.u [] [(277,⟨[GV],t2,H.jF⟩)] ⟨atA,trivial⟩) [] trivial func210 H.xQ e2 H.akK
def atC:=mk atB func154 H.Ah aaQ H.akV
def atD:=mk atC func85 H.b4 e2 H.aka
def atE:=mk atD func209 (H.kH H.gU) (S L (J [] [] (S L (B (W [(0,v34),(1,Qa),(7,v2),(8,v2)] [] e3))) D)) H.akk
def atF:=mk atE func151 (H.iO H.gU) e2 H.akl
def atG:=mk atF func231 H.vn (S L (J nf [(1,aaf)] (S L (B (W [(1,.loc 1 0),(13,.own 13),(14,v2),(15,v2)] [(1,aaf),(13,a2)] e3))) D)) H.ake
def atH:=mk atG func76 H.vm e2 H.akc
def atI:=mk atH func233 H.fcSlip e20 H.akg
def atJ:=jD atI [] func232 H.DB 1 e2 H.akh
def atK:=mk atJ func234 H.z8 e2 H.aki
def atL:=lH atK [(232,1)] func172 H.vp (S L (S e0 (J nf nU (S L (B (W [(1,.loc 1 0),(38,nd),(39,v2),(40,v2)] nU e3))) (J nf nU (S L (B (W [(1,.loc 1 0),(57,nd),(58,v2),(59,v2)] nU e3))) e20)))) H.akM
def atM:=mk atL func101 H.hI (S L (S e0 (S ml D))) H.akX
def atN:=mk atM func46 W.sN e9 W.aqW
def Qg:=pd atN l9 [(256,.io Z')] ⟨asl,trivial⟩ func184 H.Iz (S L (S L (J [(0,Ba),(3,v2)] [] (S L (B (W [(0,Ba),(3,v2),(9,Ba),(10,v2),(11,v2)] [] (S L (S e10 (J [(0,Ba),(3,v2),(9,Ba),(10,v2),(11,v2)] [] yv L)))))) (S L (J [(6,.own 50240)] [(50240,we)] (S L (B (W [(6,.own 50240),(25,Ba),(26,v2),(27,v2)] [(50240,we)] e4))) D))))) H.apW
def aaX:IOC:=⟨⟨[(0,.val Dc)],[]⟩,⟨[(0,.own 50240)],[(50240,.a7 t3)]⟩,[none],1,H.IA⟩
theorem atO:IoSpec Tryz.prog noU 185 aaX:=mkI Qg [(257,.io Z_)] ⟨asj,trivial⟩ func185 (S L (S L (J [(0,A'),(3,v2)] [] (S L (B (W [(0,A'),(3,v2),(9,A'),(10,v2),(11,v2)] [] (S L (S e10 (J [(0,A'),(3,v2),(9,A'),(10,v2),(11,v2)] [] yv L)))))) (S L (J [(6,.own 50240)] [(50240,a2)] (S L (B (W [(6,.own 50240),(25,A'),(26,v2),(27,v2)] [(50240,a2)] e4))) D))))) H.apX
def aaY:IOC:=⟨⟨[(0,.own 200001)],[(200001,.a7 t3)]⟩,⟨[(0,.sub 200001)],[(200001,.a7 t3)]⟩,[none],1,H.IC⟩
theorem atP:IoSpec Tryz.prog noU 186 aaY:=mkI Qg [] trivial func186 (S L (S e0 (J [(0,.own 200001)] [(200001,a2)] (S L (B (W [(0,.own 200001),(3,v2)] [(200001,a2)] (S e1 (J [(0,.own 200001),(3,v2)] [(200001,a2)] (B (S L (C (S L (J [(0,.own 200001),(3,v2)] [(200001,a2)] (S L (B (W [(0,.own 200001),(3,v2),(4,.sub 200001),(5,v2)] [(200001,a2)] (S e1 (J [(0,.own 200001),(3,v2),(4,.sub 200001),(5,v2)] [(200001,a2)] (B e0) L))))) e2)) L))) L))))) D))) H.ap3
def atQ:=mk Qg func187 H.Ei e9 H.ap'
def uA:=pd atQ l9 [(161,.io P3),(185,.io aaX),(186,.io aaY)] ⟨Z9,atO,atP,trivial⟩ func117 H.AZ (S L (S ml (S L (S L (S ml (S L (S e0 (S L Bd)))))))) H.aqb
def atS:IOC:=⟨⟨[(0,.val t22)],[]⟩,⟨[(0,.own 60)],[(60,.a7 zO)]⟩,[none],1,W.qt⟩
theorem atT:IoSpec Tryz.prog noU 188 atS:=mkI uA [] trivial func188 e9 W.v'
abbrev Qh:eH:=.ow (SC.ow (W.fx ko).c7)
theorem aaZ:eH.Ok Tryz.prog noU 188 Qh:=yp (sh:=(W.fx ko).sh) atT (λx h=>⟨h,λτ hτ=>by have h:τ=_:=hτ;subst h;exact (M.gp).symm⟩)
def atU:IOC:=⟨⟨[(0,.val Db)],[]⟩,⟨[(0,.own 60)],[(60,.a7 xz)]⟩,[none],1,W.qt⟩
theorem atV:IoSpec Tryz.prog noU 189 atU:=mkI uA [] trivial func189 e9 W.v'
abbrev Qi:eH:=.ow (SC.ow (W.fx kK).c7)
theorem aa0:eH.Ok Tryz.prog noU 189 Qi:=yp (sh:=(W.fx kK).sh) atV (λx h=>⟨h,λτ hτ=>by have h:τ=_:=hτ;subst h;exact (M.gp).symm⟩)
def atW:IOC:=⟨⟨[(0,.val GR)],[]⟩,⟨[(0,.own 60)],[(60,.a7 zQ)]⟩,[none],1,W.qt⟩
theorem atX:IoSpec Tryz.prog noU 190 atW:=mkI uA [] trivial func190 e9 W.v'
abbrev Qj:eH:=.ow (SC.ow (W.fx jJ).c7)
theorem aa1:eH.Ok Tryz.prog noU 190 Qj:=yp (sh:=(W.fx jJ).sh) atX (λx h=>⟨h,λτ hτ=>by have h:τ=_:=hτ;subst h;exact (M.gp).symm⟩)
def Qk:IOC:=⟨⟨[(0,.val GQ)],[]⟩,⟨[(0,.own 60)],[(60,.a7 zP)]⟩,[none],1,W.qt⟩
theorem aa2:IoSpec Tryz.prog noU 191 Qk:=mkI uA [] trivial func191 e9 W.v'
def aa3:IOC:=⟨⟨[(0,.val t27)],[]⟩,⟨[(0,.own 60)],[(60,.a7 t3)]⟩,[none],1,W.IJ⟩
theorem aa4:IoSpec Tryz.prog noU 192 aa3:=mkI uA [] trivial func192 e9 W.aqC
abbrev Ql:eH:=.ow (SC.ow H.fcClone.c7)
theorem aa5:eH.Ok Tryz.prog noU 192 Ql:=yp (sh:=H.fcClone.sh) aa4 (λx h=>⟨h,λτ hτ=>by have h:τ=_:=hτ;subst h;exact (M.gp).symm⟩)
def atY:IOC:=⟨⟨[(0,.val t28)],[]⟩,⟨[(0,.own 60)],[(60,.a7 xA)]⟩,[none],1,W.qt⟩
theorem atZ:IoSpec Tryz.prog noU 193 atY:=mkI uA [] trivial func193 e9 W.v'
abbrev Qm:eH:=.ow (SC.ow (W.fx mR).c7)
theorem aa6:eH.Ok Tryz.prog noU 193 Qm:=yp (sh:=(W.fx mR).sh) atZ (λx h=>⟨h,λτ hτ=>by have h:τ=_:=hτ;subst h;exact (M.gp).symm⟩)
def at0:IOC:=⟨⟨[(0,.val GS)],[]⟩,⟨[(0,.own 60)],[(60,.a7 vb)]⟩,[none],1,W.qt⟩
theorem at1:IoSpec Tryz.prog noU 194 at0:=mkI uA [] trivial func194 e9 W.v'
abbrev Jj:eH:=.ow (SC.ow (W.fx tWi).c7)
theorem Qn:eH.Ok Tryz.prog noU 194 Jj:=yp (sh:=(W.fx tWi).sh) at1 (λx h=>⟨h,λτ hτ=>by have h:τ=_:=hτ;subst h;exact (M.gp).symm⟩)
def at2:IOC:=⟨⟨[(0,.val zR)],[]⟩,⟨[(0,.own 60)],[(60,.a7 q6)]⟩,[none],1,W.qt⟩
theorem at3:IoSpec Tryz.prog noU 195 at2:=mkI uA [] trivial func195 e9 W.v'
abbrev Qo:eH:=.ow (SC.ow (W.fx pz).c7)
theorem aa7:eH.Ok Tryz.prog noU 195 Qo:=yp (sh:=(W.fx pz).sh) at3 (λx h=>⟨h,λτ hτ=>by have h:τ=_:=hτ;subst h;exact (M.gp).symm⟩)
def aa8:=pd uA l9 [(188,Qh),(189,Qi),(190,Qj),(191,.io Qk),(192,Ql),(193,Qm),(194,Jj),(195,Qo)] ⟨aaZ,aa0,aa1,aa2,aa5,aa6,Qn,aa7,trivial⟩ func118 W.IM kO W.aqF
def aa9:IOC:=⟨⟨[(0,.val wj)],[]⟩,⟨[(0,.loc 17 0)],[(17,.fI qc)]⟩,[none],1,W.tY⟩
theorem at4:IoSpec Tryz.prog noU 57 aa9:=mkI aa8 [] trivial func57 e20 W.N4
def EE:=mk aa8 func58 W.IU e2 W.aqS
def Jk:IOC:=⟨⟨[(0,.loc 100000 0),(1,.val t34),(2,.val t27)],[(100000,.fI qc)]⟩,⟨[(0,.val t9)],[(100000,.fI qc)]⟩,[none],3,W.A3⟩
theorem Qp:IoSpec Tryz.prog noU 196 Jk:=mkI EE [] trivial func196 Bd W.aqj
def Qq:IOC:=iA0 (W.shD 5 W.Pp)
theorem at5:IoSpec Tryz.prog noU 119 Qq:=mkI EE [(196,.io Jk)] ⟨Qp,trivial⟩ func119 e2 W.aqk
def at6:IOC:=iA0 (W.shD 4 W.Pq)
theorem at7:IoSpec Tryz.prog noU 120 at6:=mkI EE [(196,.io Jk)] ⟨Qp,trivial⟩ func120 e2 W.aql
def aua:IOC:=iA0 (W.shD 1 W.Pr)
theorem aub:IoSpec Tryz.prog noU 121 aua:=mkI EE [(196,.io Jk)] ⟨Qp,trivial⟩ func121 e2 W.N5
def auc:=mk EE func339 H.Hh e2 H.ako
def q280:=mk auc func280 H.fcCmp (S L (S L (S L (S (S L (C (S e0 D) L)) (S e0 (S e0 (S e0 D))))))) H.akp
def aud:=mk q280 func279 H.lK e2 H.akq
def aue:=mk aud func211 HQ (S L (J [] [] (S L (B (W [(0,dU),(1,v2),(7,v2),(8,v2)] [] e3))) D)) anw
def auf:=mk aue func157 ox e2 anx
def EF:=jD auf [] func156 H.Ap 1 e2 H.N5
abbrev yx:=zT (ais EF) [(156,1)] []
def aa_:IOC:=⟨⟨[(0,.val t34)],[]⟩,⟨[(0,.own 9),(1,.val t4)],[(9,.a7 iM)]⟩,[none,none],1,H.Ho⟩
theorem aug:IoSpec Tryz.prog yx 154 aa_:=mkI EF [] trivial func154 aaQ H.akW
def aa':IOC:=⟨⟨[(0,.own 200001),(1,.val MM)],[(200001,.a7 iM)]⟩,⟨[(0,.sub 200001)],[(200001,.a7 iM)]⟩,[none],2,H.Hq⟩
theorem auh:IoSpec Tryz.prog yx 155 aa':=mkI EF [] trivial func155 (S L (S L (S e0 (J [(0,.own 200001),(5,v2)] [(200001,we)] (S L (B (W [(0,.own 200001),(1,Qa),(5,v2),(6,v2)] [(200001,we)] (S e1 (J [(0,.own 200001),(1,Qa),(5,v2),(6,v2)] [(200001,we)] (B ml) L))))) e2)))) H.akY
def aui:=mk EF func192 H.fcClone e9 H.akm
def auj:=mk aui func291 H.NJ (S L (J [(0,v228),(2,v2)] [] e0 (J [(0,v228),(2,v2)] [] e0 (J [(0,v228),(2,v2)] [] e0 D)))) H.akr
def Be:=mk auj func215 H.NK (S L (S (C D L) D)) (H.aks (λ_=>M.fail))
def aba:IOC:=⟨⟨[(0,.own 200001),(1,.val t2),(2,.val t2),(3,.val De)],[(200001,.a7 qd)]⟩,⟨[],[(200001,.a7 qd)]⟩,[],4,H.Hj⟩
theorem auk:IoSpec Tryz.prog yx 375 aba:=mkI Be [] trivial func375 (S L (B (W [(0,.own 200001),(1,v2),(2,v2),(3,Jf),(8,v2)] [(200001,gx)] (S e1 (J [(0,.own 200001),(1,v2),(2,v2),(3,Jf),(8,v2)] [(200001,gx)] (B (S L (B (W [(0,.own 200001),(1,v2),(2,v2),(3,Jf),(8,v2),(9,v2)] [(200001,gx)] ED)))) L))))) H.akB
def abb:IOC:=⟨⟨[(0,.own 200001),(1,.val t2),(2,.val t2),(3,.val t2),(4,.val De)],[(200001,.a7 qd)]⟩,⟨[],[(200001,.a7 qd)]⟩,[],5,H.Hl⟩
theorem aul:IoSpec Tryz.prog yx 338 abb:=mkI Be [(375,.io aba)] ⟨auk,trivial⟩ func338 (S L (S L (B (W [(0,.own 200001),(1,v2),(2,v2),(3,v2),(4,Jf),(10,v4),(11,v4)] [(200001,gx)] (B (S L (S e0 L))))))) H.akC
def abc:IOC:=⟨⟨[(0,.own 200001),(1,.val De)],[(200001,.a7 qd)]⟩,⟨[],[(200001,.a7 qd)]⟩,[],2,H.z'⟩
theorem aum:IoSpec Tryz.prog yx 278 abc:=mkI Be [(338,.io abb)] ⟨aul,trivial⟩ func278 D H.akE
def abd:IOC:=⟨⟨[(0,.loc 100000 0),(1,.val t27)],[(100000,.cells q7 [.val qb,.val t34,.val t27,.val qb,.val t2,.val t2,.val t2,.val t2,.val t2,.val t2,.val t2,.val t34,.own 100002]),(100002,.a7 pa)]⟩,⟨[(0,.val pa),(1,.val t4)],[(100000,.cells q7 [.val qb,.val t34,.val t27,.val qb,.val t2,.val t2,.val t2,.val t2,.val t2,.val t2,.val t2,.val t34,.own 100002]),(100002,.a7 pa)]⟩,[none,none],2,H.tY⟩
theorem aun:IoSpec Tryz.prog yx 212 abd:=mkI Be [(278,.io abc)] ⟨aum,trivial⟩ func212 (S L (J [(0,.loc 100000 0),(1,dU),(6,.loc 17 0)] [(17,.cells Dd [dU,.own 30000,.own 30001,.own 30002,.own 30003,.own 30004,.own 30005,.own 30006,.own 30007,.own 30008,.own 30009]),(100000,.cells q7 [nd,v34,dU,nd,v2,v2,v2,v2,v2,v2,v2,v34,.own 100002]),(100002,EA),(30000,gx),(30001,gx),(30002,gx),(30003,gx),(30004,gx),(30005,gx),(30006,gx),(30007,gx),(30008,gx),(30009,gx)] L (J [(6,.loc 17 0)] jk (S L (B (W [(1,dU),(6,.loc 17 0),(21,v34),(22,v2),(23,v2)] jk (S L (S e10 (J [(1,dU),(6,.loc 17 0),(21,v34),(22,v2),(23,v2)] jk (B (S L (.split 8 4 10 L))) L)))))) (J [(6,.loc 17 0)] jk (S L (B (.nA (.num 57 0 (S L (S e10 (J mU jk (B (S L (S L (S L (B (W [(6,.loc 17 0),(10,.own 30000),(56,.hi [30000,30001,30002,30003,30004,30005,30006,30007,30008,30009]),(57,v2),(62,.own 30000),(63,v2),(64,v2)] jk (S L (S e10 (S (B (S L (S L (J [(6,.loc 17 0),(10,.own 30000),(11,v2),(12,.loc 12 0),(13,v2),(56,.hi [30000,30001,30002,30003,30004,30005,30006,30007,30008,30009]),(57,v2),(62,.own 30000),(63,v2),(64,v2)] sP e1 e0)))) L))))))))) L)))) (.nA (.num 57 1 (S L (S e10 (J mU jk (B (S L (S L (S L (B (W [(6,.loc 17 0),(10,.own 30001),(56,.hi [30000,30001,30002,30003,30004,30005,30006,30007,30008,30009]),(57,v2),(62,.own 30001),(63,v2),(64,v2)] jk (S L (S e10 (S (B (S L (S L (J [(6,.loc 17 0),(10,.own 30001),(11,v2),(12,.loc 12 0),(13,v2),(56,.hi [30000,30001,30002,30003,30004,30005,30006,30007,30008,30009]),(57,v2),(62,.own 30001),(63,v2),(64,v2)] sP e1 e0)))) L))))))))) L)))) (.nA (.num 57 2 (S L (S e10 (J mU jk (B (S L (S L (S L (B (W [(6,.loc 17 0),(10,.own 30002),(56,.hi [30000,30001,30002,30003,30004,30005,30006,30007,30008,30009]),(57,v2),(62,.own 30002),(63,v2),(64,v2)] jk (S L (S e10 (S (B (S L (S L (J [(6,.loc 17 0),(10,.own 30002),(11,v2),(12,.loc 12 0),(13,v2),(56,.hi [30000,30001,30002,30003,30004,30005,30006,30007,30008,30009]),(57,v2),(62,.own 30002),(63,v2),(64,v2)] sP e1 e0)))) L))))))))) L)))) (.nA (.num 57 3 (S L (S e10 (J mU jk (B (S L (S L (S L (B (W [(6,.loc 17 0),(10,.own 30003),(56,.hi [30000,30001,30002,30003,30004,30005,30006,30007,30008,30009]),(57,v2),(62,.own 30003),(63,v2),(64,v2)] jk (S L (S e10 (S (B (S L (S L (J [(6,.loc 17 0),(10,.own 30003),(11,v2),(12,.loc 12 0),(13,v2),(56,.hi [30000,30001,30002,30003,30004,30005,30006,30007,30008,30009]),(57,v2),(62,.own 30003),(63,v2),(64,v2)] sP e1 e0)))) L))))))))) L)))) (.nA (.num 57 4 (S L (S e10 (J mU jk (B (S L (S L (S L (B (W [(6,.loc 17 0),(10,.own 30004),(56,.hi [30000,30001,30002,30003,30004,30005,30006,30007,30008,30009]),(57,v2),(62,.own 30004),(63,v2),(64,v2)] jk (S L (S e10 (S (B (S L (S L (J [(6,.loc 17 0),(10,.own 30004),(11,v2),(12,.loc 12 0),(13,v2),(56,.hi [30000,30001,30002,30003,30004,30005,30006,30007,30008,30009]),(57,v2),(62,.own 30004),(63,v2),(64,v2)] sP e1 e0)))) L))))))))) L)))) (.nA (.num 57 5 (S L (S e10 (J mU jk (B (S L (S L (S L (B (W [(6,.loc 17 0),(10,.own 30005),(56,.hi [30000,30001,30002,30003,30004,30005,30006,30007,30008,30009]),(57,v2),(62,.own 30005),(63,v2),(64,v2)] jk (S L (S e10 (S (B (S L (S L (J [(6,.loc 17 0),(10,.own 30005),(11,v2),(12,.loc 12 0),(13,v2),(56,.hi [30000,30001,30002,30003,30004,30005,30006,30007,30008,30009]),(57,v2),(62,.own 30005),(63,v2),(64,v2)] sP e1 e0)))) L))))))))) L)))) (.nA (.num 57 6 (S L (S e10 (J mU jk (B (S L (S L (S L (B (W [(6,.loc 17 0),(10,.own 30006),(56,.hi [30000,30001,30002,30003,30004,30005,30006,30007,30008,30009]),(57,v2),(62,.own 30006),(63,v2),(64,v2)] jk (S L (S e10 (S (B (S L (S L (J [(6,.loc 17 0),(10,.own 30006),(11,v2),(12,.loc 12 0),(13,v2),(56,.hi [30000,30001,30002,30003,30004,30005,30006,30007,30008,30009]),(57,v2),(62,.own 30006),(63,v2),(64,v2)] sP e1 e0)))) L))))))))) L)))) (.nA (.num 57 7 (S L (S e10 (J mU jk (B (S L (S L (S L (B (W [(6,.loc 17 0),(10,.own 30007),(56,.hi [30000,30001,30002,30003,30004,30005,30006,30007,30008,30009]),(57,v2),(62,.own 30007),(63,v2),(64,v2)] jk (S L (S e10 (S (B (S L (S L (J [(6,.loc 17 0),(10,.own 30007),(11,v2),(12,.loc 12 0),(13,v2),(56,.hi [30000,30001,30002,30003,30004,30005,30006,30007,30008,30009]),(57,v2),(62,.own 30007),(63,v2),(64,v2)] sP e1 e0)))) L))))))))) L)))) (.nA (.num 57 8 (S L (S e10 (J mU jk (B (S L (S L (S L (B (W [(6,.loc 17 0),(10,.own 30008),(56,.hi [30000,30001,30002,30003,30004,30005,30006,30007,30008,30009]),(57,v2),(62,.own 30008),(63,v2),(64,v2)] jk (S L (S e10 (S (B (S L (S L (J [(6,.loc 17 0),(10,.own 30008),(11,v2),(12,.loc 12 0),(13,v2),(56,.hi [30000,30001,30002,30003,30004,30005,30006,30007,30008,30009]),(57,v2),(62,.own 30008),(63,v2),(64,v2)] sP e1 e0)))) L))))))))) L)))) (.nA (.num 57 9 (S L (S e10 (J mU jk (B (S L (S L (S L (B (W [(6,.loc 17 0),(10,.own 30009),(56,.hi [30000,30001,30002,30003,30004,30005,30006,30007,30008,30009]),(57,v2),(62,.own 30009),(63,v2),(64,v2)] jk (S L (S e10 (S (B (S L (S L (J [(6,.loc 17 0),(10,.own 30009),(11,v2),(12,.loc 12 0),(13,v2),(56,.hi [30000,30001,30002,30003,30004,30005,30006,30007,30008,30009]),(57,v2),(62,.own 30009),(63,v2),(64,v2)] sP e1 e0)))) L))))))))) L)))) (.nA (.num 57 10 (S L (S e10 L))) L))))))))))))) D)))) H.N4
def Qr(f:Nat):IOC:=⟨⟨[(0,.loc 100000 0),(1,.val t27)],[(100000,.cells q7 [.val qb,.val t34,.val t27,.val qb,.val t2,.val t2,.val t2,.val t2,.val t2,.val t2,.val t2,.val t34,.own 100002]),(100002,.a7 pa)]⟩,⟨[],[(100000,.cells q7 [.val qb,.val t34,.val t27,.val qb,.val t2,.val t2,.val t2,.val t2,.val t2,.val t2,.val t2,.val t34,.own 100002]),(100002,.a7 pa)]⟩,[],2,H.xU f⟩
theorem abe:∀f,IoSpec Tryz.prog yx 158 (Qr f)
 |0=>MP func158 H.alx
 |f+1=>mkI Be [(158,.io (Qr f)),(212,.io abd)] ⟨abe f,aun,trivial⟩ func158 (S L (S (S L (C (J [] aaO (S L e1) L) L)) (S L (B (W [(0,.loc 100000 0),(1,dU),(4,v2),(7,v2)] aaO ED))))) (H.alA f)
def auo:=pd Be (EF.u [(156,1)] [] trivial) [(154,.io aa_),(155,.io aa'),(158,.io (Qr 5))] ⟨aug,auh,abe 5,trivial⟩ func74 H.vw (S L (S ml (S L (S L (S L (J [(7,.loc 15 0)] [(15,.cells q7 [nd,v34,dU,nd,v2,v2,v2,v2,v2,v2,v2,.sub 50200,.own 30000]),(50200,we),(30000,EA)] e0 e9)))))) H.alE
def aup:=mk auo func77 H.Aq (S L (J [(4,.loc 4 0),(5,v4)] [(4,P7)] (S L (B (W aaH [(4,P7)] (S L (S e10 (J aaH [(4,P7)] (B (S L (S L (B (S L (C L e1)))))) L)))))) D)) H.alF
def auq:=jD aup [] func152 H.Aw 1 e2 H.alZ
def aur:=jD auq [(152,1)] func150 H.Od 1 e2 H.al0 (hc:=λx h=>by obtain⟨_,f,ar,_⟩:=h;exact sa ⟨trivial,q8 ar⟩)
def q89:=mk aur func89 H.vt (S L (S L (J [(7,v2)] [] (S L (B (W [(1,v2),(2,v2),(7,v2),(14,nd),(15,v2),(16,v2)] [] e4))) D))) H.ak7
def abf:IOC:=⟨⟨[(0,.gK),(1,.dy pa),(2,.dy vc),(1000000,.tr (.ax iM t2))],[]⟩,⟨[(1000000,.tr (.ax iM t2))],[]⟩,[],3,(H.Hb H.vt.sh)⟩
theorem aus:IoSpec Tryz.prog noU 159 abf:=mkI (S:=(H.Hb H.vt.sh)) q89 [] trivial func159 (S L (B (W aaz [] (S L (S e10 (J aaz [] (B (S L (S L (B (W [(0,.gK),(2,.dy vc),(5,aal),(6,v2),(10,aam),(11,v2),(1000000,.tr (.ax iM t2))] [] (S e1 (S (B e1) L))))))) L)))))) (λx=>M.le_refl _)
theorem aut:wu Tryz.prog 159 ⟨[pa,vc],(.ax iM t2),H.sz⟩:=MA (c:=abf) aus l9 (λx l L=>(l,x.1.getD none,x.2.getD none,(l,L,[],false),())) rfl (by decide) (by simp[fM])
 (λx l L i hx=>by
  obtain⟨T,hT⟩:=hx;obtain⟨t,b,h1,h2,hp,_⟩:=hT;obtain⟨wI,wH⟩:=x;change wI=some (some t) at h1;change wH=some (some b) at h2;subst h1;subst h2;by_cases h0:i=0
  ·subst h0;exact .inr (.inr (.inl ⟨rfl,rfl⟩))
  ·by_cases h1:i=1
   ·subst h1;exact .inr (.inl ⟨by decide,by decide,_,_,rfl,rfl⟩)
   by_cases h3:i=2
   ·subst h3;exact .inr (.inl ⟨by decide,by decide,_,_,rfl,rfl⟩)
   by_cases h2:i=TRS
   ·subst h2;exact .inr (.inr (.inr ⟨rfl,rfl⟩))
   ·refine .inl ?_;exact (if_neg h0).trans ((if_neg h1).trans ((if_neg h3).trans (if_neg h2))))
 rfl (λτ=>⟨_,_,_,_,rfl⟩) (λx l hx=>by
  obtain⟨T,hT⟩:=hx;obtain⟨t,b,h1,h2,hp,_⟩:=hT;obtain⟨wI,wH⟩:=x;change wI=some (some t) at h1;change wH=some (some b) at h2;subst h1;subst h2;have h:=H.alK l t b hp;refine⟨h.1,λτ hτ l' L' p hsl=>?_⟩;have e:aD.tr τ.1.1 (.ax iM t2) τ.1.2.1 τ.1.2.2.1 τ.1.2.2.2=.tr l' (.ax iM t2) L' p false:=hsl;injection e with e1 e2 e3 e4 dB
  rw[<-e4];exact h.2 τ hτ dB)
def auu:=pd q89 (q89.u [] [(159,⟨[pa,vc],(.ax iM t2),H.sz⟩)] ⟨aut,trivial⟩) [] trivial func79 H.Ar e2 H.alO
def auv:=jD auu [] func153 H.Oe 1 (S L (S (S L (B (bV [(2,.dy t2),(3,.dy MH),(5,.loc 5 0),(6,.loc 6 0)] [(5,.cells t2 [v2]),(6,.cells t4 [v4])] [(2,.dy t2),(3,.dy MH),(5,.loc 100005 0),(6,.loc 100006 0),(12,aai),(13,v2)] [(100005,.cells t2 [v2]),(100006,.cells t4 [v4])] [] [(100005,.cells t2 [v2]),(100006,.cells t4 [v4])] D (B e0)))) D)) H.al1 (hc:=λx h=>by obtain⟨_,_,_,_,rfl,_⟩:=h;exact sa ⟨⟨⟨trivial,rfl⟩,rfl⟩,rfl⟩)
def auw:=lH auv [(150,1),(153,1)] func70 H.Ax (S L (S L (S e0 e9))) H.al2
def auy:=mk auw func71 H.xW e2 H.al3
def auz:=lH auy [] func34 H.Hx e2 H.al4
def auA:=mk auz func199 W.yi (S L (S e0 (S L (J [(3,.own 3)] [(3,a9)] (S L (B (W [(3,.own 3),(9,dU),(10,v2),(11,v2)] [(3,a9)] e4))) D)))) W.aqg
def auB:=mk auA func198 W.qq aaT W.aqh
def abg:=mk auB func197 W.yj e2 W.aqi
def auC:IOC:=iA0 (W.shD 1 W.Ps)
theorem auD:IoSpec Tryz.prog noU 122 auC:=mkI abg [] trivial func122 e2 W.aqm
def auE:=mk abg func73 H.vu e9 H.ak9
def auF:=jD auE [] func72 H.xX 1 e2 H.al5
def abh:=lH auF [(72,1)] func35 H.Hz e2 H.al7
def auG:IOC:=iA0 (W.shD 1 W.Pt)
theorem auH:IoSpec Tryz.prog noU 123 auG:=mkI abh [] trivial func123 e2 W.aqn
def auI:=jD abh [] func75 H.Of 1 e2 H.al8
def auJ:=jD auI [] func78 H.Og 1 (S L (S L (S (S L (B (bV [(2,.dy t2),(3,.dy sR),(7,.loc 7 0)] [(7,.cells t2 [v2])] [(2,.dy t2),(3,.dy sR),(7,.loc 100007 0),(13,aai),(14,v2)] [(100007,.cells t2 [v2])] [] [(100007,.cells t2 [v2])] D (B e1)))) D))) H.al9 (hc:=λx h=>by obtain⟨_,_,_,_,rfl,_⟩:=h;exact sa ⟨⟨⟨trivial,rfl⟩,rfl⟩,rfl⟩)
def abi:=lH auJ [(75,1),(78,1)] func36 H.HB Bd H.ama
def auK:IOC:=iA0 (W.shD 1 W.Pu)
theorem auL:IoSpec Tryz.prog noU 124 auK:=mkI abi [] trivial func124 e2 W.aqo
def auM:=mk abi func81 H.xO e2 H.akb
def auN:=jD auM [] func80 H.Ay 1 e2 H.Xw
def auO:=mk auN func83 H.xY (S L (S L (S L (J [(6,.loc 6 0),(8,.loc 8 0),(9,v4)] [(6,yr),(8,yr)] (S L (B (W aaA [(6,yr),(8,yr)] (S L (S e10 (J aaA [(6,yr),(8,yr)] yw L)))))) D)))) H.amc
def auP:=jD auO [] func82 H.Ol 1 (S L (S L (J [(6,v2)] [] (S L (B (W [(0,aak),(1,.dy t2),(2,.dy sR),(6,v2),(10,v2)] [] (S L (S e10 (J [(0,aak),(1,.dy t2),(2,.dy sR),(6,v2),(10,v2)] [] yv L)))))) D))) H.amf (hc:=λx h=>by obtain⟨_,_,_,rfl,_⟩:=h;exact sa ⟨⟨trivial,rfl⟩,rfl⟩)
def abj:=lH auP [(80,1),(82,1)] func37 H.HD Bd H.amh
def auQ:IOC:=iA0 (W.shD 1 W.Pv)
theorem auR:IoSpec Tryz.prog noU 125 auQ:=mkI abj [] trivial func125 e2 W.aqp
def Qs:=jD abj [] func84 H.Oo 1 e2 H.aml (hc:=λx h=>by obtain⟨a,b,ar⟩:=h;exact sa ⟨⟨trivial,q8 (congrArg (λo=>o.1) ar)⟩,q8 (congrArg (λo=>o.2) ar)⟩)
def abk:IOC:=⟨⟨[(0,.gK),(1,.dy GU),(1000000,.tr t2)],[]⟩,⟨[(1000000,.tr t2)],[]⟩,[],2,H.ND⟩
theorem auS:IoSpec Tryz.prog noU 162 abk:=mkI (S:=H.ND) Qs [] trivial func162 (S L (B (W [(0,.gK),(5,.jP 5),(1000000,.tr t2)] [(5,.b5 t2 t2)] (S L (S e10 yw))))) (λx=>M.le_refl _)
theorem auT:wu Tryz.prog 162 ⟨[GU],t2,H.jF⟩:=MA (c:=abk) auS l9 (λx l L=>(l,x.getD [],(l,L,[],false),())) rfl (by decide) (by simp[fM])
 (λx l L i hx=>by
  obtain⟨T,hT⟩:=hx;obtain⟨m,an,_⟩:=hT;subst an;by_cases h0:i=0
  ·subst h0;exact .inr (.inr (.inl ⟨rfl,rfl⟩))
  ·by_cases h1:i=1
   ·subst h1;exact .inr (.inl ⟨by decide,by decide,_,_,rfl,rfl⟩)
   by_cases h2:i=TRS
   ·subst h2;exact .inr (.inr (.inr ⟨rfl,rfl⟩))
   ·refine .inl ?_;exact (if_neg h0).trans ((if_neg h1).trans (if_neg h2)))
 rfl (λτ=>⟨_,_,_,_,rfl⟩) (λx l hx=>by
  obtain⟨T,hT⟩:=hx;obtain⟨m,an,_⟩:=hT;subst an;have h:=H.alG l m;refine⟨h.1,λτ hτ l' L' p hsl=>?_⟩;have e:aD.tr τ.1.1 t2 τ.1.2.1 τ.1.2.2.1 τ.1.2.2.2=.tr l' t2 L' p false:=hsl;injection e with e1 e2 e3 e4 dB
  rw[<-e4];exact h.2 τ hτ dB)
def auU:=pd Qs (Qs.u [] [(162,⟨[GU],t2,H.jF⟩)] ⟨auT,trivial⟩) [] trivial func87 H.Hm e2 H.akJ
def abl:=lH auU [(84,1)] func38 H.HE (S L (S L (S e0 (S L (J [(10,.fk 24)] [(24,.mp t2 t2)] (S L (B (W aaB [(4,.gi t2),(5,.gi t2),(24,.mp t2 t2)] (S L (S e10 (J aaB [(4,.gi t2),(5,.gi t2),(24,.mp t2 t2)] yv L)))))) D))))) H.amm
def auV:IOC:=iA0 (W.shD 2 W.Pw)
theorem auW:IoSpec Tryz.prog noU 126 auV:=mkI abl [] trivial func126 (S L (S L (S e0 (S e0 D)))) W.aqs
def auX:=jD abl [] func88 H.Ay 1 e2 H.ame
def abm:=lH auX [(88,1)] func39 H.HF (S L (S L (S e0 (J [(4,.own 4),(5,.own 5)] [(4,a2),(5,a2)] (S L (B (W aaC Bc (S L (S e10 (J aaC Bc (B (S L (S L (J aax Bc (S L (B (W aat Bc (S L (S e10 (J aat Bc yv L)))))) (J aax Bc e1 e1))))) L)))))) D)))) H.amr
def auY:IOC:=iA0 (W.shD 1 W.Px)
theorem auZ:IoSpec Tryz.prog noU 127 auY:=mkI abm [] trivial func127 (S L e9) W.aqu
def au0:=mk abm func143 fcFitsAt e20 anJ
def au1:=jD au0 [] func142 x3 1 e2 anK (hc:=λx h=>by obtain⟨i,w,n,ar,_⟩:=h;exact sa ⟨⟨⟨trivial,q8 (congrArg (λo=>o.1) ar)⟩,q8 (congrArg (λo=>o.2.1) ar)⟩,q8 (congrArg (λo=>o.2.2) ar)⟩)
def au2:=lH au1 [(142,1)] func63 AK (S L (S ml (S e0 (S L (J [(7,.loc 22 0)] [(22,.cells xB [v22,rv,v2,v24,.own 61]),(61,Ey)] (S L (B (W [(2,.loc 2 0),(7,.loc 22 0),(24,v22),(25,v2),(26,v2)] aaP (S L (S e10 (J [(2,.loc 2 0),(7,.loc 22 0),(24,v22),(25,v2),(26,v2)] aaP (B (S L (S L (J [(2,.loc 2 0),(7,.loc 22 0),(10,.own 10),(24,v22),(25,v2),(26,v2)] [(2,.gi tN),(10,a2),(22,.cells xB [v22,rv,v2,v24,.own 61]),(61,Ey)] (S L (B (W aas [(2,.gi tN),(8,.gi t2),(9,aao),(10,a2),(11,.cells t2 [v2]),(22,.cells xB [v22,rv,v2,v24,.own 61]),(61,Ey)] (S e1 (J aas [(2,.gi tN),(8,.gi t2),(9,aao),(10,a2),(11,.gi t2),(22,.cells xB [v22,rv,v2,v24,.own 61]),(61,Ey)] yw (S D L)))))) (S e0 L))))) L)))))) D))))) anP
def Ds:=mk au2 func24 x1 Bd anX
def Bf:IOC:=⟨⟨[(0,.val t32)],[]⟩,⟨[(0,.val t22),(1,.val Db),(2,.val t2),(3,.own 28),(4,.own 11),(5,.own 16),(6,.own 20),(7,.own 24),(8,.val t2)],[(28,.a7 zQ),(11,.a7 t2),(16,.a7 xA),(20,.a7 vb),(24,.a7 q6)]⟩,[some 9],1,W.wa⟩
theorem EG:IoSpec Tryz.prog noU 118 Bf:=mkI Ds [(188,Qh),(189,Qi),(190,Qj),(191,.io Qk),(192,Ql),(193,Qm),(194,Jj),(195,Qo)] ⟨aaZ,aa0,aa1,aa2,aa5,aa6,Qn,aa7,trivial⟩ func118 kO W.sClo
def au3:IOC:=iA0 (W.shD 4 W.vZ)
theorem au4:IoSpec Tryz.prog noU 128 au3:=mkI Ds [(118,.io Bf)] ⟨EG,trivial⟩ func128 (S L (S L (S L (S L (S e0 (S ml e2)))))) W.aqI
def au5:=mk Ds func146 HO aaT anQ
def au6:=mk au5 func66 HV (S L (S L (J [(0,aah),(1,v2),(9,v2)] [] (S L (B (W aaD [] (S L (S e10 (J aaD [] yw L)))))) D))) anV
def ra:=mk au6 func23 AH (S L e9) anZ
def au7:IOC:=iA0 (W.shD 3 W.Py)
theorem au8:IoSpec Tryz.prog noU 129 au7:=mkI ra [] trivial func129 (S L e9) W.aqw
def EH:IOC:=⟨⟨[(0,.loc 100000 0),(1,.val t32)],[(100000,.fI qc)]⟩,⟨[(0,.val t9)],[(100000,.fI qc)]⟩,[none],2,W.wb⟩
theorem Jl:IoSpec Tryz.prog noU 200 EH:=mkI ra [] trivial func200 (S L (S e0 e2)) W.aqG
def au9:IOC:=iA0 (W.shD 2 W.v7)
theorem au_:IoSpec Tryz.prog noU 130 au9:=mkI ra [(118,.io Bf),(200,.io EH)] ⟨EG,Jl,trivial⟩ func130 Bd W.aqJ
def au':IOC:=iA0 (W.shD 3 W.Pz)
theorem ava:IoSpec Tryz.prog noU 131 au':=mkI ra [(118,.io Bf),(200,.io EH)] ⟨EG,Jl,trivial⟩ func131 uz W.aqK
def avb:IOC:=iA0 (W.shD 4 W.PA)
theorem avc:IoSpec Tryz.prog noU 132 avb:=mkI ra [(118,.io Bf),(200,.io EH)] ⟨EG,Jl,trivial⟩ func132 uz W.aqL
def avd:IOC:=iA0 (W.shD 5 W.PB)
theorem ave:IoSpec Tryz.prog noU 133 avd:=mkI ra [(118,.io Bf),(200,.io EH)] ⟨EG,Jl,trivial⟩ func133 uz W.aqM
def abn:IOC:=⟨⟨[(0,.own 200001),(1,.val t3),(2,.val t3)],[(200001,.a7 vb)]⟩,⟨[(0,.sub 200001)],[(200001,.a7 vb)]⟩,[none],3,(W.IK W.IP)⟩
theorem avf:IoSpec Tryz.prog noU 201 abn:=mkI ra [] trivial func201 (S L (S L (S e0 uz))) (W.aqD W.IP)
def avg:IOC:=iA0 (W.shD 1 W.v8)
theorem avh:IoSpec Tryz.prog noU 134 avg:=mkI ra [(194,Jj),(201,.io abn)] ⟨Qn,avf,trivial⟩ func134 (S L (S e0 (S .FU D))) W.aqN
def avi:=mk ra func217 sD (S L (S L (S L (S L (S L (S L (S L (S L uz)))))))) aoq
def avj:=mk avi func165 sD (S L (S (C e2 L) e2)) (aos (λ_=>M.fail))
def avk:=mk avj func163 H6 (S L (J [(0,nd),(1,v2)] [] e1 (S L (J [(0,nd),(6,v228)] [] e1 (S L (S L (J [(7,.own 30)] [(30,Je)] (B (W [(7,.own 30),(8,v2)] [(30,Je)] (S e1 (B L)))) D))))))) aoA
def avl:=mk avk func90 AP (S L (S ml (S e0 (S L (J [(2,.loc 2 0),(7,.loc 30 0)] wg (S L (C ml L)) (J [(2,.loc 2 0),(7,.loc 30 0)] wg (S L (B (W [(2,.loc 2 0),(7,.loc 30 0),(46,v2),(47,v2)] wg (S L (S e10 (J [(2,.loc 2 0),(7,.loc 30 0),(46,v2),(47,v2)] wg (B (S L (S L (B (W aay wg (S L (S e10 (J aay wg (B (S L (S L (B (W aau wg (S L (S e10 (J aau wg yv L)))))))) L)))))))) L)))))) (J [(2,.loc 2 0),(7,.loc 30 0)] aaM (S L (B (W [(2,.loc 2 0),(7,.loc 30 0),(92,dU),(93,v2),(94,v2)] aaM e4))) (J [(7,.loc 30 0)] aaN (S L (B (W [(7,.loc 30 0),(114,pJ),(115,v2),(116,v2)] aaN e4))) D)))))))) aoO
def abo:=mk avl func91 OS e2 aoD
def abp:IOC:=⟨⟨[(0,.val t27),(1,.val t3)],[]⟩,⟨[(0,.own 30)],[(30,.a7 t3)]⟩,[none],2,vM⟩
theorem avm:IoSpec Tryz.prog noU 92 abp:=mkI abo [] trivial func92 s7 YP
def q168:=mk abo func168 vN (S L (S (B (S L (C D (S L (C D e0))))) D)) aoF
def abq:=mk q168 func96 Ic (S L (S L (J [(6,.own 6)] [(6,A_)] (S L (B (W [(0,kq),(6,.own 6),(14,dU),(15,v2),(16,v2)] [(6,A_)] (S L (S e10 (J [(0,kq),(6,.own 6),(14,dU),(15,v2),(16,v2)] [(6,A_)] (B (S L (S e1 (S L (S L (J [(0,kq),(6,.own 6),(10,.loc 10 0),(11,v2),(14,dU),(15,v2),(16,v2)] [(6,A_),(10,aag)] (S L (B (S L (C D e1)))) (S e0 (S L (B (W [(0,kq),(6,.own 6),(10,.loc 10 0),(11,v2),(14,dU),(15,v2),(16,v2),(58,dU),(59,v2),(60,v2)] [(6,A_),(10,aag)] e4)))))))))) L)))))) D))) ao0
def abr:IOC:=⟨⟨[(0,.val t27),(1,.val t2)],[]⟩,⟨[(0,.own 30)],[(30,.a7 t2)]⟩,[none],2,vM⟩
theorem avn:IoSpec Tryz.prog noU 92 abr:=mkI abq [] trivial func92 s7 YP
def abt:=mk abq func169 fcGood e2 ao'
def Qt(f:Nat):IOC:=⟨⟨[(0,.val oj),(1,.own 200001),(2,.val zR),(3,.val t2),(4,.fk 100002)],[(100002,.mp t2 t2),(200001,.a7 t2)]⟩,⟨[(0,.val t4)],[(100002,.mp t2 t2),(200001,.a7 t2)]⟩,[none],5,um f⟩
theorem abu:∀f,IoSpec Tryz.prog noU 170 (Qt f)
 |0=>MP func170 api
 |f+1=>mkI abt [(170,.io (Qt f))] ⟨abu f,trivial⟩ func170 (S L (J [] Qd (S L (B (W aaw Qd (S L (S e10 (J aaw Qd (B (S L (S e1 (S L (S L (C e2 L)))))) L)))))) D)) (aph f)
def avo:=pd abt l9 [(92,.io abr),(170,.io (Qt 201))] ⟨avn,abu 201,trivial⟩ func98 Ih (S L (S L (S L (J [(6,v2)] [] (S L (B (W aaI [(50140,a2)] (S L (S e10 (J aaI [(50140,a2)] yw L)))))) D)))) apk
def avp:=mk avo func93 vU e20 apl
def abv:=pd avp l9 [(92,.io abp)] ⟨avm,trivial⟩ func40 Ir (S L (S L (S e0 (S L (S L (J [(8,.own 8)] [(8,a2)] (S L (B (W aaF [(8,a2),(50260,a2)] (S L (S e10 (J aaF [(8,a2),(50260,a2)] yv L)))))) D)))))) apI
def avq:IOC:=iA0 (W.shD 1 W.PC)
theorem avr:IoSpec Tryz.prog noU 135 avq:=mkI abv [] trivial func135 e20 W.aqy
def avt:=mk abv func181 OT e2 aoE
def avu:=mk avt func108 H7 (S L (J [(1,dU),(2,.loc 2 0)] [(2,yq)] (S L (B (W [(1,dU),(2,.loc 2 0),(7,dU),(8,v2),(9,v2)] [(2,yq)] e3))) D)) aoG
def avv:=mk avu func109 sG (S L (J [(4,v2)] [] (S L (B (W [(0,kq),(4,v2),(7,dU),(8,v2),(9,v2)] [] (S L (S e10 (J [(0,kq),(4,v2),(7,dU),(8,v2),(9,v2)] [] yw L)))))) D)) ao2
def abw:=mk avv func49 Is (S L (S L (S e0 (S e0 D)))) apK
def avw:IOC:=iA0 (W.shD 0 W.PD)
theorem avx:IoSpec Tryz.prog noU 136 avw:=mkI abw [(192,.io aa3)] ⟨aa4,trivial⟩ func136 (S L (S L (J [(0,.loc 100000 0),(5,.own 50100)] [(50100,a2),(100000,Ez)] (S L (B (W [(0,.loc 100000 0),(5,.own 50100),(12,v2),(13,v2)] [(50100,a2),(100000,Ez)] e4))) e2))) W.aqz
def Qu:=mk abw func92 H4 s7 aoz
def Jm(f:Nat):IOC:=⟨⟨[(0,.val oj),(1,.val t27),(2,.val t2),(3,.gK),(1000000,.tr t27)],[]⟩,⟨[(0,.val t4),(1000000,.tr t27)],[]⟩,[none],4,rr f⟩
theorem Qv:∀f,IoSpec Tryz.prog noU 167 (Jm f)
 |0=>MP func167 apw
 |f+1=>mkI Qu [(167,.io (Jm f))] ⟨Qv f,trivial⟩ func167 (S L (S L (S e0 (J [(0,kq),(1,dU),(2,v2),(3,.gK),(9,v2),(1000000,.tr t27)] [] (S L (B (W aav [] (S L (S e10 (J aav [] (B (S L (S e1 e0))) L)))))) D)))) (apv f)
def abx:IOC:=⟨⟨[(0,.val oj),(1,.gK),(1000000,.tr t27)],[]⟩,⟨[(1000000,.tr t27)],[]⟩,[],2,(G9 (rr 10))⟩
theorem avy:IoSpec Tryz.prog noU 218 abx:=mkI (S:=(G9 (rr 10))) Qu [(167,.io (Jm 10))] ⟨Qv 10,trivial⟩ func218 L (λx=>M.le_refl _)
def Jn:ITC:=⟨oj,t27,yc,Ij⟩
theorem avz:CC Tryz.prog 218 Jn:=T8 (c:=abx) avy l9 (ic:=Jn) (λx l L=>(x,l,(l,L,[],false),())) rfl (by decide) (by simp[Jn])
 (λx l L i=>by
  by_cases h0:i=0
  ·subst h0;exact .inr (.inl ⟨by decide,rfl⟩)
  ·by_cases h1:i=1
   ·subst h1;exact .inr (.inr (.inl ⟨rfl,rfl⟩))
   ·by_cases h2:i=TRS
    ·subst h2;exact .inr (.inr (.inr ⟨rfl,rfl⟩))
    ·refine .inl ?_;exact (if_neg h0).trans ((if_neg h1).trans (if_neg h2)))
 rfl (λτ=>⟨_,_,_,_,rfl⟩) (λx l hp=>by
  obtain⟨s,hs,hv⟩:=hp;subst hs;have h:=apx s hv l;refine⟨h.1,λτ hτ l' L' n hsl=>?_⟩;have e:aD.tr τ.1.1 t27 τ.1.2.1 τ.1.2.2.1 τ.1.2.2.2=.tr l' t27 L' n false:=hsl;injection e with e1 e2 e3 e4 dB
  exact e4.symm.trans ((h.2 τ hτ).2.2 dB))
def avA:=pd Qu l9 [(218,.b5 Jn)] ⟨avz,trivial⟩ func166 Pj (S L (S L (S (S L (B (bV [(1,.loc 1 0),(3,.loc 3 0)] [(1,.cells oj [kq]),(3,.cells t27 [dU])] [(1,.loc 100001 0),(3,.loc 100003 0),(15,dU)] [(100001,.cells oj [kq]),(100003,.cells t27 [dU])] [] [(100001,.cells oj [kq]),(100003,.cells t27 [dU])] L (B e1)))) D))) apD
def avB:=mk avA func94 Pl (S L e9) apE
def Qw:=mk avB func41 Im e2 apF
def avC:IOC:=iA0 (W.shD 0 W.PE)
theorem avD:IoSpec Tryz.prog noU 137 avC:=mkI Qw [] trivial func137 e20 W.aqA
def aby:IOC:=⟨⟨[(0,.val oj),(1,.gK),(1000000,.tr t27)],[]⟩,⟨[(1000000,.tr t27)],[]⟩,[],2,(G_ (rr 10))⟩
theorem avE:IoSpec Tryz.prog noU 95 aby:=mkI (S:=(G_ (rr 10))) Qw [(167,.io (Jm 10))] ⟨Qv 10,trivial⟩ func95 L (λx=>M.le_refl _)
def Jo:ITC:=⟨oj,t27,yc,Pe⟩
theorem avF:CC Tryz.prog 95 Jo:=T8 (c:=aby) avE l9 (ic:=Jo) (λx l L=>(x,l,(l,L,[],false),())) rfl (by decide) (by simp[Jo])
 (λx l L i=>by
  by_cases h0:i=0
  ·subst h0;exact .inr (.inl ⟨by decide,rfl⟩)
  ·by_cases h1:i=1
   ·subst h1;exact .inr (.inr (.inl ⟨rfl,rfl⟩))
   ·by_cases h2:i=TRS
    ·subst h2;exact .inr (.inr (.inr ⟨rfl,rfl⟩))
    ·refine .inl ?_;exact (if_neg h0).trans ((if_neg h1).trans (if_neg h2)))
 rfl (λτ=>⟨_,_,_,_,rfl⟩) (λx l hp=>by
  obtain⟨s,hs,hv⟩:=hp;subst hs;have h:=apy s hv l;refine⟨h.1,λτ hτ l' L' n hsl=>?_⟩;have e:aD.tr τ.1.1 t27 τ.1.2.1 τ.1.2.2.1 τ.1.2.2.2=.tr l' t27 L' n false:=hsl;injection e with e1 e2 e3 e4 dB
  exact e4.symm.trans ((h.2 τ hτ).2.2 dB))
def avG:=mk Qw func97 O_ (S L (J [] [] (S L (B (W [(0,kq),(9,pJ),(10,v2),(11,v2)] [] (S L (S e10 (J [(0,kq),(9,pJ),(10,v2),(11,v2)] [] (B (S L (S L (J [(0,kq),(7,v4),(9,pJ),(10,v2),(11,v2)] [] (S L (B (W [(0,kq),(6,.loc 6 0),(7,v4),(9,pJ),(10,v2),(11,v2),(20,v2),(21,v2)] [(6,asA)] e4))) e0)))) L)))))) D)) apb
def Qx:=pd avG l9 [(95,.b5 Jo)] ⟨avF,trivial⟩ func42 Iq (S L (S L (S e0 (S L (S (S L (B (bV [(4,.loc 4 0),(6,.loc 6 0)] [(4,.cells oj [kq]),(6,.cells t2 [v2])] [(4,.loc 100004 0),(6,.loc 100006 0),(21,dU)] [(100004,.cells oj [kq]),(100006,.cells t2 [v2])] [] [(100004,.cells oj [kq]),(100006,.cells t2 [v2])] L (B (S L (S e1 (S L e1))))))) (S e0 D)))))) apG
def avH:IOC:=iA0 (W.shD 0 W.PF)
theorem avI:IoSpec Tryz.prog noU 138 avH:=mkI Qx [] trivial func138 e20 W.aqB
theorem avJ:∀ k∈[119,120,121,122,123,124,125,126,127,128,129,130,131,132,133,134,135,136,137,138],IoSpec Tryz.prog noU k {Qq with sh:=W.Eo k}:=Ex.mem (l:=[119,120,121,122,123,124,125,126,127,128,129,130,131,132,133,134,135,136,137,138]) ⟨at5,at7,aub,auD,auH,auL,auR,auW,auZ,au4,au8,au_,ava,avc,ave,avh,avr,avx,avD,avI,trivial⟩
def abz:IOC:=⟨⟨[(0,.loc 100000 0),(1,.val MG),(2,.val t9)],[(100000,.fI qc)]⟩,⟨[(0,.val t9)],[(100000,.fI qc)]⟩,[none],3,W.IW⟩
theorem avK:IoSpec Tryz.prog noU 59 abz:=mkI Qx [(999999,.FD Qq W.Eo [119,120,121,122,123,124,125,126,127,128,129,130,131,132,133,134,135,136,137,138])] ⟨avJ,trivial⟩ func59 (S L (S L (S L (S ml (S L (J [(0,.loc 100000 0),(8,.loc 8 0),(11,.own 48)] [(8,aan),(48,a2),(100000,Ez)] (S L (B (W [(0,.loc 100000 0),(8,.loc 8 0),(11,.own 48),(50,oK),(51,v2),(52,v2)] [(8,aan),(48,a2),(100000,Ez)] (S L (S e10 (S (B (S L (S L (S e0 L)))) L)))))) D)))))) W.aqU
def Nt:=pd Qx l9 [(57,.io aa9),(59,.io abz)] ⟨at4,avK,trivial⟩ func20 W.uu (S L (S ml (S e0 (S L (J [(4,.own 4),(5,.loc 5 0),(8,.loc 50230 0)] aaL (S L (B (W [(4,.own 4),(5,.loc 5 0),(8,.loc 50230 0),(9,asC),(25,oK),(26,v2),(27,v2)] aaL e4))) D))))) W.aq1
def avL:=mk Nt func62 W.uv (S L (S e0 (J [] [] (S L (B (W [(0,dU),(1,dU),(5,v2)] [] dB))) D))) W.arl
def avM:=mk avL func60 W.I6 (S L (S e0 (J Jh EB (S L (B (W [(2,.loc 2 0),(3,.loc 3 0),(5,v2)] EB dB))) (J Jh EB (S L (B (W [(2,.loc 2 0),(3,.loc 3 0),(6,v2)] EB dB))) (J [] [] (S L (B (W Qc EB dB))) D))))) W.arn
def avN:=mk avM func61 W.I7 (S L (S e0 (J Jh yt (S L (B (W [(2,.loc 2 0),(3,.loc 3 0),(5,v2)] yt dB))) (J Jh yt (S L (B (W [(2,.loc 2 0),(3,.loc 3 0),(6,v2)] yt dB))) (J [] [] (S L (B (W Qc yt (S e1 (J Qc yt (B (S L (S e0 (S L (B (W [(2,.loc 2 0),(3,.loc 3 0),(7,v2),(8,P'),(9,P'),(10,v2)] yt dB)))))) L))))) D))))) W.aro
def Nu:=mk avN func22 W.Et (S L (S L (S e0 (J [(5,.loc 5 0),(6,.loc 6 0)] EC (S L (B (W [(5,.loc 5 0),(6,.loc 6 0),(7,v2)] EC yu))) (J [(5,.loc 5 0),(6,.loc 6 0)] EC (S L (B (W [(5,.loc 5 0),(6,.loc 6 0),(10,v2)] EC yu))) (J [] [] (S L (B (W [(5,.loc 5 0),(6,.loc 6 0),(13,v2)] EC dB))) D)))))) W.arp
def avO:=mk Nu func208 b4 e2 am3
def avP:=mk avO func148 H.b4 e2 H.aj'
def avQ:=mk avP func147 H.vn e2 H.akd
def avR:=mk avQ func149 H.fcSlip e9 H.akf
def avS:=mk avR func67 H.vp (S L (S e0 (J nf nU (S L (B (W sO nU dB))) (J nf nU (S L (B (W [(1,.loc 1 0),(4,v2)] nU dB))) (J nf nU (S L (B (W Bb nU dB))) (J [] [] (S L (B (W [(1,.loc 1 0),(6,v2)] nU yu))) D)))))) H.akL
def avT:=mk avS func68 H.Hg e2 H.akj
def avU:=mk avT func26 H.hI (S L (S e0 (J [] [] (S L (B (W sO nU (S e1 (J sO nU (B (S L (B (W Jg nU dB)))) L))))) D))) H.akN
def avV:=mk avU func251 oC e2 am8
def avW:=mk avV func316 uc aaR am9
def avX:=mk avW func252 sB (S L (J nf [(1,aaq)] (S L (B (W sO [(1,aaq)] dB))) D)) am'
def avY:=mk avX func253 pv e2 am4
def avZ:=mk avY func317 AE e2 am6
def av0:=mk avZ func254 rj e2 am7
def av1:=mk av0 func179 sC (S L (S e0 (J nf ng (S L (B (W sO ng yu))) (J nf ng (S L (B (W Bb ng (S e1 (J Bb ng (B (S e0 (S L (B (W [(1,.loc 1 0),(5,v2),(6,v2)] ng dB))))) L))))) (J [] [] (S L (B (W [(1,.loc 1 0),(7,v2)] ng yu))) D))))) anb
def av2:=mk av1 func104 hI (S L (S e0 (J [] [] (S L (B (W sO ng (S e1 (J sO ng (B (S L (B (W Jg ng yu)))) L))))) D))) ane
def av3:=mk av2 func105 b4 e2 an_
def av4:=mk av3 func180 HY (S L (J [] [] (S L (B (W [(0,dU),(1,v2),(5,v2)] [] dB))) D)) aoc
def av5:=mk av4 func106 H0 e9 aom
def av6:=mk av5 func107 H2 e2 aon
def av7:=mk av6 func48 pB (S L (S ml (S e0 (J nf qu aaS (J nf qu (S L (B (W Bb qu dB))) (J nf qu (S L (B (W [(1,.loc 1 0),(6,v2)] qu dB))) (J [] [] (S L (B (W [(1,.loc 1 0),(7,v2)] qu yu))) D))))))) aoo
def xK:=mk av7 func15 W.sN e9 W.aq5
def av8:=mk xK func110 vA (S L (S e0 (J nf ng (S L (B (W sO ng (S e1 (J sO ng (B (S e0 (S L (B (W Jg ng dB))))) L))))) (S e0 (J nf ng (S L (B (W Bb ng dB))) D))))) an6
def av9:=mk av8 func50 It (S L (S e0 (J nf qu (S L (B (W sO qu dB))) (J nf qu aaS (S e0 (S L (J Bb qu (S L (B (W [(1,.loc 1 0),(5,v2),(6,v2)] qu ED))) D))))))) apN
def av_:=mk av9 func51 H.vA (S L (S e0 (S e0 (S L (J [(3,v2)] [] (S L (B (W Jg nU ED))) D))))) H.amt
def awa:=mk av_ func111 W.I0 (S L (S L (J [(3,.own 5)] [(5,a9)] (S L (B (W [(0,v9),(3,.own 5),(4,v2)] [(5,a9)] (S e1 (J [(0,v9),(3,.own 5),(4,v2)] [(5,a9)] (B e1) L))))) D))) W.aq9
def awb:=mk awa func112 W.IZ (S L (S e0 (S L (J [(3,v2)] [] (S L (B (W [(0,v9),(3,v2),(4,v2)] [] (S e1 (S (B (S e0 L)) L))))) D)))) W.aq8
def awc:=mk awb func113 W.I1 (S L uz) W.aq'
def awd:=mk awc func52 W.A6 (S L (S L (J [(3,.own 3),(5,oK)] [(3,a2)] (S L (B (W [(3,.own 3),(5,oK),(6,v2)] [(3,a2)] (S e1 (S (B (S L (S e0 L))) L))))) (S L (J [] [] (S L (B (W [(3,.own 3),(5,oK),(8,oK),(9,dU),(10,dU),(11,v2)] [(3,a2)] dB))) D))))) W.ara
def se:=mk awd func14 W.I9 (S L (S e0 (S L (J [(1,oK),(2,.loc 2 0),(5,v2),(6,v2),(7,v2),(8,v2)] [(2,ry)] (S L (B (W [(1,oK),(2,.loc 2 0),(5,v2),(6,v2),(7,v2),(8,v2),(9,v2)] [(2,ry)] ED))) (J [(2,.loc 2 0),(5,v2),(6,v2),(7,v2),(8,v2)] [(2,ry)] (S L (B (W aaG [(2,ry)] (S e1 (J aaG [(2,ry)] (B (S e0 (S L (B (S L (C L (S L (C L (S L (C D e1)))))))))) L))))) D))))) W.art
def awe:=mk se func28 W.Ev e2 W.aru
def awf:=mk awe func30 W.Er (S L (S e0 (J [] [] (S L (B (W [(0,oK),(1,oK),(5,v2)] [] dB))) D))) W.arj
def awg:=mk awf func183 OO e2 an7
def awh:=mk awg func115 Iu e2 apO
def awi:=mk awh func54 W.IX e2 W.aq3
def awj:=mk awi func29 W.Ew e20 W.arz
def awk:=mk awj func31 W.I2 e20 W.ard
def awl:=mk awk func32 W.Ep (S L (S L (S (S L (B (J [(5,v4),(14,v4)] [] (S L (C L (S L (C L (S L (C L (S L (C L (S L (C L (S L (C L (S L (C L e1)))))))))))))) (C D L)))) D))) W.arf
theorem abQ:hL Tryz.prog 11 (.ax wj EI) t4 (λx=>OD W.uu.sh W.Et.sh W.Ev.sh W.Ew.sh W.Ep.sh x):=G2 awl l9 (sp:=[]) trivial func11 (ann:=(S L (S e0 (S L (S e0 (S L (J [(2,.loc 2 0),(6,.loc 6 0),(8,.own 8)] [(2,ry),(6,ry),(8,a9)] (S L (B (W aaE [(2,ry),(6,ry),(8,a9)] (S e1 (J aaE [(2,ry),(6,ry),(8,a9)] (B (S L (C (S e0 L) L))) L))))) (S L (S e0 (J [] [] (S L (B (W [(10,oK),(13,v2)] [] dB))) D)))))))))) (λx=>M.le_refl _) (by kernel_rfl) λx=>by kernel_rfl
end
end Go.Fer.nV
namespace Go.Fer.nV
open Go Go.Proofs
theorem abN{H:Type}{enc:TypeId×Value->H}{a:Assume}{C:Checked}{os:Os}{f:FuncId}{fn:Func}{s:ChangeSpec}{conds:List PathCond}{apart FC handsOn again:Bool}{X:World->Array Value->Prop}
  (zw:∀ (w w':World) (args:Array Value),w.heap=w'.heap->X w args->X w' args)
  (own:ownKnob C.prog.godebug=none) (started:os.Started) (awm:C.prog.inits.idxOf? f=none) (sS:C.prog.funcs[f]?=some fn)
  (witness:∃ (w:World) (tape:Tape) (i:Input),w.os=os/\(w.forCall tape i).Shaped C.prog/\i.vars=[]/\Input.okWide C.prog (w.forCall tape i) .any w.heap.size f i/\
   ((s.pre enc C.prog fn conds apart (w.forCall tape i).memory i.args/\X (w.forCall tape i).memory i.args)/\sizedMet enc C.prog fn (OpenSpec.ofChange s) apart (w.forCall tape i).memory i.args)/\a.holds C.prog (lone (Frame.enter C.prog f i.args .normal) [] (w.forCall tape i)))
  (awn:∀ (W:World) (base:Nat) (args:Array Value) (a8 gs:List (DataW H)) (before:List MemPlace),(∀ (j:Nat) t v,fn.params[j]?=some t->args[j]?=some v->Value.okWide C.prog W .any base t v)->
   DataW.Whole enc C.prog fn.params.toList s.vars apart W args.toList a8 gs before->
   W.ShapedOpen C.prog->X W args->
   Calls C.prog f args W λe p8=>∃ v,e=.returned v/\s.post enc C.prog fn apart FC handsOn again W args v p8) :
  ReturnsInHanded a C os f .any (λw args=>(s.pre enc C.prog fn conds apart w args/\X w args)/\sizedMet enc C.prog fn (OpenSpec.ofChange s) apart w args) (s.post enc C.prog fn apart FC handsOn again):=by
 refine returnsInHanded_of_calls own started awm witness ?_;intro w tape i _ ni _ cp gm axO;obtain⟨_,_,_,awo,awp,_,_,_,_,xx⟩:=cp;have e:awo=fn:=Option.some.inj (awp.symm.trans sS);subst e;obtain⟨⟨⟨a8,gs,before,hw,hc⟩,hx⟩,a_⟩:=gm;have Ct:=DataW.Whole.of_heap (w':=w.forCall tape i) (by rfl) hw;refine (awn (w.forCall tape i) w.heap.size i.args a8 gs before xx Ct ni (zw (w.forCall tape i).memory (w.forCall tape i) i.args rfl hx)).mono λe p8 ⟨v,he,hp⟩=>?_;subst he;exact ChangeSpec.post_blind hp
theorem Jq{P:Program}{w:World}:∀ {l:List (String×DataW Unit)} {ps:List MemPlace},DataW.LaidVars P w l ps->∀ n d,(n,d)∈l->∃ g t cs bW p,P.globalNamed n=some g/\(P.globals[g]?).map (·.type)=some t/\w.var? P n=some cs/\DataW.trod (λ_=>()) P w 0 (λ_=>true) false bW t cs.toList=some (d,p)
 | [],_,_,_,_,an=>by cases an
 | (iH,uF)::r,ps,h,n,d,an=>by
  obtain⟨g,t,cs,bW,p,q,h1,h2,h3,aR,bw,_⟩:=h;rcases List.mem_cons.1 an with e | e
  ·cases e;exact⟨g,t,cs,bW,p,h1,h2,h3,aR⟩
  ·exact Jq bw n d e
theorem abM{P:Program}{w:World}{n:String}{g:Nat}{t:TypeId}{d:DataW Unit}{bW:Nat}{cs:Array Value}{p:List MemPlace}(az:P.globalNamed n=some g)(hv:w.var? P n=some cs)(hu:∃ ms,P.underlying t=some (.interface ms))
  (h:DataW.trod (λ_=>()) P w 0 (λ_=>true) false bW t cs.toList=some (d,p)):∃ v,w.cell? ⟨g,0,none⟩=some v/\(v=.nilIface\/∃ te pe,v=.iface te pe):=by
 obtain⟨ms,hu⟩:=hu;have hc:w.cell? ⟨g,0,none⟩=cs[0]?:=by
  unfold World.var? at hv;rw[az]at hv;simp only[Option.bind_some]at hv;cases ag:w.heap[g]? with
  | none=>rw[ag]at hv;cases hv
  | some o=>
   rw[ag]at hv;cases o with
   | cells a T ep=>cases hv;simp[World.cell?,ag]
   | _=>cases hv
 have aH:cs[0]?=cs.toList[0]?:=by simp
 rw[hc,aH];generalize cs.toList=l at h;cases bW with
 | zero=>simp[DataW.trod]at h
 | succ bW=>
  match l with
  | []=>simp[DataW.trod,hu]at h
  | [.nilIface]=>exact⟨_,rfl,.inl rfl⟩
  | [.iface u v]=>exact⟨_,rfl,.inr ⟨u,v,rfl⟩⟩
  | _::_::_=>simp[DataW.trod,hu]at h
  | [x]=>cases x<;>first | exact⟨_,rfl,.inl rfl⟩ | exact⟨_,rfl,.inr ⟨_,_,rfl⟩⟩ | (simp[DataW.trod,hu]at h;done)
theorem awq:((List.range 8).all λb=>(((begin Tryz.prog (λ_ _=>0) default).world.heap[b]?).bind Obj.row?).isSome)=true:=by kernel_rfl
theorem abS{W : World}(h : W.ShapedOpen Tryz.prog)(h1 : ∃ v, W.cell? ⟨1, 0, none⟩ = some v /\ (v = .nilIface \/ ∃ te pe, v = .iface te pe))(h2 : ∃ v, W.cell? ⟨2, 0, none⟩ = some v /\ (v = .nilIface \/ ∃ te pe, v = .iface te pe))(aH : Lib.TabIs Tryz.prog W "internal/strconv.uint64pow10" .u64 Lib.pow10Tab) : nk Tryz.prog (qa W) W := λb ab => by
 have iS:b<8:=Nat.lt_of_lt_of_le ab (of_decide_eq_true (by kernel_rfl));refine⟨?_,?_⟩
 ·have V:=List.all_eq_true.1 awq b (List.mem_range.2 iS);obtain⟨⟨zero,t⟩,a_⟩:=Option.isSome_iff_exists.1 V;obtain⟨cs,cz,_⟩:=h.1 b zero t ab a_;exact (Array.getElem?_eq_some_iff.1 cz).1
 ·match b,ab,iS with
  | 0,ab,_=>exact cell_of_shapedOpen_int (t:=3) (zero:=#[.int .i64 0]) h ab (by kernel_rfl) rfl (by kernel_rfl) (by kernel_rfl) Tryz.underlying3
  | 1,_,_=>exact h1
  | 2,_,_=>exact h2
  | 3,_,_=>trivial
  | 4,_,_=>trivial
  | 5,_,_=>
   show ∀ i,W.cell? ⟨5,i,none⟩=if i<20 then some (.int .u64 (10 ^ i)) else none
   unfold Lib.TabIs World.var? at aH;rw[show Tryz.prog.globalNamed "internal/strconv.uint64pow10" = some 5 by kernel_rfl]at aH;change (match W.heap[5]? with | some (.cells cs _ _)=>some cs | _=>none)=_ at aH;intro i;cases ag:W.heap[5]? with
   | none=>rw[ag]at aH;cases aH
   | some o=>
    rw[ag]at aH;cases o with
    | cells cs T ep=>
     simp only[Option.some.injEq]at aH;simp only[World.cell?,ag,aH];simp only[Option.isSome_none,Bool.false_eq_true,if_false,List.getElem?_toArray,List.getElem?_map,Lib.pow10Tab];split
     ·rename_i Ja;rw[List.getElem?_range Ja];simp
     ·rename_i Ja;rw[List.getElem?_eq_none (by simp;omega)];rfl
    | _=>cases aH
  | 6,_,_=>trivial
  | 7,_,_=>trivial
end Go.Fer.nV
