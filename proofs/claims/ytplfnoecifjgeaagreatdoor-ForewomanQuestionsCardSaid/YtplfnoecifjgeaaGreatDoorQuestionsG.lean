/- Part 7 of the proof of Questions: shallow programs of Go functions, and what they compute. No condition. -/
import Derived.Test.YtplfnoecifjgeaaGreatDoorQuestionsF
import Derived.Shelf.SlGeneric
import Derived.Shelf.Spec.SlicesGrow
import Derived.Shelf.Strings.OnBuilder
import Derived.Shelf.LaysM
import Derived.Shelf.Strconv.Itoa3
import Derived.Shelf.LaysC
import Derived.Shelf.Strconv.AtoiAll
import Derived.Shelf.Strings.Split
import Derived.Shelf.Slices.In.SortNone
import Derived.Test.YtplfnoecifjgeaaGreatDoorProg
import Derived.WalkKit
import Derived.WalkSpells
import Derived.Handy
import Derived.Shelf.Sort.AssemblyIn
import Derived.Sort.EveryDepth
import Derived.Handed
import Derived.Shelf.Vars
import Derived.Lib.LaidTab
import Derived.Lib.ItoaNum
noncomputable section
namespace Go.Fer.ax
open A (W)
open H (hV)
set_option linter.unusedVariables false
set_option linter.unusedSimpArgs false
abbrev yr:aO:=⟨.aA sR sR,.bool,λx=>x.1.length<2 ^ 63,λx=>decide (x.1=x.2)⟩
theorem ari (a b:List aQ) (h:a.length=b.length):((List.range a.length).any λi=>decide (a.getD i []≠b.getD i []))=!decide (a=b):=by
 rw [Bool.eq_iff_iff];simp only [List.any_eq_true,List.mem_range,decide_eq_true_eq,Bool.not_eq_true',decide_eq_false_iff_not];constructor
 ·grind
 ·intro ez;refine Classical.byContradiction λfB=>ez (List.ext_getElem h λi G V=>?_);simp_all
theorem arj (x):A.le (Ys x) (yr.sh x):=A.bx λh=>by
 obtain ⟨a,b⟩:=x;change a.length<2 ^ 63 at h;unfold Ys;show _=A.pure (decide (a=b));by_cases ak:a.length=b.length
 ·rw [if_neg (by grind)];rw [A.dK (List.range a.length) (λi (_:Unit)=>(a,b,(i:Int),())) (λi (_:Unit)=>if decide (a.getD i []≠b.getD i [])=true then .done (.done false) else .next ()) (λ_=>.next ()) () ?_ ?_ ?_]
  ·rw [rj,ari a b ak,A.aJ];cases decide (a=b)<;>rfl
  ·rfl
  ·intro i M _;have M:i<a.length:=by grind
   have aa:i<b.length:=by omega
   have hw:=bG (n:=(i:Int)+1) (by omega) (by omega);simp only [List.getElem_range,bZ,cY M,if_true,cJ M,cJ aa,A.bw,ct,hw,Int.toNat_natCast];by_cases hc:decide (a.getD i []≠b.getD i [])=true
   ·rw [if_pos hc,if_pos hc,A.aJ,A.aJ];rfl
   ·rw [if_neg hc,if_neg hc];rfl
  simp
 ·rw [if_pos (show decide (Int.ofNat a.length≠Int.ofNat b.length)=true by grind),show decide (a=b)=false from decide_eq_false λe=>ak (by rw [e])]
theorem Z2 {a b:List aQ} (h:a.length<2 ^ 63):yr.sh (a,b)=A.pure (decide (a=b)):=A.bU h _
abbrev uC:aO:=⟨.aA fS fS,.bool,λx=>x.1=x.2/\x.1.length<2 ^ 63,λ_=>true⟩
theorem ark (x):A.le (Yk x) (uC.sh x):=A.bx λh=>by
 obtain ⟨a,b⟩:=x;obtain ⟨rfl,h⟩:a=b/\a.length<2 ^ 63:=h;unfold Yk;rw [if_neg (by simp)];rw [A.dK a (λi (_:Unit)=>(a,a,(i:Int),())) (λ_ b=>.next b) (λ_=>.next ()) () ?_ ?_ ?_]
 ·rw [er,A.aJ,A.b2]
 ·rfl
 ·intro i M _;have hw:=bG (n:=(i:Int)+1) (by omega) (by omega);simp_all
 simp
theorem Ew {a:z1'} (h:a.length<2 ^ 63):uC.sh (a,a)=A.pure true:=A.bU ⟨rfl,h⟩ _
abbrev Ja:aO:=⟨.aA H.jr H.jr,.bool,λx=>x.1=x.2/\H.iN x.1,λ_=>true⟩
theorem arl (x):A.le (Yj uC.sh x) (Ja.sh x):=A.bx λh=>by
 obtain ⟨a,b⟩:=x;obtain ⟨rfl,G,V,ah,a7⟩:a=b/\H.iN a:=h;unfold Yj;rw [Ew ah];simp only [A.kO,A.aJ];rw [if_neg (by simp)];rw [A.dK a.1 (λi (_:Unit)=>((i:Int),a,a,())) (λ_ b=>.next b) (λ_=>.next (a,a,())) () ?_ ?_ ?_]
 ·rw [er,A.aJ,A.b2];rw [A.dK a.2.1 (λi (_:Unit)=>((i:Int),a,a,())) (λ_ b=>.next b) (λ_=>.next (a,a,())) () ?_ ?_ ?_]
  ·rw [er,A.aJ,A.b2];rw [A.dK a.2.2.2.1 (λi (_:Unit)=>((i:Int),a,a,())) (λ_ b=>.next b) (λ_=>.next ()) () ?_ ?_ ?_]
   ·rw [er,A.aJ,A.b2]
   ·rfl
   ·intro i M _;have hw:=bG (n:=(i:Int)+1) (by omega) (by omega);simp_all
   simp
  ·rfl
  ·intro i M _;have hw:=bG (n:=(i:Int)+1) (by omega) (by omega);simp_all
  simp
 ·rfl
 ·intro i M _;have hw:=bG (n:=(i:Int)+1) (by omega) (by omega);simp_all
 simp
abbrev Jb:aO:=⟨.aA kD kD,.bool,λx=>x.1=x.2/\gM x.1,λ_=>true⟩
theorem arn (x):A.le (Yl uC.sh x) (Jb.sh x):=A.bx λh=>by
 obtain ⟨a,b⟩:=x;obtain ⟨rfl,G,V,ah,a7⟩:a=b/\gM a:=h;unfold Yl;rw [if_neg (by simp)];rw [A.dK a.1 (λi (_:Unit)=>((i:Int),a,a,())) (λ_ b=>.next b) (λ_=>.next (a,a,())) () ?_ ?_ ?_]
 ·rw [er,A.aJ,A.b2];rw [A.dK a.2.2.2 (λi (_:Unit)=>((i:Int),a,a,())) (λ_ b=>.next b) (λ_=>.next (a,a,())) () ?_ ?_ ?_]
  ·rw [er,A.aJ,A.b2];rw [A.dK a.2.1 (λi (_:Unit)=>((i:Int),a,a,())) (λ_ b=>.next b) (λ_=>.next ()) () ?_ ?_ ?_]
   ·rw [er,A.aJ,A.b2]
   ·rfl
   ·intro i M _;have hw:=bG (n:=(i:Int)+1) (by omega) (by omega);obtain ⟨hm,aG⟩:=a7 _ (List.getElem_mem M);simp only [bZ,cY M,if_true,dm M,cJ M,A.bw,ct,hw];rw [if_neg (by simp)];rw [A.dK a.2.1[i] (λj (_:Unit)=>((i:Int),a.2.1[i],a.2.1[i],(j:Int),a,a,())) (λ_ b=>.next b) (λ_=>.next ((i:Int),a,a,())) () ?_ ?_ ?_]
    ·rw [er,A.aJ,A.b2];simp_all
    ·rfl
    ·intro j aH _;have hw:=bG (n:=(j:Int)+1) (by omega) (by omega);have br:uC.sh (a.2.1[i][j].2.1,a.2.1[i][j].2.1)=A.pure true:=Ew (aG _ (List.getElem_mem aH));simp_all
    simp
   simp
  ·rfl
  ·intro i M _;have hw:=bG (n:=(i:Int)+1) (by omega) (by omega);simp_all
  simp
 ·rfl
 ·intro i M _;have hw:=bG (n:=(i:Int)+1) (by omega) (by omega);simp_all
 simp
abbrev Ex:aO:=⟨.aA v_ v_,.bool,λx=>x.1=x.2/\fu x.1.1/\H.iN x.1.2,λ_=>true⟩
theorem aro (x):A.le (Yi Ja.sh Jb.sh uC.sh x) (Ex.sh x):=A.bx λh=>by
 obtain ⟨a,b⟩:=x;obtain ⟨rfl,⟨G,V,ah,a7,bM,dr,fY⟩,hc⟩:a=b/\fu a.1/\H.iN a.2:=h;unfold Yi;rw [show Ja.sh (a.2,a.2)=A.pure true from A.bU ⟨rfl,hc⟩ _,show Jb.sh (a.1.1,a.1.1)=A.pure true from A.bU ⟨rfl,G⟩ _,Ew V];simp only [A.kO,A.aJ];rw [if_neg (by simp)];rw [A.dK a.1.2.2.1 (λi (_:Unit)=>((i:Int),a.1,a.1,())) (λ_ b=>.next b) (λ_=>.next (a.1,a.1,())) () ?_ ?_ ?_]
 ·rw [er,A.aJ,A.b2];rw [A.dK a.1.2.2.2.1 (λi (_:Unit)=>((i:Int),a.1,a.1,())) (λ_ b=>.next b) (λ_=>.next (a.1,a.1,())) () ?_ ?_ ?_]
  ·rw [er,A.aJ,A.b2];rw [A.dK a.1.2.2.2.2.1 (λi (_:Unit)=>((i:Int),a.1,a.1,())) (λ_ b=>.next b) (λ_=>.next ()) () ?_ ?_ ?_]
   ·rw [er,A.aJ,A.b2]
   ·rfl
   ·intro i M _;have hw:=bG (n:=(i:Int)+1) (by omega) (by omega);simp_all
   simp
  ·rfl
  ·intro i M _;have hw:=bG (n:=(i:Int)+1) (by omega) (by omega);have br:uC.sh (a.1.2.2.2.1[i].1,a.1.2.2.2.1[i].1)=A.pure true:=Ew (fY _ (List.getElem_mem M));simp_all
  simp
 ·rfl
 ·intro i M _;have hw:=bG (n:=(i:Int)+1) (by omega) (by omega);have br:uC.sh (a.1.2.2.1[i].2.2.2.2,a.1.2.2.1[i].2.2.2.2)=A.pure true:=Ew (dr _ (List.getElem_mem M));simp_all
 simp
theorem arp {d:bc} (h:dz d):Ex.sh (d,d)=A.pure true:=A.bU ⟨rfl,h.hd,h.iN⟩ _
abbrev Ey:Type:=Int×Int×Int×Int
def P8 (s:aQ) (c:Ey):Ey:=
 if (!(n8 s).2.2)=true then c else if decide ((n8 s).1=[119,105,115,104])=true then (IntKind.wrap .i64 (c.1+1),c.2)
 else if decide ((n8 s).1=[112,105,101,99,101])=true then (c.1,IntKind.wrap .i64 (c.2.1+1),c.2.2.1,IntKind.wrap .i64 (c.2.2.2+IntKind.wrap .i64 (((n8 s).2.1.length:Int) - 4)))
 else if decide ((n8 s).1=[99,111,109,101,115])=true then (c.1,c.2.1,IntKind.wrap .i64 (c.2.2.1+1),c.2.2.2) else c
def Z3 (d:bc):Ey:=((d.1.2.2.2.1.length:Int),(d.1.2.2.1.length:Int),(d.1.2.2.2.2.1.length:Int),d.1.2.2.1.foldl (λn p=>IntKind.wrap .i64 (n+(p.2.2.2.2.length:Int))) 0)
def arq (c:Ey):Bool:=decide (c.1 > 3)||decide (c.2.1 > 4)||decide (c.2.2.1 > 3)||decide (c.2.2.2 > 4)
def uD (d:bc) (l:List aQ):Bool:=
 if (uz d.1||H.lZ d.2||decide ((l.length:Int) > 60))=true then true else if (l.any λs=>decide ((s.length:Int) > 80))=true then true
 else decide (jY d=0)&&arq (l.foldl (λc s=>P8 s c) (Z3 d))
abbrev Jc (x:bc×List aQ):Prop:=fu x.1.1/\H.iN x.1.2/\x.2.length<2 ^ 63
abbrev Jd:aO:=⟨.aA v_ sR,.bool,Jc,λx=>uD x.1 x.2⟩
theorem ars (x):A.le (Yn sX.sh Iy.sh H.vG.sh A9.sh x) (Jd.sh x):=A.bx λh=>by
 obtain ⟨d,l⟩:=x;obtain ⟨G,V,ah⟩:Jc (d,l):=h;have jb:d.1.2.2.1.length<2 ^ 63:=G.2.2.1;change l.length<2 ^ 63 at ah;unfold Yn;show _=A.pure (uD d l);unfold uD;rw [show Iy.sh d.1=A.pure (uz d.1) from A.bU G _,A.aJ,show H.vG.sh d.2=A.pure (H.lZ d.2) from A.bU V _,A.kO,A.aJ];have e:(uz d.1||(if (!uz d.1)=true then H.lZ d.2 else false)||decide (Int.ofNat l.length > 60))=(uz d.1||H.lZ d.2||decide ((l.length:Int) > 60)):=by grind
 rw [e];by_cases aw:(uz d.1||H.lZ d.2||decide ((l.length:Int) > 60))=true
 ·grind
 ·rw [if_neg aw,if_neg aw];rw [A.dK d.1.2.2.1 (λi (n:Int)=>(l,(d.1.2.2.2.1.length:Int),(d.1.2.2.1.length:Int),(d.1.2.2.2.2.1.length:Int),n,(i:Int),d,())) (λp n=>.next (IntKind.wrap .i64 (n+(p.2.2.2.2.length:Int)))) (λn=>.next (l,(d.1.2.2.2.1.length:Int),(d.1.2.2.1.length:Int),(d.1.2.2.2.2.1.length:Int),n,d,())) 0 ?_ ?_ ?_]
  ·rw [er,A.aJ,A.b2];rw [A.dK l (λi (c:Ey)=>(l,c.1,c.2.1,c.2.2.1,c.2.2.2,(i:Int),d,())) (λs c=>if decide ((s.length:Int) > 80)=true then .done (.done true) else .next (P8 s c)) (λc=>.next (c.1,c.2.1,c.2.2.1,c.2.2.2,d,())) (Z3 d) ?_ ?_ ?_]
   ·rw [P3,A.aJ];by_cases ba:(l.any λs=>decide ((s.length:Int) > 80))=true
    ·simp_all
    ·rw [if_neg ba,if_neg ba,A.b2];rw [show sX.sh d=A.pure (jY d) from A.bU ⟨G,V⟩ _,A.aJ];rfl
   ·rfl
   ·intro i M c;have hw:=bG (n:=(i:Int)+1) (by omega) (by omega);simp only [Prod.c8,Prod.fp,Prod.gJ,bZ,cY M,if_true,dm M,cJ M,A.bw,ct];by_cases hc:decide ((l[i].length:Int) > 80)=true
    ·simp_all
    ·rw [if_neg hc,if_neg hc];rw [P6 (by grind),A.aJ];unfold P8;split
     ·simp_all
     ·split
      ·simp_all
      ·split
       ·simp_all
       ·split
        ·rw [A.aJ,A.b2];simp only [hw];rfl
        ·rw [A.aJ,A.b2];simp only [hw];rfl
   simp
  ·rfl
  ·intro i M n;have hw:=bG (n:=(i:Int)+1) (by omega) (by omega);simp_all
  simp
abbrev Ez:aO:=⟨.aA v_ (.aA sR (.int .i64)),.bool,λx=>Jc (x.1,x.2.1),λx=>!uD x.1 x.2.1&&decide (jY x.1=0)&&decide ((x.2.1.length:Int)<=x.2.2)⟩
theorem art (x):A.le (Ym Jd.sh sX.sh x) (Ez.sh x):=A.bx λh=>by
 obtain ⟨d,l,n⟩:=x;obtain ⟨G,V,ah⟩:Jc (d,l):=h;unfold Ym;rw [show Jd.sh (d,l)=A.pure (uD d l) from A.bU ⟨G,V,ah⟩ _,A.aJ,show sX.sh d=A.pure (jY d) from A.bU ⟨G,V⟩ _,A.kO,A.aJ];grind
theorem aru {d:bc} {l:List aQ} {n:Int} (G:fu d.1) (V:H.iN d.2) (h:(!uD d l&&decide (jY d=0)&&decide ((l.length:Int)<=n))=true):dz d/\(l.length:Int)<=n/\∀ s∈l,s.length<=80:=by
 simp only [Bool.and_eq_true,Bool.not_eq_true',decide_eq_true_eq] at h;obtain ⟨⟨aw,he⟩,aD⟩:=h;unfold uD at aw;split at aw
 ·grind
 ·rename_i ba;split at aw
  ·grind
  ·rename_i aa;simp only [Bool.or_eq_true,not_or,Bool.not_eq_true] at ba;refine ⟨ZU G (H.amx ba.1.2) he,aD,λs aG=>?_⟩;grind
theorem arv:fu oW.1/\H.iN oW.2:=⟨apM,by decide,by decide,by decide,by decide⟩
theorem arw:H.gL oW.2:=⟨⟨by decide,by decide,by decide,by decide⟩,λ_=>by decide +kernel⟩
abbrev EA:aO:=⟨.cQ,.bool,λ_=>True,λ_=>true⟩
theorem arx:wa oW pk=(I4,(gm (hp oW) pk).2,0):=by
 unfold wa;rw [if_neg (by rw [aq3];decide),if_neg (by decide),P2.1]
theorem ary (x):A.le (Yr uB.sh yr.sh I3.sh x) (EA.sh x):=A.bx λ_=>by
 unfold Yr;rw [show I3.sh ()=A.pure oW from rfl,A.aJ];show A.bind (uB.sh (oW,pk)) _=A.pure true;rw [show uB.sh (oW,pk)=A.pure (wa oW pk) from A.bU ⟨arv.1,arw,by decide,by decide⟩ _,A.aJ,arx];show A.bind (cg (decide ((0:Int)=0)) (yr.sh (I4,I4)) false) _=_;rw [Z2 (by decide),A.kO,A.aJ];simp only [bZ,P2.2.1,P2.2.2];simp
theorem arz:EA.sh ()=A.pure true:=rfl
end Go.Fer.ax
namespace Go.Fer.ax
open A (W)
open H (hV)
set_option linter.unusedVariables false
set_option linter.unusedSimpArgs false
theorem Z4 {d:bc} (ay:dz d) {l:List aQ} (axz:l.length<=40) (ak:∀ s∈l,s.length<=10000):uB.sh (d,l)=A.pure ((gm (hp d) l).1,(gm (hp d) l).2,0):=by
 have e:uB.sh (d,l)=A.pure (wa d l):=A.bU ⟨ay.hd,ay.gL,by show l.length<2 ^ 63;omega,ak⟩ _;rw [e];unfold wa;rw [if_neg (by rw [ay.aqc];decide),if_neg (by omega)]
theorem GA {d:bc} {l:List aQ} {n:Int} (G:fu d.1) (V:H.iN d.2) (ah:l.length<2 ^ 63):Ez.sh (d,l,n)=A.pure (!uD d l&&decide (jY d=0)&&decide ((l.length:Int)<=n)):=A.bU ⟨G,V,ah⟩ _
theorem arA {E:bc} (l:List aQ):(l.zip (gm E l).1).length=l.length:=by rw [List.length_zip,PS,Nat.min_self]
theorem P9:∀ (l:List aQ) (E:bc) (r q:List aQ),(l.zip (gm E l).1).foldl (λ(p:List aQ×List aQ) (x:aQ×aQ)=>if (!pO x.1)=true then (p.1++[x.1],p.2++[x.2]) else p) (r,q)=(r++l.filter λs=>!pO s,q++(gm E (l.filter λs=>!pO s)).1)
 | [],E,r,q=>by simp [gm]
 | s::l,E,r,q=>by
  simp only [gm,List.zip_cons_cons,List.foldl_cons];cases h:pO s with
  | true=>
   rw [if_neg (by simp),P9 l,List.filter_cons_of_neg (by simp [h]),Z1 h]
  | false=>
   rw [if_pos (by simp),P9 l,List.filter_cons_of_pos (by simp [h])];simp [gm]
theorem P_:∀ (l:List aQ) (E:bc),(gm E (l.filter λs=>!pO s)).2=(gm E l).2
 | [],E=>rfl
 | s::l,E=>by
  cases h:pO s with
  | true=>
   rw [List.filter_cons_of_neg (by simp [h]),P_ l];simp only [gm];rw [Z1 h]
  | false=>
   rw [List.filter_cons_of_pos (by simp [h])];simp only [gm];exact P_ l _
theorem abU (x:bc×List aQ) (G:fu x.1.1) (V:H.iN x.1.2) (ah:x.2.length<2 ^ 63):OM uB.sh Ex.sh Ez.sh EA.sh yr.sh Ev.sh x=A.pure true:=by
 obtain ⟨d,l⟩:=x;unfold OM;rw [GA G V ah,A.aJ,arz];by_cases U:(!uD d l&&decide (jY d=0)&&decide ((l.length:Int)<=40))=true
 ·rw [U,if_neg (by simp)];obtain ⟨ay,aD,arB⟩:=aru G V U;have aD:l.length<=40:=by omega
  have ks:=ZR ay;have ak:∀ s∈l,s.length<=10000:=λs aG=>by have:=arB s aG;omega
  rw [Z4 ay aD ak,A.aJ];have ba:=PS (hp d) l;have bl:=arA (E:=hp d) l;rw [if_neg (by simp [ba])];rw [A.gA (l.zip (gm (hp d) l).1) (λi (p:List aQ×List aQ)=>(l,(gm (hp d) l).1,(i:Int),d,(gm (hp d) l).2,p.1,p.2,())) (λx p=>.next (if (!pO x.1)=true then (p.1++[x.1],p.2++[x.2]) else p)) (λp=>.next (d,(gm (hp d) l).2,p.1,p.2,())) (λi p=>p.1.length<=i/\p.2.length<=i) ([],[]) ?_ ⟨Nat.le_refl _,Nat.le_refl _⟩ ?_ ?_]
  ·rw [er,P9,A.aJ,A.b2];simp only [List.nil_append];rw [Z4 ay (Nat.le_trans (List.length_filter_le ..) aD) λs aG=>ak s (List.mem_filter.1 aG).1,A.aJ];rw [Z2 (by rw [PS];have:=List.length_filter_le (λs=>!pO s) l;omega),P_,arp (aqZ ks ak)];simp [A.kO]
  ·rfl
  ·rintro i M ⟨r,q⟩ ⟨aU,aX⟩;have u6:i<l.length:=by omega
   have dt:i<(gm (hp d) l).1.length:=by omega
   have hw:=bG (n:=(i:Int)+1) (by omega) (by omega);change r.length<=i at aU;change q.length<=i at aX;have aF:(l.zip (gm (hp d) l).1)[i].1=l[i]:=by simp
   have bB:(l.zip (gm (hp d) l).1)[i].2=(gm (hp d) l).1[i]:=by simp
   refine ⟨?_,λbf dh=>?_⟩
   ·simp only [bZ,cY u6,if_true,dm u6,dm dt,cJ u6,cJ dt,A.bw,ct,aF,bB];rw [arf (ak _ (List.getElem_mem u6)),A.aJ];by_cases hc:(!pO l[i])=true
    ·rw [if_pos hc,if_pos hc,A.bH (hV (by simp only [jn];omega)),A.bH (hV (by simp only [jn];omega)),A.aJ,A.b2,hw];rfl
    ·rw [if_neg hc,if_neg hc,A.aJ,A.b2,hw];rfl
   ·simp only [W.next.injEq] at dh;subst dh;split
    ·exact ⟨by simpa using aU,by simpa using aX⟩
    ·exact ⟨Nat.le_succ_of_le aU,Nat.le_succ_of_le aX⟩
  ·rintro ⟨r,q⟩ ⟨aU,aX⟩;simp [bl]
 ·rw [if_pos (by rw [Bool.not_eq_true] at U;rw [U];rfl),A.aJ]
end Go.Fer.ax
namespace Go.Proofs
open Go.Shelf
theorem cD {P:Program} {k:Nat} {f g:Func} (h:P.funcs[k]?=some f) (e:f=g:=by kernel_rfl):P.funcs[k]?=some g:=h.trans (congrArg some e)
open Tryz
def Tryz.Z5:Go.Shelf.Ren:=⟨fun | 156=>258 | 165=>318 | 166=>319 | 169=>320 | 240=>358 | 241=>359 | 276=>386 | 277=>387 | n=>n,fun | 31=>48 | 9=>9 | 3=>3 | 4=>4 | 0=>0 | 20=>20 | 72=>345 | 76=>267 | 70=>343 | 37=>171 | 75=>266 | 127=>380 | 164=>405 | 5=>5 | 80=>347 | n=>n,fun | n=>n⟩
theorem Tryz.Z6 : Go.Proofs.Lays.n156 Tryz.prog Tryz.Z5 := {
  mixed:=by kernel_rfl
  f156:=cD func258
  f165:=cD func318
  f166:=cD func319
  f169:=cD func320
  f240:=cD func358
  f241:=cD func359
  f276:=cD func386
  f277:=cD func387
  t0:=underlying0
  a0:=isAgg0
  z0:=sizeOf0
  v0:=zeroValue0
  t3:=underlying3
  a3:=isAgg3
  z3:=sizeOf3
  v3:=zeroValue3
  t4:=underlying4
  a4:=isAgg4
  z4:=sizeOf4
  v4:=zeroValue4
  t9:=underlying9
  a9:=isAgg9
  z9:=sizeOf9
  v9:=zeroValue9
  t20:=underlying20
  a20:=isAgg20
  z20:=sizeOf20
  v20:=zeroValue20
  t31:=underlying48
  a31:=isAgg48
  z31:=sizeOf48
  v31:=zeroValue48
  t37:=underlying171
  a37:=isAgg171
  z37:=sizeOf171
  v37:=zeroValue171
  t70:=underlying343
  a70:=isAgg343
  z70:=sizeOf343
  v70:=zeroValue343
  t72:=underlying345
  a72:=isAgg345
  z72:=sizeOf345
  v72:=zeroValue345
  t75:=underlying266
  a75:=isAgg266
  z75:=sizeOf266
  v75:=zeroValue266
  t76:=underlying267
  a76:=isAgg267
  z76:=sizeOf267
  v76:=zeroValue267
  t127:=underlying380
  a127:=isAgg380
  z127:=sizeOf380
  v127:=zeroValue380
  t164:=underlying405
  a164:=isAgg405
  z164:=sizeOf405
  v164:=zeroValue405 }
theorem Tryz.Z7 : Builder.Extra Tryz.prog Tryz.Z5 := {
  sizeBuilder:=by kernel_rfl
  liesBuilder:=by kernel_rfl
  t5:=underlying5
  a5:=isAgg5
  z5:=sizeOf5
  v5:=zeroValue5
  infoByte:=by kernel_rfl
  cellsByte:=by kernel_rfl
  sizeByte:=by kernel_rfl
  neB5:=by decide }
def Tryz.arC:Go.Shelf.Ren:=⟨fun | 171=>204 | 243=>264 | 246=>330 | 283=>368 | 284=>369 | 285=>370 | 286=>371 | 129=>291 | 317=>392 | 318=>393 | 319=>394 | 320=>395 | 337=>399 | 338=>400 | n=>n,fun | 3=>3 | 9=>9 | 2=>2 | 4=>4 | 171=>386 | 0=>0 | 53=>285 | 37=>171 | 5=>5 | 173=>388 | 212=>418 | 51=>282 | 20=>20 | 213=>419 | 46=>228 | 232=>423 | 233=>424 | n=>n,fun | 17=>5 | 18=>6 | 19=>7 | n=>n⟩
theorem Tryz.Z8 : Go.Proofs.LaysM.n171 Tryz.prog Tryz.arC := {
  mixed:=by kernel_rfl
  f129:=cD func291
  f171:=cD func204
  f243:=cD func264
  f246:=cD func330
  f283:=cD func368
  f284:=cD func369
  f285:=cD func370
  f286:=cD func371
  f317:=cD func392
  f318:=cD func393
  f319:=cD func394
  f320:=cD func395
  f337:=cD func399
  f338:=cD func400
  t0:=underlying0
  a0:=isAgg0
  z0:=sizeOf0
  v0:=zeroValue0
  t2:=underlying2
  a2:=isAgg2
  z2:=sizeOf2
  v2:=zeroValue2
  t3:=underlying3
  a3:=isAgg3
  z3:=sizeOf3
  v3:=zeroValue3
  t4:=underlying4
  a4:=isAgg4
  z4:=sizeOf4
  v4:=zeroValue4
  t5:=underlying5
  a5:=isAgg5
  z5:=sizeOf5
  v5:=zeroValue5
  t9:=underlying9
  a9:=isAgg9
  z9:=sizeOf9
  v9:=zeroValue9
  t20:=underlying20
  a20:=isAgg20
  z20:=sizeOf20
  v20:=zeroValue20
  t37:=underlying171
  a37:=isAgg171
  z37:=sizeOf171
  v37:=zeroValue171
  t46:=underlying228
  a46:=isAgg228
  z46:=sizeOf228
  v46:=zeroValue228
  t51:=underlying282
  a51:=isAgg282
  z51:=sizeOf282
  v51:=zeroValue282
  t53:=underlying285
  a53:=isAgg285
  z53:=sizeOf285
  v53:=zeroValue285
  t171:=underlying386
  a171:=isAgg386
  z171:=sizeOf386
  v171:=zeroValue386
  t173:=underlying388
  a173:=isAgg388
  z173:=sizeOf388
  v173:=zeroValue388
  t212:=underlying418
  a212:=isAgg418
  z212:=sizeOf418
  v212:=zeroValue418
  t213:=underlying419
  a213:=isAgg419
  z213:=sizeOf419
  t232:=underlying423
  a232:=isAgg423
  z232:=sizeOf423
  v232:=zeroValue423
  t233:=underlying424
  a233:=isAgg424
  z233:=sizeOf424
  v233:=zeroValue424
  g17:=by kernel_rfl
  g18:=by kernel_rfl
  g19:=by kernel_rfl
  i0:=by kernel_rfl
  i2:=by kernel_rfl
  i3:=by kernel_rfl
  i4:=by kernel_rfl
  i5:=by kernel_rfl
  i9:=by kernel_rfl
  i20:=by kernel_rfl
  i37:=by kernel_rfl
  i46:=by kernel_rfl
  i51:=by kernel_rfl
  i53:=by kernel_rfl
  i171:=by kernel_rfl
  i173:=by kernel_rfl
  i212:=by kernel_rfl
  i232:=by kernel_rfl
  i233:=by kernel_rfl
  m17:=by kernel_rfl
  m18:=by kernel_rfl
  m19:=by kernel_rfl }
def Tryz.arD:Go.Shelf.Ren:=⟨fun | 172=>203 | 244=>262 | 245=>263 | 247=>325 | 279=>326 | 280=>327 | 281=>328 | 282=>329 | 287=>365 | 316=>366 | 171=>204 | 205=>367 | 321=>390 | 322=>391 | 243=>264 | 246=>330 | 283=>368 | 284=>369 | 285=>370 | 286=>371 | 129=>291 | 317=>392 | 318=>393 | 319=>394 | 320=>395 | 337=>399 | 338=>400 | n=>n,fun | 9=>9 | 3=>3 | 75=>266 | 76=>267 | 4=>4 | 5=>5 | 167=>351 | 37=>171 | 0=>0 | 85=>352 | 2=>2 | 168=>354 | 53=>285 | 175=>381 | 46=>228 | 210=>384 | 127=>380 | 145=>416 | 143=>414 | 21=>21 | 171=>386 | 173=>388 | 212=>418 | 51=>282 | 20=>20 | 213=>419 | 232=>423 | 233=>424 | 80=>347 | n=>n,fun | 15=>1 | 16=>2 | 17=>5 | 18=>6 | 19=>7 | n=>n⟩
theorem Tryz.P' : Go.Proofs.LaysC.n172 Tryz.prog Tryz.arD := {
  mixed:=by kernel_rfl
  f129:=cD func291
  f171:=cD func204
  f172:=cD func203
  f205:=cD func367
  f243:=cD func264
  f244:=cD func262
  f245:=cD func263
  f246:=cD func330
  f247:=cD func325
  f279:=cD func326
  f280:=cD func327
  f281:=cD func328
  f282:=cD func329
  f283:=cD func368
  f284:=cD func369
  f285:=cD func370
  f286:=cD func371
  f287:=cD func365
  f316:=cD func366
  f317:=cD func392
  f318:=cD func393
  f319:=cD func394
  f320:=cD func395
  f321:=cD func390
  f322:=cD func391
  f337:=cD func399
  f338:=cD func400
  t0:=underlying0
  a0:=isAgg0
  z0:=sizeOf0
  v0:=zeroValue0
  t2:=underlying2
  a2:=isAgg2
  z2:=sizeOf2
  v2:=zeroValue2
  t3:=underlying3
  a3:=isAgg3
  z3:=sizeOf3
  v3:=zeroValue3
  t4:=underlying4
  a4:=isAgg4
  z4:=sizeOf4
  v4:=zeroValue4
  t5:=underlying5
  a5:=isAgg5
  z5:=sizeOf5
  v5:=zeroValue5
  t9:=underlying9
  a9:=isAgg9
  z9:=sizeOf9
  v9:=zeroValue9
  t20:=underlying20
  a20:=isAgg20
  z20:=sizeOf20
  v20:=zeroValue20
  t21:=underlying21
  a21:=isAgg21
  z21:=sizeOf21
  v21:=zeroValue21
  t37:=underlying171
  a37:=isAgg171
  z37:=sizeOf171
  v37:=zeroValue171
  t46:=underlying228
  a46:=isAgg228
  z46:=sizeOf228
  v46:=zeroValue228
  t51:=underlying282
  a51:=isAgg282
  z51:=sizeOf282
  v51:=zeroValue282
  t53:=underlying285
  a53:=isAgg285
  z53:=sizeOf285
  v53:=zeroValue285
  t75:=underlying266
  a75:=isAgg266
  z75:=sizeOf266
  v75:=zeroValue266
  t76:=underlying267
  a76:=isAgg267
  z76:=sizeOf267
  v76:=zeroValue267
  t85:=underlying352
  a85:=isAgg352
  z85:=sizeOf352
  v85:=zeroValue352
  t127:=underlying380
  a127:=isAgg380
  z127:=sizeOf380
  v127:=zeroValue380
  t143:=underlying414
  a143:=isAgg414
  z143:=sizeOf414
  v143:=zeroValue414
  t145:=underlying416
  a145:=isAgg416
  z145:=sizeOf416
  v145:=zeroValue416
  t167:=underlying351
  a167:=isAgg351
  z167:=sizeOf351
  v167:=zeroValue351
  t168:=underlying354
  a168:=isAgg354
  z168:=sizeOf354
  v168:=zeroValue354
  t171:=underlying386
  a171:=isAgg386
  z171:=sizeOf386
  v171:=zeroValue386
  t173:=underlying388
  a173:=isAgg388
  z173:=sizeOf388
  v173:=zeroValue388
  t175:=underlying381
  a175:=isAgg381
  z175:=sizeOf381
  v175:=zeroValue381
  t210:=underlying384
  a210:=isAgg384
  z210:=sizeOf384
  v210:=zeroValue384
  t212:=underlying418
  a212:=isAgg418
  z212:=sizeOf418
  v212:=zeroValue418
  t213:=underlying419
  a213:=isAgg419
  z213:=sizeOf419
  t232:=underlying423
  a232:=isAgg423
  z232:=sizeOf423
  v232:=zeroValue423
  t233:=underlying424
  a233:=isAgg424
  z233:=sizeOf424
  v233:=zeroValue424
  g15:=by kernel_rfl
  g16:=by kernel_rfl
  g17:=by kernel_rfl
  g18:=by kernel_rfl
  g19:=by kernel_rfl
  t80:=underlying347
  a80:=isAgg347
  z80:=sizeOf347
  v80:=zeroValue347
  i0:=by kernel_rfl
  i2:=by kernel_rfl
  i3:=by kernel_rfl
  i4:=by kernel_rfl
  i5:=by kernel_rfl
  i9:=by kernel_rfl
  i20:=by kernel_rfl
  i21:=by kernel_rfl
  i37:=by kernel_rfl
  i46:=by kernel_rfl
  i51:=by kernel_rfl
  i53:=by kernel_rfl
  i75:=by kernel_rfl
  i76:=by kernel_rfl
  i80:=by kernel_rfl
  i85:=by kernel_rfl
  i127:=by kernel_rfl
  i143:=by kernel_rfl
  i145:=by kernel_rfl
  i167:=by kernel_rfl
  i168:=by kernel_rfl
  i171:=by kernel_rfl
  i173:=by kernel_rfl
  i175:=by kernel_rfl
  i210:=by kernel_rfl
  i212:=by kernel_rfl
  i232:=by kernel_rfl
  i233:=by kernel_rfl
  m15:=by kernel_rfl
  m16:=by kernel_rfl
  m17:=by kernel_rfl
  m18:=by kernel_rfl
  m19:=by kernel_rfl
  c0:=by kernel_rfl
  c2:=by kernel_rfl
  c3:=by kernel_rfl
  c4:=by kernel_rfl
  c5:=by kernel_rfl
  c9:=by kernel_rfl
  c20:=by kernel_rfl
  c21:=by kernel_rfl
  c37:=by kernel_rfl
  c46:=by kernel_rfl
  c51:=by kernel_rfl
  c53:=by kernel_rfl
  c75:=by kernel_rfl
  c76:=by kernel_rfl
  c80:=by kernel_rfl
  c85:=by kernel_rfl
  c127:=by kernel_rfl
  c143:=by kernel_rfl
  c145:=by kernel_rfl
  c167:=by kernel_rfl
  c168:=by kernel_rfl
  c171:=by kernel_rfl
  c173:=by kernel_rfl
  c175:=by kernel_rfl
  c210:=by kernel_rfl
  c212:=by kernel_rfl
  c213:=by kernel_rfl
  c232:=by kernel_rfl
  c233:=by kernel_rfl }
open Go.RowKit in
theorem Tryz.strconv_Atoi_ok (s:ByteArray) (y3:s.size<=9223372036854775806) (v:Int) (h:Lib.atoiAll s.data.toList=.ok v) (w:World) :
  Calls Tryz.prog 203 #[.string s] w λe w'=>e=.returned (.tuple #[.int .i64 v,.nilIface])/\(w'=w\/∃ t,w'=Lib.bytesWorld w 5 t):=Any.strconv_Atoi_ok Tryz.P' s y3 v h w
open Go.RowKit in
theorem Tryz.strconv_Atoi_syntax (s:ByteArray) (rV:s.size<=281474976710656) (h:Lib.atoiAll s.data.toList=Lib.atoiAll []) (ia:Value) (w:World) (af:w.cell? ⟨1,0,none⟩=some ia) (pD:ia=.nilIface\/∃ ly l4,ia=.iface ly l4) :
  Calls Tryz.prog 203 #[.string s] w λe w'=>∃ N,e=.returned (.tuple #[.int .i64 (0),.iface 354 (.pointer (some ⟨N,0,none⟩))])/\w.heap.size<=N/\w'.heap[N]?=some (.cells #[.string ⟨#[65,116,111,105]⟩,.string s,ia] 384 (0,0))/\Below w.heap.size w w':=Any.strconv_Atoi_syntax Tryz.P' s rV h ia w af pD
open Go.RowKit in
theorem Tryz.strconv_Atoi_range (s:ByteArray) (rV:s.size<=281474976710656) (h:Lib.atoiAll s.data.toList=.range) (ia:Value) (w:World) (af:w.cell? ⟨2,0,none⟩=some ia) (pD:ia=.nilIface\/∃ ly l4,ia=.iface ly l4) :
  Calls Tryz.prog 203 #[.string s] w λe w'=>∃ N,e=.returned (.tuple #[.int .i64 (Lib.atoiSat s.data.toList),.iface 354 (.pointer (some ⟨N,0,none⟩))])/\w.heap.size<=N/\w'.heap[N]?=some (.cells #[.string ⟨#[65,116,111,105]⟩,.string s,ia] 384 (0,0))/\Below w.heap.size w w':=Any.strconv_Atoi_range Tryz.P' s rV h ia w af pD
def Tryz.arE:Go.Shelf.Ren:=⟨fun | 146=>139 | 221=>202 | 268=>259 | 138=>260 | 143=>261 | 195=>321 | 197=>322 | 218=>323 | 219=>324 | 260=>360 | 217=>361 | 225=>362 | 224=>363 | 267=>364 | 266=>388 | 314=>389 | n=>n,fun | 9=>9 | 31=>48 | 3=>3 | 4=>4 | 0=>0 | 105=>348 | 21=>21 | 5=>5 | 46=>228 | 119=>408 | 139=>411 | 138=>410 | 146=>283 | 51=>282 | n=>n,fun | 1=>0 | 3=>3 | 4=>4 | n=>n⟩
theorem Tryz.arF : Go.Proofs.Lays.n146 Tryz.prog Tryz.arE := {
  mixed:=by kernel_rfl
  f138:=cD func260
  f143:=cD func261
  f146:=cD func139
  f195:=cD func321
  f197:=cD func322
  f217:=cD func361
  f218:=cD func323
  f219:=cD func324
  f221:=cD func202
  f224:=cD func363
  f225:=cD func362
  f260:=cD func360
  f266:=cD func388
  f267:=cD func364
  f268:=cD func259
  f314:=cD func389
  t0:=underlying0
  a0:=isAgg0
  z0:=sizeOf0
  v0:=zeroValue0
  t3:=underlying3
  a3:=isAgg3
  z3:=sizeOf3
  v3:=zeroValue3
  t4:=underlying4
  a4:=isAgg4
  z4:=sizeOf4
  v4:=zeroValue4
  t5:=underlying5
  a5:=isAgg5
  z5:=sizeOf5
  v5:=zeroValue5
  t9:=underlying9
  a9:=isAgg9
  z9:=sizeOf9
  v9:=zeroValue9
  t21:=underlying21
  a21:=isAgg21
  z21:=sizeOf21
  v21:=zeroValue21
  t31:=underlying48
  a31:=isAgg48
  z31:=sizeOf48
  v31:=zeroValue48
  t46:=underlying228
  a46:=isAgg228
  z46:=sizeOf228
  v46:=zeroValue228
  t51:=underlying282
  a51:=isAgg282
  z51:=sizeOf282
  v51:=zeroValue282
  t105:=underlying348
  a105:=isAgg348
  z105:=sizeOf348
  v105:=zeroValue348
  t119:=underlying408
  a119:=isAgg408
  z119:=sizeOf408
  t138:=underlying410
  a138:=isAgg410
  z138:=sizeOf410
  v138:=zeroValue410
  t139:=underlying411
  a139:=isAgg411
  z139:=sizeOf411
  v139:=zeroValue411
  t146:=underlying283
  a146:=isAgg283
  z146:=sizeOf283
  v146:=zeroValue283
  g1:=by kernel_rfl
  g3:=by kernel_rfl
  g4:=by kernel_rfl }
def Tryz.arG:Go.Shelf.Ren:=⟨fun | 189=>161 | 125=>215 | 257=>214 | 128=>290 | 129=>291 | 294=>281 | 295=>282 | 296=>283 | 297=>284 | 298=>285 | 299=>286 | 216=>287 | 300=>288 | 301=>289 | 328=>340 | 329=>341 | 330=>342 | 331=>343 | 332=>344 | 215=>339 | 343=>383 | n=>n,fun | 28=>27 | 3=>3 | 46=>228 | 0=>0 | 51=>282 | 53=>285 | 4=>4 | 183=>314 | 182=>313 | 131=>193 | 5=>5 | 9=>9 | 218=>359 | 222=>363 | 228=>398 | 229=>331 | n=>n,fun | n=>n⟩
theorem Tryz.Z9 : Go.Proofs.Lays.n189 Tryz.prog Tryz.arG := {
  mixed:=by kernel_rfl
  f125:=cD func215
  f128:=cD func290
  f129:=cD func291
  f189:=cD func161
  f215:=cD func339
  f216:=cD func287
  f257:=cD func214
  f294:=cD func281
  f295:=cD func282
  f296:=cD func283
  f297:=cD func284
  f298:=cD func285
  f299:=cD func286
  f300:=cD func288
  f301:=cD func289
  f328:=cD func340
  f329:=cD func341
  f330:=cD func342
  f331:=cD func343
  f332:=cD func344
  f343:=cD func383
  t0:=underlying0
  a0:=isAgg0
  z0:=sizeOf0
  v0:=zeroValue0
  t3:=underlying3
  a3:=isAgg3
  z3:=sizeOf3
  v3:=zeroValue3
  t4:=underlying4
  a4:=isAgg4
  z4:=sizeOf4
  v4:=zeroValue4
  t5:=underlying5
  a5:=isAgg5
  z5:=sizeOf5
  v5:=zeroValue5
  t9:=underlying9
  a9:=isAgg9
  z9:=sizeOf9
  v9:=zeroValue9
  t28:=underlying27
  a28:=isAgg27
  z28:=sizeOf27
  v28:=zeroValue27
  t46:=underlying228
  a46:=isAgg228
  z46:=sizeOf228
  v46:=zeroValue228
  t51:=underlying282
  a51:=isAgg282
  z51:=sizeOf282
  v51:=zeroValue282
  t53:=underlying285
  a53:=isAgg285
  z53:=sizeOf285
  v53:=zeroValue285
  t131:=underlying193
  a131:=isAgg193
  z131:=sizeOf193
  v131:=zeroValue193
  t182:=underlying313
  a182:=isAgg313
  z182:=sizeOf313
  v182:=zeroValue313
  t183:=underlying314
  a183:=isAgg314
  z183:=sizeOf314
  v183:=zeroValue314
  t218:=underlying359
  a218:=isAgg359
  z218:=sizeOf359
  v218:=zeroValue359
  t222:=underlying363
  a222:=isAgg363
  z222:=sizeOf363
  v222:=zeroValue363
  t228:=underlying398
  a228:=isAgg398
  z228:=sizeOf398
  v228:=zeroValue398
  t229:=underlying331
  a229:=isAgg331
  z229:=sizeOf331
  v229:=zeroValue331 }
def Tryz.arH:Go.Shelf.Ren:=⟨fun | 4=>257 | n=>n,fun | 22=>27 | 25=>3 | 3=>3 | 4=>4 | 9=>9 | 20=>20 | 0=>0 | n=>n,fun | n=>n⟩
theorem Tryz.Z_ : Go.Proofs.Lays8.n4 Tryz.prog Tryz.arH := {
  mixed:=by kernel_rfl
  f4:=⟨Tryz.f257.name,by decide,cD func257⟩
  t0:=underlying0
  a0:=isAgg0
  z0:=sizeOf0
  v0:=zeroValue0
  t3:=underlying3
  a3:=isAgg3
  z3:=sizeOf3
  v3:=zeroValue3
  t4:=underlying4
  a4:=isAgg4
  z4:=sizeOf4
  v4:=zeroValue4
  t9:=underlying9
  a9:=isAgg9
  z9:=sizeOf9
  v9:=zeroValue9
  t20:=underlying20
  a20:=isAgg20
  z20:=sizeOf20
  v20:=zeroValue20
  t22:=underlying27
  a22:=isAgg27
  z22:=sizeOf27
  v22:=zeroValue27 }
def Tryz.arI:Go.Shelf.Ren:=⟨fun | 4=>256 | n=>n,fun | 22=>34 | 25=>125 | 3=>3 | 4=>4 | 9=>9 | 20=>20 | 0=>0 | n=>n,fun | n=>n⟩
theorem Tryz.Z' : Go.Proofs.Lays8.n4 Tryz.prog Tryz.arI := {
  mixed:=by kernel_rfl
  f4:=⟨Tryz.f256.name,by decide,cD func256⟩
  t0:=underlying0
  a0:=isAgg0
  z0:=sizeOf0
  v0:=zeroValue0
  t3:=underlying3
  a3:=isAgg3
  z3:=sizeOf3
  v3:=zeroValue3
  t4:=underlying4
  a4:=isAgg4
  z4:=sizeOf4
  v4:=zeroValue4
  t9:=underlying9
  a9:=isAgg9
  z9:=sizeOf9
  v9:=zeroValue9
  t20:=underlying20
  a20:=isAgg20
  z20:=sizeOf20
  v20:=zeroValue20
  t22:=underlying34
  a22:=isAgg34
  z22:=sizeOf34
  v22:=zeroValue34 }
end Go.Proofs
namespace Go.Fer.ax
theorem aaa:∀ s:aQ,(Go.Lib.index s [32]=-1/\cT s=[s])\/∃ t r,s=t++32::r/\Go.Lib.index s [32]=(t.length:Int)/\cT s=t::cT r
 | []=>.inl ⟨rfl,rfl⟩
 | b::l=>by
  unfold Go.Lib.index;by_cases aa:b=32
  ·subst aa;exact .inr ⟨[],l,rfl,by rfl,by rfl⟩
  ·have ar:List.isPrefixOf [32] (b::l)=false:=by
    grind
   rw [ar];have aG:=uA l;rcases aaa l with ⟨G,V⟩ | ⟨t,r,G,V,ah⟩
   ·rw [G];refine .inl ⟨rfl,?_⟩;unfold cT;grind
   ·rw [V];refine .inr ⟨b::t,r,by grind,?_,?_⟩
    ·rfl
    ·conv=>lhs;unfold cT
     grind
theorem arJ:∀ (n:Nat) (s:aQ),s.length<=n->Go.Lib.splitK [32] 0 (Go.Lib.count s [32]) s=cT s:=by
 intro n;induction n with
 | zero=>
  intro s h;have:s=[]:=List.eq_nil_of_length_eq_zero (by omega);subst this;rfl
 | succ n aM=>
  intro s h;rcases aaa s with ⟨G,V⟩ | ⟨t,r,G,V,ah⟩
  ·rw [Go.Lib.count_miss G,V];rfl
  ·rw [Go.Lib.count_hit (by simp) V,ah,Nat.add_comm,Go.Lib.splitK,V];have:((t.length:Int) == -1)=false:=by rfl
   rw [this];have e:((t.length:Int)).toNat=t.length:=rfl;have W7:s.drop (t.length+1)=r:=by simp_all
   grind
end Go.Fer.ax
namespace Go.Fer.n_
open Go Go.Proofs Go.RowKit
set_option linter.unusedVariables false
set_option linter.unusedSimpArgs false
section
variable {P:Program} {F:Nat->Prop} {w:World}
theorem Qa (x:List UInt8):(ByteArray.mk x.toArray).data.toList=x:=by simp
theorem Je (x:List UInt8):(ByteArray.mk x.toArray).size=x.length:=by rfl
theorem Qb {args:List Value} {x:List UInt8} (h:fl P .str F w args x):args=[.string ⟨x.toArray⟩]/\x.length<2 ^ 63:=by
 obtain ⟨v,rfl,af⟩:=(rI rfl).1 h;obtain ⟨rfl,ak⟩:=l5.1 af;grind
theorem arK {args:List Value} {x y:List UInt8} (h:fl P (.aA .str .str) F w args (x,y)):args=[.string ⟨x.toArray⟩,.string ⟨y.toArray⟩]/\x.length<2 ^ 63/\y.length<2 ^ 63:=by
 obtain ⟨v,us,rfl,af,hu⟩:=EP h;obtain ⟨rfl,ak⟩:=l5.1 af;obtain ⟨rfl,gh⟩:=Qb hu;grind
theorem arL (w:World) (k:Nat) (os:Array Obj):Below w.heap.size w (Go.Sort.grow (w.drewN k) os):=by
 refine ⟨rfl,rfl,rfl,?_,λj aH=>?_⟩
 ·simp
 ·show (w.heap++os)[j]?=_;grind
theorem Jf (h:nA Tryz.prog F w) {b:Nat} (aa:b<6):F b/\QQ b λi=>w.cell? ⟨b,i,none⟩:=h b (Nat.lt_of_lt_of_le aa (of_decide_eq_true (by rfl)))
end
theorem aab (sep:ByteArray):∀ (k:Nat) (s:ByteArray),∀ x∈Lib.splitB sep 0 k s,x.size<=s.size
 | 0,s,x,aj=>by
  unfold Lib.splitB at aj;grind
 | k+1,s,x,aj=>by
  unfold Lib.splitB at aj;split at aj
  ·grind
  ·simp only [List.mem_cons] at aj;rcases aj with rfl | aj
   ·rw [ByteArray.size_extract];omega
   ·have:=aab sep k _ x aj;rw [ByteArray.size_extract] at this;omega
def p_ (s sep:List UInt8):List (List UInt8):=(Lib.splitB ⟨sep.toArray⟩ 0 (Lib.countB ⟨s.toArray⟩ ⟨sep.toArray⟩) ⟨s.toArray⟩).map (·.data.toList)
theorem arM (s:List UInt8):p_ s [32]=ax.cT s:=by
 unfold p_;rw [Lib.splitB_data];exact ax.arJ s.length s (Nat.le_refl _)
abbrev arN:Code:=Tryz.f139.body.getD .skip
theorem arO:h0 Tryz.prog 139 (.aA .str .str) (.slice .str) ax.IY.sh where
 enter:=tS Tryz.func139 (show Tryz.f139.body=some arN by rfl) (by rfl)
 iO:=λF w args x bo gf ba aG=>by
  obtain ⟨s,sep⟩:=x;obtain ⟨aG,G⟩:s.length<=10000/\sep=[32]:=aG;subst G;obtain ⟨rfl,ak,gh⟩:=arK ba;obtain ⟨_,m,hm⟩:=Jf gf (b:=0) (by decide);have cb:1<=(ByteArray.mk [32].toArray).size:=by decide
  refine (Any.strings_Split Tryz.arF (by kernel_rfl) ⟨s.toArray⟩ ⟨[32].toArray⟩ m w (by rw [Je];omega) hm cb).mono ?_;rintro e w' ⟨rfl,rfl⟩;have hlen:=Lib.splitB_all ⟨[32].toArray⟩ cb 0 _ ⟨s.toArray⟩ rfl;have rb:=Lib.countB_le ⟨[32].toArray⟩ cb _ ⟨s.toArray⟩ (Nat.le_refl _);rw [Je] at rb;have j_:=aab ⟨[32].toArray⟩ (Lib.countB ⟨s.toArray⟩ ⟨[32].toArray⟩) ⟨s.toArray⟩;rw [Je] at j_;have wN:(p_ s [32]).length=Lib.countB ⟨s.toArray⟩ ⟨[32].toArray⟩+1:=by unfold p_;grind
  refine ⟨_,p_ s [32],rfl,arM s,⟨[_],rfl,(rI rfl).2 ⟨_,rfl,(dV rfl).2 ⟨rfl,some ⟨w.heap.size,0,none⟩,Lib.countB ⟨s.toArray⟩ ⟨[32].toArray⟩+1,by rw [wN],by omega,by omega,nofun,λp ar hc=>?_⟩⟩⟩,?_⟩
  ·cases ar;refine ⟨.inr ⟨Nat.le_refl _,by simp⟩,rfl,λi M=>?_⟩;have dt:i<(Lib.splitB ⟨[32].toArray⟩ 0 (Lib.countB ⟨s.toArray⟩ ⟨[32].toArray⟩) ⟨s.toArray⟩).length:=by omega
   generalize aT:Lib.splitB ⟨[32].toArray⟩ 0 (Lib.countB ⟨s.toArray⟩ ⟨[32].toArray⟩) ⟨s.toArray⟩=B at dt j_ hlen;have js:(p_ s [32])[i]=B[i].data.toList:=by
    have V:p_ s [32]=B.map (·.data.toList):=by unfold p_;rw [aT]
    grind
   have cX:Value.string B[i]=.string ⟨(B[i].data.toList).toArray⟩:=by simp
   refine ⟨[.string B[i]],⟨.inr ⟨Nat.le_refl _,by simp⟩,rfl,λj aH=>?_⟩,?_,?_⟩
   ·have aH:j=0:=by grind
    subst aH;rw [uQ (pY w _)];have aF:0+i*ad.size .str+0=i:=by show 0+i*1+0=i;omega
    grind
   ·simp_all
   ·have:=j_ _ (List.getElem_mem dt);have e:(B[i]).data.toList.length=(B[i]).size:=Array.length_toList;grind
  ·exact (Below.refl _ _).alloc (Nat.le_refl _) _
theorem aac {F : Nat -> Prop} {w : World} (h : nA Tryz.prog F w) : Lib.TabIs Tryz.prog w "internal/strconv.uint64pow10" .u64 Lib.pow10Tab := by
 have bM:∀ i,w.cell? ⟨5,i,none⟩=if i<20 then some (.int .u64 (10 ^ i)) else none:=(Jf h (b:=5) (by decide)).2
 unfold Lib.TabIs World.var?;rw [show Tryz.prog.globalNamed "internal/strconv.uint64pow10" = some 5 by rfl];show (match w.heap[5]? with | some (.cells cs _ _)=>some cs | _=>none)=_;have aY:=bM 0;cases ag:w.heap[5]? with
 | none=>simp [World.cell?,ag] at aY
 | some o=>
  cases o with
  | cells cs T sA=>
   simp only [Option.some.injEq];apply Array.ext_getElem?;intro i;have M:=bM i;simp only [World.cell?,ag,Option.isSome_none,Bool.false_eq_true,if_false] at M;rw [M];split
   ·rename_i Jg;simp only [List.getElem?_toArray,List.getElem?_map,Lib.pow10Tab];grind
   ·rename_i Jg;rw [Array.getElem?_eq_none];simp [Lib.pow10Tab];omega
  | _=>simp [World.cell?,ag] at aY
abbrev arP:Code:=Tryz.f204.body.getD .skip
theorem arQ {P:Program} {F:Nat->Prop} {w:World} {args:List Value} {x:Int} (h:fl P (.int .i64) F w args x):args=[.int .i64 x]/\fL .i64 x:=by
 obtain ⟨v,rfl,af⟩:=(rI rfl).1 h;obtain ⟨rfl,ak⟩:=gP.1 af;grind
theorem arR {n:Int} (h:fL .i64 n):-9223372036854775808<=n/\n<=9223372036854775807:=h
theorem arS:h0 Tryz.prog 204 (.int .i64) .str ax.IN.sh where
 enter:=tS Tryz.func204 (show Tryz.f204.body=some arP by rfl) (by rfl)
 iO:=λF w args x bo gf ba aG=>by
  change Int at x;obtain ⟨rfl,U⟩:=arQ ba;obtain ⟨aY,G⟩:=arR U;refine (Any.strconv_Itoa Tryz.Z8 x aY G w (aac gf)).mono ?_;rintro e w' ⟨rfl,k,os,rfl⟩;have aj:ax.rE x=Lib.itoa x:=by unfold ax.rE;rw [bG aY (by omega)]
  refine ⟨_,ax.rE x,rfl,rfl,⟨[_],rfl,(rI rfl).2 ⟨_,rfl,l5.2 ⟨by rw [aj],Nat.lt_of_le_of_lt (ax.Px x) (by decide)⟩⟩⟩,arL w k os⟩
abbrev arT:Code:=Tryz.f258.body.getD .skip
theorem arU:h0 Tryz.prog 258 (.aA (.slice .str) .str) .str ax.Er.sh where
 enter:=tS Tryz.func258 (show Tryz.f258.body=some arT by rfl) (by rfl)
 iO:=λF w args x bo gf ba aG=>by
  obtain ⟨l,sep⟩:=x;obtain ⟨aD,hw,G⟩:l.length<=60000/\(∀ w∈l,w.length<=21)/\sep.length=1:=aG;have zD:=ax.ZH l sep 21 hw;have G:sep.length=1:=G;have aD:l.length<=60000:=aD;rw [G] at zD;have aH:(Lib.join l sep).length<2 ^ 63:=by omega
  obtain ⟨v,us,rfl,af,hu⟩:=EP ba;obtain ⟨rfl,_⟩:=Qb hu;obtain ⟨_,p,cap,ig,c2,c3,c4,c5⟩:=(dV rfl).1 af;obtain rfl:v=.slice p l.length cap:=by grind
  change l.length<=cap at c2;have fin:∀ w',Below w.heap.size w w'->∃ v y,Ending.returned (.string ⟨(Lib.join l sep).toArray⟩)=.returned v/\(ax.Er.sh (l,sep)).bR y/\ta Tryz.prog .str (uG F w w') w' v y/\Below w.heap.size w w':=λw' aa=>
   ⟨_,Lib.join l sep,rfl,rfl,⟨[_],rfl,(rI rfl).2 ⟨_,rfl,l5.2 ⟨rfl,aH⟩⟩⟩,aa⟩
  by_cases ak:l=[]
  ·subst ak;refine (Any.strings_Join_none Tryz.Z6 Tryz.Z7 p cap ⟨sep.toArray⟩ w).mono ?_;rintro e w' ⟨rfl,rfl⟩;exact fin _ (Below.refl _ _)
  ·have k7:0<l.length:=List.length_pos_iff.2 ak;obtain ⟨q,rfl⟩:∃ q,p=some q:=by
    cases p with
    | none=>grind
    | some q=>simp
   obtain ⟨d1,d2,d3⟩:=c5 q rfl (by omega);obtain ⟨arV,o,sp⟩:=q;obtain rfl:sp=none:=d2;have hlen:(l.map λx:List UInt8=>ByteArray.mk x.toArray).length=l.length:=List.length_map ..;have J1:(l.map λx:List UInt8=>ByteArray.mk x.toArray).map (·.data.toList)=l:=by rw [List.map_map];exact (List.map_congr_left λx _=>Qa x).trans (List.map_id _)
   have:=Any.strings_Join Tryz.Z6 Tryz.Z7 arV o cap (l.map λx:List UInt8=>ByteArray.mk x.toArray) ⟨sep.toArray⟩ w (λj x aj=>by
    rw [List.getElem?_map] at aj;obtain ⟨y,aS,rfl⟩:=Option.map_eq_some_iff.1 aj;obtain ⟨zD,rfl⟩:=List.getElem?_eq_some_iff.1 aS;obtain ⟨bk,⟨_,_,di⟩,gv⟩:=d3 j zD;obtain ⟨rfl,_⟩:=gv;have:=di 0 (by simp);simpa [ad.size] using this) (bo _ d1) (by omega) (by omega) (by grind)
   rw [hlen,J1,Qa] at this;refine this.mono ?_;simp_all
end Go.Fer.n_
namespace Go.Proofs
open Go.RowKit
theorem Tryz.arW {P:Program} {w w':World} {n:String} {k:IntKind} {zs:z1'} (h:Lib.TabIs P w n k zs) (aa:Below w.heap.size w w'):Lib.TabIs P w' n k zs:=by
 unfold Lib.TabIs World.var? at *
 cases aC:P.globalNamed n with
 | none=>rw [aC] at h;cases h
 | some g=>
  rw [aC] at h;simp only [Option.bind_some] at h ⊢;by_cases ch:g<w.heap.size
  ·rw [aa.block g ch];exact h
  ·rw [Array.getElem?_eq_none (by omega)] at h;cases h
set_option maxHeartbeats 4000000 in
set_option maxRecDepth 1000000 in
theorem Tryz.arX (s:ByteArray) (w:World) (v:Int) (y3:s.size<=9223372036854775806) (h:Lib.atoiAll s.data.toList=.ok v) (aY:-9223372036854775808<=v) (G:v<=9223372036854775807)
  (arY : Lib.TabIs Tryz.prog w "internal/strconv.uint64pow10" .u64 Lib.pow10Tab) :
  Calls Tryz.prog 140 #[.string s] w λe w'=>e=.returned (.tuple #[.int .i64 v,.bool (decide (s.size<=6)&&decide (0<=v)&&decide (Lib.itoa v=s.data.toList))])/\Below w.heap.size w w':=by
 go_enter Tryz.func140,Tryz.ntmps140;go_wp2_with fail;refine (Tryz.strconv_Atoi_ok s y3 v h w).mono ?_;rintro e cj ⟨rfl,lL⟩;have mg:Below w.heap.size w cj:=by
  rcases lL with rfl | ⟨t,rfl⟩
  ·exact Below.refl _ _
  ·exact Lib.bytesWorld_below w 5 t
 have arZ:=Tryz.arW arY mg;clear lL;by_cases aU:(s.size:Int)<=6
 ·by_cases aX:v>=0
  ·go_wp2_with fail;refine (Any.strconv_Itoa Tryz.Z8 v aY G cj arZ).mono ?_;rintro e c6 ⟨rfl,k,os,rfl⟩;have qR:Below w.heap.size w (Go.Sort.grow (cj.drewN k) os):=mg.trans ⟨rfl,rfl,rfl,by show _<=(cj.heap++os).size;simp,λj aH=>by
    have:=mg.size;show (cj.heap++os)[j]?=_;rw [Array.getElem?_append_left (by omega)]⟩
   generalize Go.Sort.grow (cj.drewN k) os=c6 at qR;go_wp2;go_returns;refine ⟨congrArg Ending.returned (congrArg Value.tuple ?_),qR⟩;show #[Value.int IntKind.i64 v,Value.bool (Lib.itoa v == s.toList)]=_;rw [Go.ByteArray.toList_eq,show decide (s.size<=6)=true from decide_eq_true (by omega),show decide (0<=v)=true from decide_eq_true aX,Bool.true_and,Bool.true_and,show (Lib.itoa v == s.data.toList)=decide (Lib.itoa v=s.data.toList) by rw [Bool.eq_iff_iff];simp]
  ·go_wp2;go_returns;refine ⟨congrArg Ending.returned (congrArg Value.tuple ?_),mg⟩;show #[Value.int IntKind.i64 v,Value.bool false]=_;rw [show decide (0<=v)=false from decide_eq_false (by omega),Bool.and_false,Bool.false_and]
 ·go_wp2;go_returns;refine ⟨congrArg Ending.returned (congrArg Value.tuple ?_),mg⟩;show #[Value.int IntKind.i64 v,Value.bool false]=_;rw [show decide (s.size<=6)=false from decide_eq_false (by omega),Bool.false_and,Bool.false_and]
set_option maxHeartbeats 4000000 in
set_option maxRecDepth 1000000 in
theorem Tryz.ar0 (s:ByteArray) (w:World) (rV:s.size<=281474976710656) (h:Lib.atoiAll s.data.toList=Lib.atoiAll []) (ia:Value) (af:w.cell? ⟨1,0,none⟩=some ia) (pD:ia=.nilIface\/∃ ly l4,ia=.iface ly l4) :
  Calls Tryz.prog 140 #[.string s] w λe w'=>e=.returned (.tuple #[.int .i64 0,.bool false])/\Below w.heap.size w w':=by
 go_enter Tryz.func140,Tryz.ntmps140;go_wp2_with fail;refine (Tryz.strconv_Atoi_syntax s rV h ia w af pD).mono ?_;rintro e cj ⟨N,rfl,_,_,mg⟩;go_wp2;go_returns;exact ⟨rfl,mg⟩
set_option maxHeartbeats 4000000 in
set_option maxRecDepth 1000000 in
theorem Tryz.ar1 (s:ByteArray) (w:World) (rV:s.size<=281474976710656) (h:Lib.atoiAll s.data.toList=.range) (ia:Value) (af:w.cell? ⟨2,0,none⟩=some ia) (pD:ia=.nilIface\/∃ ly l4,ia=.iface ly l4) :
  Calls Tryz.prog 140 #[.string s] w λe w'=>e=.returned (.tuple #[.int .i64 (Lib.atoiSat s.data.toList),.bool false])/\Below w.heap.size w w':=by
 go_enter Tryz.func140,Tryz.ntmps140;go_wp2_with fail;refine (Tryz.strconv_Atoi_range s rV h ia w af pD).mono ?_;rintro e cj ⟨N,rfl,_,_,mg⟩;go_wp2;go_returns;exact ⟨rfl,mg⟩
end Go.Proofs
namespace Go.Fer.ax
open A (W)
set_option linter.unusedVariables false
set_option linter.unusedSimpArgs false
theorem aad:∀ (s:aQ) (n:Int),0<=n->fX s n≠-1->n<=fX s n
 | [],n,_,_=>Int.le_refl _
 | c::s,n,h,G=>by
  unfold fX at G ⊢;split at G
  ·omega
  ·rename_i hc;rw [if_neg hc];simp only [Bool.or_eq_true,decide_eq_true_eq,not_or] at hc;have:=aad s _ (by omega) G;omega
theorem Qc (d:UInt8):∀ (s:aQ) (n:Int),0<=n->fX (s++[d]) n=if fX s n=-1 then -1 else if (decide ((d.toNat:Int)<48)||decide ((d.toNat:Int) > 57))=true then -1 else 10*fX s n+((d.toNat:Int) - 48)
 | [],n,h=>by
  show fX [d] n=if n=-1 then _ else _
  rw [if_neg (by omega)];rfl
 | c::s,n,h=>by
  rw [List.cons_append];conv=>lhs;unfold fX
  by_cases hc:(decide ((c.toNat:Int)<48)||decide ((c.toNat:Int) > 57))=true
  ·rw [if_pos hc,show fX (c::s) n=-1 by unfold fX;grind,if_pos rfl]
  ·rw [if_neg hc,show fX (c::s) n=fX s (10*n+((c.toNat:Int) - 48)) from (if_neg hc:(if (decide ((c.toNat:Int)<48)||decide ((c.toNat:Int) > 57))=true then (-1:Int) else _)=_)];simp only [Bool.or_eq_true,decide_eq_true_eq,not_or] at hc;exact Qc d s _ (by omega)
theorem Qd (k:Nat) (h:k<10):((UInt8.ofNat (48+k)).toNat:Int)=48+k:=by
 have:(UInt8.ofNat (48+k)).toNat=(48+k) % 256:=UInt8.toNat_ofNat';omega
theorem ar2 (u:Nat):fX (Go.Lib.decDigits u) 0=u:=by
 induction u using Nat.strongRecOn with
 | _ u aM=>
  unfold Go.Lib.decDigits;split
  ·rename_i h;have:=Qd u h;unfold fX;rw [if_neg (by grind),this];show (10*0+(48+(u:Int) - 48))=u;omega
  ·rename_i h;have ay:=Qd (u % 10) (by omega);rw [Qc _ _ _ (Int.le_refl _),aM (u / 10) (by omega),if_neg (by omega),if_neg (by grind),ay];omega
theorem ar3 (u:Nat):Go.Lib.decDigits u≠[]/\(1<(Go.Lib.decDigits u).length->((Go.Lib.decDigits u).getD 0 0).toNat≠48):=by
 induction u using Nat.strongRecOn with
 | _ u aM=>
  by_cases h:u<10
  ·rw [Go.Lib.decDigits_one h];simp
  ·obtain ⟨G,V⟩:=aM (u / 10) (by omega);have e:Go.Lib.decDigits u=Go.Lib.decDigits (u / 10)++[UInt8.ofNat (48+u % 10)]:=by
    conv=>lhs;unfold Go.Lib.decDigits
    grind
   rw [e];refine ⟨by simp,λ_=>?_⟩;have ak:0<(Go.Lib.decDigits (u / 10)).length:=List.length_pos_iff.2 G;rw [show (Go.Lib.decDigits (u / 10)++[UInt8.ofNat (48+u % 10)]).getD 0 0=(Go.Lib.decDigits (u / 10)).getD 0 0 by
    grind]
   by_cases ah:1<(Go.Lib.decDigits (u / 10)).length
   ·omega
   ·have pT:u / 10<10:=by
     refine Classical.byContradiction λaD=>ah ?_;have bB:Go.Lib.decDigits (u / 10)=Go.Lib.decDigits (u / 10 / 10)++[UInt8.ofNat (48+u / 10 % 10)]:=by
      conv=>lhs;unfold Go.Lib.decDigits
      grind
     grind
    rw [Go.Lib.decDigits_one pT];have:=Qd (u / 10) pT;grind
theorem ar4:∀ (n:Nat) (s:aQ),s.length=n->s≠[]->(1<s.length->(s.getD 0 0).toNat≠48)->fX s 0≠-1->Go.Lib.decDigits (fX s 0).toNat=s:=by
 intro n;induction n with
 | zero=>simp
 | succ n aM=>
  intro s G V ah a7;obtain ⟨a,d,rfl⟩:∃ a d,s=a++[d]:=⟨s.dropLast,s.getLast V,(List.dropLast_concat_getLast V).symm⟩
  rw [Qc _ _ _ (Int.le_refl _)] at a7 ⊢;split at a7
  ·omega
  ·rename_i ba;split at a7
   ·omega
   ·rename_i ay;rw [if_neg ba,if_neg ay];simp only [Bool.or_eq_true,decide_eq_true_eq,not_or] at ay;have LV:UInt8.ofNat (48+(d.toNat - 48))=d:=by
     apply UInt8.toNat_inj.1;rw [UInt8.toNat_ofNat'];omega
    by_cases aD:a=[]
    ·subst aD;have e:(10*fX [] 0+((d.toNat:Int) - 48)).toNat=d.toNat - 48:=by show (10*0+((d.toNat:Int) - 48)).toNat=_;omega
     rw [e,Go.Lib.decDigits_one (by omega),LV];rfl
    ·have ak:0<a.length:=List.length_pos_iff.2 aD;have cR:(a.getD 0 0).toNat≠48:=by
      grind
     have ar:1<=fX a 0:=by
      cases a with
      | nil=>grind
      | cons c r=>
       unfold fX at ba ⊢;split at ba
       ·omega
       ·rename_i hc;rw [if_neg hc];simp only [Bool.or_eq_true,decide_eq_true_eq,not_or] at hc;have axA:c.toNat≠48:=cR;have:=aad r _ (by omega) ba;omega
     have M:=aM a (by grind) aD (λ_=>cR) ba;have aF:(10*fX a 0+((d.toNat:Int) - 48)).toNat / 10=(fX a 0).toNat:=by omega
     have bB:(10*fX a 0+((d.toNat:Int) - 48)).toNat % 10=d.toNat - 48:=by omega
     conv=>lhs;unfold Go.Lib.decDigits
     grind
theorem ar5 {s:aQ} {v:Int} (h:Go.Lib.atoiAll s=.ok v):(decide (s.length<=6)&&decide (0<=v)&&decide (Go.Lib.itoa v=s))=decide (0<=fj s):=by
 rw [Bool.eq_iff_iff];simp only [Bool.and_eq_true,decide_eq_true_eq];constructor
 ·rintro ⟨⟨dr,af⟩,M⟩;obtain ⟨u,rfl⟩:∃ u:Nat,v=u:=⟨v.toNat,by omega⟩
  have e:Go.Lib.itoa (u:Int)=Go.Lib.decDigits u:=by rfl
  rw [e] at M;obtain ⟨aU,aX⟩:=ar3 u;rw [M] at aU aX;unfold fj;rw [if_neg]
  ·have:=ar2 u;grind
  grind
 ·intro aD;have e:=P0 aD;rw [h] at e;obtain rfl:v=fj s:=by grind
  refine ⟨⟨?_,aD⟩,?_⟩
  ·unfold fj at aD;grind
  ·have e:Go.Lib.itoa (fj s)=Go.Lib.decDigits (fj s).toNat:=by unfold Go.Lib.itoa;grind
   rw [e];unfold fj at aD ⊢;split at aD
   ·omega
   ·rename_i aa;rw [if_neg aa];simp only [Bool.or_eq_true,Bool.and_eq_true,decide_eq_true_eq,not_or,not_and] at aa;exact ar4 _ s rfl (λe=>aa.1.1 (by grind)) aa.2 (by omega)
theorem aae {s:aQ} (h:∀ v,Go.Lib.atoiAll s≠.ok v):decide (0<=fj s)=false:=decide_eq_false λaD=>h _ (P0 aD)
end Go.Fer.ax
namespace Go.Fer.n_
open Go Go.Proofs Go.RowKit
set_option linter.unusedVariables false
abbrev ar6:Code:=Tryz.f140.body.getD .skip
theorem ar7:h0 Tryz.prog 140 .str (.aA (.int .i64) .bool) ax.Et.sh where
 enter:=tS Tryz.func140 (show Tryz.f140.body=some ar6 by kernel_rfl) (by kernel_rfl)
 iO:=λF w args x bo gf ba aG=>by
  change List UInt8 at x;have aG:x.length<=10000:=aG;obtain ⟨rfl,ak⟩:=Qb ba;have aa:=Qa x;have bl:=Je x;have fin:∀ (n:Int) (b:Bool) (w':World),fL .i64 n->ax.q2 x=(n,b)->Below w.heap.size w w'->∃ v y,Ending.returned (.tuple #[.int .i64 n,.bool b])=.returned v/\(ax.Et.sh x).bR y/\ta Tryz.prog (.aA (.int .i64) .bool) (uG F w w') w' v y/\Below w.heap.size w w':=λn b w' U he yt=>
   ⟨_,(n,b),rfl,he.symm,⟨[.int .i64 n,.bool b],rfl,Bq.2 ⟨gP.2 ⟨rfl,U⟩,(rI rfl).2 ⟨_,rfl,fa.2 rfl⟩⟩⟩,yt⟩
  cases he:Lib.atoiAll x with
  | ok v=>
   have af:=Lib.atoiAll_bounds he;refine (Tryz.arX ⟨x.toArray⟩ w v (by rw [bl];omega) (by rw [aa];exact he) af.1 af.2 (aac gf)).mono ?_;rintro e w' ⟨rfl,yt⟩;refine fin v _ w' af ?_ yt;rw [aa,bl,ax.ar5 he];unfold ax.q2 ax.sS;rw [he]
  | range=>
   obtain ⟨_,ia,af,pD⟩:=Jf gf (b:=2) (by decide);refine (Tryz.ar1 ⟨x.toArray⟩ w (by rw [bl];omega) (by rw [aa];exact he) ia af pD).mono ?_;rintro e w' ⟨rfl,yt⟩;rw [aa] at *
   refine fin _ _ w' (Lib.atoiSat_bounds x) ?_ yt;unfold ax.q2 ax.sS;rw [he,ax.aae λv h=>by rw [he] at h;cases h]
  | _=>
   obtain ⟨_,ia,af,pD⟩:=Jf gf (b:=1) (by decide);refine (Tryz.ar0 ⟨x.toArray⟩ w (by rw [bl];omega) (by rw [aa];exact he) ia af pD).mono ?_;rintro e w' ⟨rfl,yt⟩;refine fin 0 _ w' (by decide) ?_ yt;unfold ax.q2 ax.sS;rw [he,ax.aae λv h=>by rw [he] at h;cases h]
end Go.Fer.n_
namespace Go.Fer
open Go.RowKit
abbrev mA:ad:=.int .i64
def Qe (x:z1'×Unit):A (z1'×Unit):=A.dR (x.1.length<4611686018427387904) (x.1.mergeSort (λa b=>decide (a<=b)),())
def pP:cG:=⟨⟨[(0,.an 200001)],[(200001,.bj mA)]⟩,⟨[],[(200001,.bj mA)]⟩,[],1,Qe⟩
section
variable {P:Program} {F:Nat->Prop} {w:World}
theorem aaf {cs:Array Value} {off:Nat} {xs:z1'} (h:lz P mA F w cs off xs) {i:Nat} (M:i<xs.length):cs[off+i]?=some (.int .i64 xs[i])/\fL .i64 xs[i]:=by
 obtain ⟨bk,G,V,ah⟩:=h i M;subst V;have:=G 0 (by simp);refine ⟨?_,ah⟩;have e:off+i*ad.size mA+0=off+i:=by show off+i*1+0=off+i;omega
 rw [e] at this;exact this
theorem ar8 {cs:Array Value} {off:Nat} {xs:z1'} (h:∀ i (h:i<xs.length),cs[off+i]?=some (.int .i64 xs[i])/\fL .i64 xs[i]):lz P mA F w cs off xs:=λi M=>by
 obtain ⟨G,V⟩:=h i M;refine ⟨[.int .i64 xs[i]],λj aH=>?_,rfl,V⟩;have aH:j=0:=by simpa using aH
 subst aH;have e:off+i*ad.size mA+0=off+i:=by show off+i*1+0=off+i;omega
 rw [e];exact G
theorem ar9 {cs:Array Value} {T:TypeId} {b off:Nat} {xs:z1'} (aa:w.heap[b]?=some (.cells cs T (0,0))) (h:lz P mA F w cs off xs):Go.Sort.Holds (Value.int .i64) w b off xs.toArray:=λj aH=>by
 have fM:j<xs.length:=by simpa using aH
 obtain ⟨G,_⟩:=aaf h fM;refine ⟨?_,by simp [World.frozen?,aa]⟩;simp only [World.cell?,aa];simp only [Option.isSome_none,Bool.false_eq_true,if_false];rw [G];simp [fM]
theorem ar_ {cs:Array Value} {off:Nat} {xs ys:z1'} (ak:ys.length=xs.length) (jg:∀ y∈ys,fL .i64 y) (cb:off+xs.length<=cs.size):lz P mA F w (Go.Sort.putCells (Value.int .i64) off ys.toArray cs) off ys:=by
 refine ar8 λi M=>⟨?_,jg _ (List.getElem_mem M)⟩
 have G:off+i<cs.size:=by omega
 simp [Go.Sort.putCells,G,M]
end
section
variable {P:Program} {aR:dE}
theorem ar' {k:FuncId} (he:∀ args w,(callFunc k args).run P w=.ok (.enter k args) w)
  (G:∀ (ab off cap:Nat) (zs:z1') (w:World),Go.Sort.Holds (Value.int .i64) w ab off zs.toArray->ab<w.heap.size->zs.length<4611686018427387904->Calls P k #[.slice (some ⟨ab,off,none⟩) zs.length cap] w λe w'=>
   e=.returned (.tuple #[])/\∃ n os,w'=Go.Sort.grow (Go.Sort.putRow (Value.int .i64) (Go.Sort.ahead w n) ab off (zs.mergeSort λx y=>decide (x<=y)).toArray) os)
  (aY:∀ (p:Option Addr) (cap:Nat) (w:World),Calls P k #[.slice p 0 cap] w λe w'=>e=.returned (.tuple #[])/\w'=w):cO P aR k pP where
 enter:=he
 iO C a w κ F D jk zP U ay ra tm h aG:=by
  obtain ⟨xs,u⟩:=D;have hlen:xs.length<4611686018427387904:=aG;have cb:a.tmps.size=1:=h.dF.trans ra;have qd:=h.bT 0;have aa:=h.bE 200001;change jz C.P _ κ F w (κ 200001) (.bj mA xs) at aa;have af:a.tmps.getD 0 undef=(κ 200001).slice xs.length:=qd.2 rfl rfl;have ba:a.tmps=#[(κ 200001).slice xs.length]:=by
   apply Array.ext (by simp [cb]);intro i M dM;have:i=0:=by omega
   subst this;rw [<-af];simp [Array.getD,cb]
  have qi:∀ bn,bn=((xs.mergeSort (λx y=>decide (x<=y)),()):z1'×Unit)->(pP.sh (xs,u)).bR bn:=λbn e=>e;have nP:∀ {w':World} {F':Nat->Prop} {ys:z1'},bm C (aB.mk (pP.ck.st (xs,u)).az λi=>if i=200001 then ⟨0,.bj mA ys⟩ else (pP.ck.st (xs,u)).ab i) a w' κ F'->bm { C with nt:=0 } (pP.bR.st (ys,())) { tmps:=#[],defers:=[] } w' κ F':=λ{w' F' ys} jN=>by
   have e:(pP.bR.st (ys,())).ab=λi=>if i=200001 then (⟨0,.bj mA ys⟩:bL) else (pP.ck.st (xs,u)).ab i:=by
    funext i;show eO [(200001,bQ.bj mA ys)] i=if i=200001 then _ else eO [(200001,bQ.bj mA xs)] i
    simp only [eO];by_cases M:i=200001
    ·rw [if_pos M,if_pos M]
    ·rw [if_neg M,if_neg M,if_neg M]
   refine { dF:=rfl,dfr:=ay.symm,bT:=λi=>trivial,bE:=λb=>?_,an:=λb=>?_,inj:=λb bf=>?_,c_:=jN.c_,ha:=jN.ha,hN:=jN.hN,hq:=jN.hq,eD:=jN.eD,size:=jN.size,en:=jN.en,ga:=Nat.zero_le _,kk:=jN.kk,jA:=λb r=>?_,j1:=jN.j1,kl:=λb k=>?_,eK:=λl aN L n st e=>(by cases e),jB:=jN.jB,iv:=jN.iv }
   ·rw [e];exact jN.bE b
   ·rw [e];exact jN.an b
   ·rw [e];exact jN.inj b bf
   ·rw [e];exact jN.jA b r
   ·rw [e];exact jN.kl b k
  subst jk;rw [ba];by_cases aD:(κ 200001).e3=true
  ·have aj:xs=[]:=aa.1 aD;subst aj;have ig:(κ 200001).slice 0=.slice none 0 0:=by simp [bD.slice,aD]
   rw [show ([]:z1').length=0 from rfl,ig];refine (aY none 0 w).mono ?_;rintro e w' ⟨rfl,rfl⟩;refine ⟨_,([],()),[],κ,F,rfl,qi _ (congrArg (λl=>(l,())) List.mergeSort_nil.symm),⟨[],rfl,rfl,rfl⟩,nP ?_⟩;have e:(λi=>if i=200001 then (⟨0,.bj mA []⟩:bL) else (pP.ck.st ([],u)).ab i)=(pP.ck.st ([],u)).ab:=by
    funext i;by_cases M:i=200001
    ·subst M;rfl
    ·rw [if_neg M]
   rw [e];exact h
  ·have aD:(κ 200001).e3=false:=by simpa using aD
   obtain ⟨cs,T,dB,eu,kj,nx,s5⟩:=aa.2 aD;have gb:((pP.ck.st (xs,u)).ab 200001).body.b1 (κ 200001)=true:=by show (!(κ 200001).e3)=true;rw [aD];rfl
   have ag:=h.an 200001 gb;have ig:(κ 200001).slice xs.length=.slice (some ⟨(κ 200001).ab,(κ 200001).off,none⟩) xs.length (κ 200001).cap:=by simp [bD.slice,aD]
   rw [ig];refine (G (κ 200001).ab (κ 200001).off (κ 200001).cap xs w (ar9 dB s5) ag.1 hlen).mono ?_;rintro e w' ⟨rfl,n,os,rfl⟩;have ar:(xs.mergeSort λx y=>decide (x<=y)).Perm xs:=List.mergeSort_perm _ _;generalize j6:(xs.mergeSort λx y=>decide (x<=y))=ys at ar qi;have aag:ys.length=xs.length:=ar.length_eq;have E9:(κ 200001).off+xs.length<=cs.size:=by
    have:(κ 200001).cap*ad.size mA=(κ 200001).cap:=Nat.mul_one _;omega
   have jg:∀ y∈ys,fL .i64 y:=λy aS=>by
    have:=ar.mem_iff.1 aS;obtain ⟨i,M,rfl⟩:=List.getElem_of_mem this;exact (aaf s5 M).2
   have asa:(Go.Sort.putRow (Value.int .i64) (Go.Sort.ahead w n) (κ 200001).ab (κ 200001).off ys.toArray).heap[(κ 200001).ab]?=some (.cells (Go.Sort.putCells (Value.int .i64) (κ 200001).off ys.toArray cs) T (0,0)):=by
    simp [Go.Sort.putRow,Go.Sort.mapBlock,Go.Sort.ahead,Array.getElem?_modify,dB,Go.Sort.onCells]
   have wj:bm C ((pP.ck.st (xs,u)).cw 200001 ⟨0,.bj mA ys⟩) a (Go.Sort.putRow (Value.int .i64) (Go.Sort.ahead w n) (κ 200001).ab (κ 200001).off ys.toArray) κ F:=by
    refine h.o2 (b:=200001) (x:=⟨0,.bj mA ys⟩) gb ?_ ?_ nofun nofun (λr U=>?_) (by simp [Go.Sort.putRow,Go.Sort.mapBlock,Go.Sort.ahead]) ⟨rfl,rfl,rfl⟩ (λH mJ iG ks=>⟨λhc=>absurd (aD.symm.trans hc) nofun,λ_=>?_⟩)
    ·show (!(κ 200001).e3)=true;rw [aD];rfl
    ·intro b;by_cases aa:b=200001
     ·subst aa;exact ⟨Nat.le_refl _,λ_=>⟨nofun,λ_=>⟨rfl,rfl,aag,rfl⟩,nofun,nofun⟩⟩
     ·show pX _ (if b=200001 then _ else _) _ _;rw [if_neg aa];exact pX.refl _ _
    ·simp [Go.Sort.putRow,Go.Sort.mapBlock,Go.Sort.ahead,Array.getElem?_modify,Ne.symm U]
    ·refine ⟨_,T,asa,?_,?_,nx,ar_ aag jg E9⟩
     ·simpa [Go.Sort.putCells] using eu
     ·show ys.length<=_;omega
   refine ⟨_,(ys,()),[],κ,_,rfl,qi _ rfl,⟨[],rfl,rfl,rfl⟩,nP (wj.grow ?_)⟩;refine ⟨rfl,rfl,rfl,by simp [Go.Sort.grow],λk ao=>?_⟩;simp only [Go.Sort.grow];rw [Array.getElem?_append_left ao]
end
end Go.Fer
namespace Go.Fer
open Go.RowKit
def asb (e:ad) (x:Int×Unit):A (List e.ai×Unit):=A.dR (0<=x.1/\x.1<60000) ([],())
def uE (e:ad):cG:=⟨⟨[(0,.df),(1,.val (.int .i64))],[]⟩,⟨[(0,.an 50000)],[(50000,.bj e)]⟩,[none],2,asb e⟩
section
variable {P:Program} {aR:dE} {e:ad}
theorem aah {C:b8} {a:Act} {w w':World} {κ:Nat->bD} {F:Nat->Prop} {D:(uE e).ck.ai} (h:bm C ((uE e).ck.st D) a w κ F) (ay:C.dfr=[]) {kb:bD} {v:Value}
  (af:v=kb.slice 0) (cb:w.heap.size<=w'.heap.size) (hw:∀ r,r<w.heap.size->w'.heap[r]?=w.heap[r]?) (hc:da w w') (k8:kb.e3=false->kb.ab=w.heap.size/\w.heap.size<w'.heap.size)
  (aT:kb.e3=false->∃ cs T,w'.heap[kb.ab]?=some (.cells cs T (0,0))/\kb.off+kb.cap*e.size<=cs.size/\kb.cap<2 ^ 63) :
  bm { C with nt:=1 } ((uE e).bR.st ([],())) { tmps:=#[v],defers:=[] } w' (λi=>if i=50000 then kb else κ i) F:=by
 have aa:∀ b,((uE e).bR.st ([],())).ab b=if b=50000 then ⟨0,.bj e []⟩ else ⟨0,.fw⟩:=λb=>rfl
 have ba:∀ b,b≠50000->((uE e).bR.st ([],())).ab b=⟨0,.fw⟩:=λb aD=>by rw [aa,if_neg aD]
 have bM:((uE e).bR.st ([],())).ab 50000=⟨0,.bj e []⟩:=rfl;have gb:∀ b,(((uE e).bR.st ([],())).ab b).body.b1 (if b=50000 then kb else κ b)=true->b=50000/\kb.e3=false:=λb ag=>by
  by_cases e:b=50000
  ·subst e;rw [bM,if_pos rfl] at ag;exact ⟨rfl,by simpa [bQ.b1] using ag⟩
  ·rw [ba b e] at ag;cases ag
 refine { dF:=rfl,dfr:=ay.symm,bT:=λi=>?_,bE:=λb=>?_,an:=λb ag=>?_,inj:=λb bf G V _=>?_,c_:=λr U=>Nat.lt_of_lt_of_le (h.c_ r U) cb,ha:=h.ha,hN:=h.hN,hq:=h.hq,eD:=λr U=>?_,size:=Nat.le_trans h.size cb,en:=h.en.trans hc,ga:=(by unfold eP;exact (by decide:1<=100000)),kk:=h.kk,jA:=λb r U iV=>?_,j1:=h.j1,kl:=λb k ao _ M=>?_,eK:=λl aN L n st e=>(by cases e),jB:=h.jB,iv:=h.iv.mono (λ_ h=>h) ⟨cb,λr U=>hw r (h.c_ r U)⟩ }
 ·by_cases M:i=0
  ·subst M;refine ⟨⟨Nat.le_refl _,?_⟩,λ_ _=>?_⟩
   ·show v.oneCell'=true;rw [af];unfold bD.slice;split<;>rfl
   ·show v=_;rw [af];show kb.slice 0=(if (50000:Nat)=50000 then kb else κ 50000).slice 0;rw [if_pos rfl]
  ·have:((uE e).bR.st ([],())).az i=.undef:=by
    show fo [(0,aI.an 50000 0)] i=.undef;simp [fo,M]
   rw [this];trivial
 ·unfold cB;by_cases aF:b=50000
  ·subst aF;rw [bM];show jz _ _ _ _ _ (if (50000:Nat)=50000 then kb else κ 50000) (.bj e []);rw [if_pos rfl];refine ⟨λ_=>rfl,λaD=>?_⟩;obtain ⟨cs,T,G,V,ah⟩:=aT aD;exact ⟨cs,T,G,V,Nat.zero_le _,ah,λi M=>absurd M (Nat.not_lt_zero _)⟩
  ·rw [ba b aF];trivial
 ·obtain ⟨rfl,aD⟩:=gb b ag;obtain ⟨G,V⟩:=k8 aD;rw [if_pos rfl,G];refine ⟨V,λaw=>?_,λao=>?_⟩
  ·have:=h.c_ _ aw;omega
  ·have:=h.hq _ ao;have:=h.size;omega
 ·rw [(gb b G).1,(gb bf V).1]
 ·have G:=h.hq r U;rw [hw r (Nat.lt_of_lt_of_le G h.size)];exact h.eD r U
 ·by_cases aF:b=50000
  ·subst aF;rw [bM] at iV;rcases iV with h | h<;>cases h
  ·rw [ba b aF] at iV;rcases iV with h | h<;>cases h
 ·by_cases aF:b=50000
  ·subst aF;have:=h.j1 _ _ ao;unfold wA at this;omega
  ·rw [ba b aF] at M;cases M
theorem aai {k:FuncId} (he:∀ args w,(callFunc k args).run P w=.ok (.enter k args) w)
  (aY:∀ w:World,Calls P k #[.slice none 0 0,.int .i64 0] w λe w'=>e=.returned (.slice none 0 0)/\w'=w)
  (G:∀ (n:Nat) (w:World),0<n->n<60000->Calls P k #[.slice none 0 0,.int .i64 (n:Int)] w λy w'=>∃ (cc:Nat) (T:TypeId) (cs:Array Value),y=.returned (.slice (some ⟨w.heap.size,0,none⟩) 0 cc)/\
   w'=w.drew.alloc (.cells cs T)/\cc<2 ^ 63/\cc*e.size<=cs.size):cO P aR k (uE e) where
 enter:=he
 iO C a w κ F D jk zP U ay ra tm h aG:=by
  obtain ⟨n,u⟩:=D;change Int at n;obtain ⟨r0,p8⟩:0<=n/\n<60000:=aG;have cb:a.tmps.size=2:=h.dF.trans ra;have asc:a.tmps.getD 0 undef=.slice none 0 0:=h.bT 0;have pZ:a.tmps.getD 1 undef=.int .i64 n:=(gP.1 (h.bT 1)).1;have ba:a.tmps=#[.slice none 0 0,.int .i64 n]:=by
   apply Array.ext (by simp [cb]);intro i M dM;have:i=0\/i=1:=by omega
   rcases this with rfl | rfl
   ·rw [<-asc];simp [Array.getD,cb]
   ·rw [<-pZ];simp [Array.getD,cb]
  subst jk;rw [ba];by_cases bl:n=0
  ·subst bl;refine (aY w).mono ?_;rintro y w' ⟨rfl,rfl⟩;refine ⟨_,([],()),[.slice none 0 0],_,F,rfl,rfl,⟨[.slice none 0 0],rfl,rfl,[],rfl,rfl⟩,aah h ay (kb:=⟨0,0,0,true⟩) rfl (Nat.le_refl _) (λ_ _=>rfl) (da.refl _) nofun nofun⟩
  ·obtain ⟨m,rfl⟩:∃ m:Nat,n=m:=⟨n.toNat,by omega⟩
   refine (G m w (by omega) (by omega)).mono ?_;rintro y w' ⟨cc,T,cs,rfl,rfl,gf,o5⟩;refine ⟨_,([],()),[.slice (some ⟨w.heap.size,0,none⟩) 0 cc],_,F,rfl,rfl,⟨[_],rfl,rfl,[],rfl,rfl⟩,aah h ay (kb:=⟨w.heap.size,0,cc,false⟩) rfl (by simp) (λr U=>?_) ⟨rfl,rfl,rfl⟩ (λ_=>⟨rfl,by simp⟩) (λ_=>⟨cs,T,?_,by simpa using o5,gf⟩)⟩
   ·exact o1 w.drew _ U
   ·show (w.drew.heap.push _)[w.heap.size]?=_;exact Array.getElem?_push_size
theorem aaj {aK:Go.Shelf.Ren} (L:Go.Proofs.Lays8.n4 P aK) (w:World):Calls P (aK.f 4) #[.slice none 0 0,.int .i64 0] w λe w'=>e=.returned (.slice none 0 0)/\w'=w:=
 Go.Proofs.Any8.slices_Grow_room L none 0 0 0 w (Nat.le_refl _) (by decide) (by decide) (Nat.le_refl _)
theorem aak {aK:Go.Shelf.Ren} (L:Go.Proofs.Lays8.n4 P aK) (aL:b7 P e (aK.t 25)) (aG:e.size≠0) (n:Nat) (w:World) (aY:0<n) (G:n<60000) :
  Calls P (aK.f 4) #[.slice none 0 0,.int .i64 (n:Int)] w λy w'=>∃ (cc:Nat) (T:TypeId) (cs:Array Value),y=.returned (.slice (some ⟨w.heap.size,0,none⟩) 0 cc)/\w'=w.drew.alloc (.cells cs T)/\cc<2 ^ 63/\cc*e.size<=cs.size:=by
 obtain ⟨i0,z,om,cb,aa,Kw,asd,_⟩:=ko aL.kn;have mU:0<i0.size:=by omega
 have tz:=(BR (P:=P) e asd).2;refine (Go.Proofs.Any8.slices_Grow_grow L i0 z om Kw mU none 0 0 n [] w (Nat.le_refl _) (by omega) ?_ (by omega) (by simp) (λ_=>rfl) nofun).mono ?_
 ·have:(0+n)*i0.bytes<=(0+n)*1024:=Nat.mul_le_mul_left _ aa;omega
 ·rintro y w' ⟨rfl,rfl⟩;refine ⟨_,_,_,rfl,rfl,?_,?_⟩
  ·have:=grownCap_le_maxLen w (0+n) 0 (aK.t 25) (by unfold maxLen;omega);unfold maxLen at this;omega
  ·have:=grownCap_ge w (0+n) 0 (aK.t 25);generalize grownCap w (0+n) 0 (aK.t 25)=cc at this;simp only [Array.size_append,size_zeroCells,tz];have aF:(0+n - 0)*e.size+(cc - (0+n))*e.size=cc*e.size:=by rw [<-Nat.add_mul];congr 1;omega
   have bB:(#[]:Array Value).size=0:=rfl;omega
end
end Go.Fer
namespace Go.Fer.n_
open Go.Proofs
def EB (aR:dE) (c:cG) (sh:Nat->c.ck.ai->A c.bR.ai):List Nat->Prop
 | []=>True
 | k::l=>cO Tryz.prog aR k { c with sh:=sh k }/\EB aR c sh l
theorem EB.mem {aR:dE} {c:cG} {sh:Nat->c.ck.ai->A c.bR.ai}:∀ {l:List Nat},EB aR c sh l->∀ k∈l,cO Tryz.prog aR k { c with sh:=sh k }
 | [],_,k,h=>by cases h
 | j::l,h,k,ao=>by
  rcases List.mem_cons.1 ao with rfl | ao
  ·exact h.1
  ·exact EB.mem h.2 k ao
theorem yu {k:Nat} {e:ad} {f:List e.ai×Unit->A (List e.ai×Unit)} {sh:(ad.slice e).ai->A (ad.slice e).ai} (h:cO Tryz.prog dD k ⟨⟨[(0,.val (.slice e))],[]⟩,⟨[(0,.an 60)],[(60,.bj e)]⟩,[none],1,f⟩)
  (ar:∀ x:List e.ai,(sh x).cr->(f (x,())).cr/\∀ bn,(f (x,())).bR bn->bn.1=(sh x).val (ad.slice e).db):nD (hE.ky ⟨.slice e,.slice e,sh,true⟩).aW=true/\B5 Tryz.prog k (hE.ky ⟨.slice e,.slice e,sh,true⟩):=
 aiy (by simp) h mm (b0:=60) (λx=>(x,())) (λx=>rfl) rfl (by show 1<=eP;decide) rfl (λbn=>bn.1) (λbn=>⟨rfl,rfl⟩) ar
abbrev ase:Code:=Tryz.f161.body.getD .skip
theorem asf (aR:dE):cO Tryz.prog aR 161 pP:=
 ar' (tS Tryz.func161 (show Tryz.f161.body=some ase by kernel_rfl) (by kernel_rfl)) (λab off cap zs w G V ah=>calls_of_every_depth λau=>AnyS.slices_Sort_int_in Tryz.Z9 au ab off cap zs w G V ah)
  λp cap w=>Any.slices_Sort_int_none Tryz.Z9 p cap w
theorem asg:Qe=H.xQ:=by
 funext x;unfold Qe H.xQ;rw [show x.1.mergeSort (λa b=>decide (a<=b))=H.fq H.ho x.1 from (H.Ab ((List.pairwise_mergeSort (le:=λa b:Int=>decide (a<=b)) (λa b c G V=>by simp at G V ⊢;omega) (λa b=>by simp;omega) x.1).imp λh=>by simpa using h) (List.mergeSort_perm _ _).symm).symm]
def Qf:cG:=⟨⟨[(0,.an 200001)],[(200001,.bj t3)]⟩,⟨[],[(200001,.bj t3)]⟩,[],1,H.xQ⟩
theorem aal:cO Tryz.prog dD 161 Qf:=by
 have:=asf dD;unfold pP at this;rw [asg] at this;exact this
abbrev ash:Code:=Tryz.f257.body.getD .skip
abbrev asi:Code:=Tryz.f256.body.getD .skip
def aam:cG:=⟨⟨[(0,.df),(1,.val t3)],[]⟩,⟨[(0,.an 50000)],[(50000,.bj t3)]⟩,[none],2,H.IB⟩
def aan:cG:=⟨⟨[(0,.df),(1,.val t3)],[]⟩,⟨[(0,.an 50000)],[(50000,.bj H.hl)]⟩,[none],2,H.IC⟩
theorem asj:cO Tryz.prog dD 257 aam:=
 aai (e:=t3) (tS Tryz.func257 (show Tryz.f257.body=some ash by kernel_rfl) (by kernel_rfl)) (aaj Tryz.Z_) (aak Tryz.Z_ (nV.b_ (id:=3) rfl (by decide)) (by decide))
theorem asl:cO Tryz.prog dD 256 aan:=
 aai (e:=H.hl) (tS Tryz.func256 (show Tryz.f256.body=some asi by kernel_rfl) (by kernel_rfl)) (aaj Tryz.Z') (aak Tryz.Z' (nV.b_ (id:=125) rfl (by decide)) (by decide))
def g1:=aiw.cons (n:=139) (c:=ax.IY.du) ⟨arO,λ_ _=>A.vk⟩
def eo:=g1.cons (n:=204) (c:=ax.IN.du) ⟨arS,λ_ _=>A.vk⟩
def g3:=eo.cons (n:=258) (c:=ax.Er.du) ⟨arU,λ_ _=>A.vk⟩
def asm:=g3.cons (n:=140) (c:=ax.Et.du) ⟨ar7,λ_ _=>A.vk⟩
end Go.Fer.n_
namespace Go.Fer.n_
open Go.Proofs Go.Proofs.Tryz
open A (W)
set_option maxRecDepth 100000
set_option linter.unusedVariables false
set_option linter.unusedSimpArgs false
noncomputable section
abbrev L:dq:=.eM
abbrev S(a b:dq):dq:=.seq a b
abbrev au:dq:=S L L
abbrev C(a b:dq):dq:=.cond a b
abbrev B(a:dq):dq:=.block a
abbrev J(s:List (Nat×bX))(b:List (Nat×b4))(x y:dq):dq:=.join ⟨s,b⟩ x y
abbrev ax(s:List (Nat×bX))(b:List (Nat×b4))(x:dq):dq:=.loop ⟨s,b⟩ x
abbrev cc(s:List (Nat×bX))(b:List (Nat×b4))(t:List (Nat×bX))(c:List (Nat×b4))(u:List (Nat×bX))(d:List (Nat×b4))(x y:dq):dq:=.range ⟨s,b⟩ ⟨t,c⟩ ⟨u,d⟩ x y
abbrev v2:bX:=.val t2
abbrev a2:b4:=.bj t2
abbrev v4:bX:=.val t4
abbrev v9:bX:=.val t9
abbrev a9:b4:=.bj t9
abbrev v22:bX:=.val t22
abbrev rH:bX:=.val Df
abbrev sY:bX:=.val GW
abbrev Qg:b4:=.fV tU
abbrev dU:bX:=.val eW
abbrev EC:b4:=.bj eW
abbrev v28:bX:=.val t28
abbrev A':bX:=.val GX
abbrev pQ:bX:=.val zU
abbrev yv:b4:=.fV oY
abbrev nu:bX:=.val ql
abbrev oX:bX:=.val nU
abbrev aao:b4:=.fV MM
abbrev Jh:b4:=.fV s6
abbrev yw:b4:=.fV wk
abbrev Qh:b4:=.bj zT
abbrev pR:bX:=.val EL
abbrev Ji:b4:=.bj xz
abbrev Qi:b4:=.fV xz
abbrev asn:b4:=.bj vg
abbrev Ba:b4:=.bj rf
abbrev aso:b4:=.fV rf
abbrev asp:b4:=.bj xB
abbrev aap:b4:=.fV xB
abbrev asq:bX:=.val MO
abbrev ED:b4:=.fV qm
abbrev aaq:bX:=.val Ut
abbrev Bb:bX:=.val Dg
abbrev aar:bX:=.val h_
abbrev sZ:b4:=.bj h_
abbrev Qj:bX:=.val vh
abbrev aas:bX:=.val Uu
abbrev aat:bX:=.val pq
abbrev EE:b4:=.bj pq
abbrev asr:bX:=.val Uv
abbrev aau:bX:=.val MQ
abbrev aav:bX:=.val MR
abbrev gO:b4:=.bj qn
abbrev yx:b4:=.fV qn
abbrev Qk:bX:=.val MS
abbrev kE:bX:=.val oD
abbrev ass:bX:=.val UB
abbrev aaw:b4:=.fV MN
abbrev Ql:b4:=.bj zR
abbrev aax:b4:=.fV zR
abbrev Qm:bX:=.val GV
abbrev aay:b4:=.bj xA
abbrev ast:b4:=.bj zS
abbrev aaz:b4:=.fV zS
abbrev asu:bX:=.val UC
abbrev Qn:bX:=.val MU
abbrev v228:bX:=.val t228
abbrev asv:bX:=.val UF
abbrev asw:bX:=.val UG
abbrev asx:bX:=.val UH
abbrev Bc:bX:=.val UI
abbrev asy:bX:=.val UJ
abbrev asz:bX:=.val UK
abbrev Jj:bX:=.val Di
abbrev nh:List (Nat×bX):=[(6,.a1 17 0),(56,.hD [30000,30001,30002,30003,30004,30005,30006,30007,30008,30009]),(57,v2)]
abbrev nv:List (Nat×bX):=[(1,.a1 1 0)]
abbrev Jk:List (Nat×bX):=[(1,.a1 1 0),(2,.a1 2 0),(3,.a1 1 0),(38,v2),(39,v2)]
abbrev aaA:List (Nat×bX):=[(2,.a1 2 0),(7,.a1 22 0),(8,.a1 8 0),(9,.a1 9 0),(10,.an 10),(11,.a1 11 0),(24,v22),(25,v2),(26,v2)]
abbrev aaB:List (Nat×bX):=[(2,.a1 2 0),(3,.a1 3 0),(4,.an 4),(5,.an 5),(7,Qj),(8,v2),(9,v2),(23,v2),(29,Qk),(30,v2),(31,v2)]
abbrev s3:List (Nat×bX):=[(1,.a1 1 0),(3,v2)]
abbrev aaC:List (Nat×bX):=[(2,.a1 2 0),(7,.a1 30 0),(10,v2),(11,v2),(46,v2),(47,v2),(52,rH),(53,v2),(54,v2),(61,v2),(62,v2)]
abbrev aaD:List (Nat×bX):=[(1,.a1 1 0),(2,.a1 2 0),(3,.a1 1 0),(5,.iP 22),(38,v2),(39,v2),(60,v2),(61,v2)]
abbrev aaE:List (Nat×bX):=[(0,kE),(1,dU),(2,v2),(3,.g_),(9,v2),(29,v28),(30,v2),(31,v2),(1000000,.aW eW)]
abbrev aaF:List (Nat×bX):=[(0,kE),(1,.an 200001),(2,pQ),(3,v2),(4,.fb 100002),(16,nu),(17,v2),(18,v2)]
abbrev Bd:List (Nat×bX):=[(1,.a1 1 0),(2,.a1 2 0)]
abbrev aaG:List (Nat×bX):=[(2,.a1 2 0),(3,.a1 3 0),(4,.an 4),(5,.an 5),(7,Qj),(8,v2),(9,v2),(23,v2)]
abbrev aaH:List (Nat×bX):=[(2,.a1 2 0),(7,.a1 30 0),(10,v2),(46,v2),(47,v2),(52,rH),(53,v2),(54,v2)]
abbrev aaI:List (Nat×bX):=[(1,pR),(2,.a1 2 0),(5,pR),(6,.a1 6 0),(8,.an 8),(9,.an 9),(10,v2)]
abbrev aaJ:List (Nat×bX):=[(0,.g_),(2,.dW vh),(10,aav),(11,v2),(1000000,.aW (.aA h_ t2))]
abbrev aaK:List (Nat×bX):=[(2,v2),(6,.a1 6 0),(8,.a1 8 0),(9,v4),(17,aau),(18,v2),(19,v2)]
abbrev aaL:List (Nat×bX):=[(4,.a1 4 0),(5,.a1 5 0),(10,.fb 24),(28,Qk),(29,v2),(30,v2)]
abbrev aaM:List (Nat×bX):=[(2,.a1 2 0),(3,.a1 3 0),(4,.an 4),(5,.an 5),(7,Qj),(23,v2)]
abbrev aaN:List (Nat×bX):=[(0,aaq),(1,v2),(2,v2),(3,v2),(9,v2),(18,dU),(19,v2),(20,v2)]
abbrev Be:List (Nat×bX):=[(1,.a1 1 0),(5,v2)]
abbrev aaO:List (Nat×bX):=[(1,v2),(6,kE),(8,.an 8),(9,.an 50260),(29,v2),(30,v2)]
abbrev aaP:List (Nat×bX):=[(1,pR),(2,.a1 2 0),(5,v2),(6,v2),(7,v2),(8,v2),(10,v2)]
abbrev aaQ:List (Nat×bX):=[(1,asr),(4,.a1 4 0),(5,v4),(13,Qk),(14,v2),(15,v2)]
abbrev aaR:List (Nat×bX):=[(0,kE),(1,pQ),(5,.an 50140),(6,v2),(16,v2),(17,v2)]
abbrev Jl:List (Nat×bX):=[(1,.a1 1 0),(3,v2),(4,v2)]
abbrev Jm:List (Nat×bX):=[(2,.a1 2 0),(3,.a1 3 0)]
abbrev Qo:List (Nat×bX):=[(2,.a1 2 0),(3,.a1 3 0),(7,v2)]
abbrev jx:List (Nat×b4):=[(17,.cells Dh [dU,.an 30000,.an 30001,.an 30002,.an 30003,.an 30004,.an 30005,.an 30006,.an 30007,.an 30008,.an 30009]),(30000,gO),(30001,gO),(30002,gO),(30003,gO),(30004,gO),(30005,gO),(30006,gO),(30007,gO),(30008,gO),(30009,gO),(100000,.cells rh [nu,oX,dU,nu,v2,v2,v2,v2,v2,v2,v2,oX,.an 100002]),(100002,EE)]
abbrev s4:List (Nat×b4):=[(12,yx),(17,.cells Dh [dU,.an 30000,.an 30001,.an 30002,.an 30003,.an 30004,.an 30005,.an 30006,.an 30007,.an 30008,.an 30009]),(30000,gO),(30001,gO),(30002,gO),(30003,gO),(30004,gO),(30005,gO),(30006,gO),(30007,gO),(30008,gO),(30009,gO),(100000,.cells rh [nu,oX,dU,nu,v2,v2,v2,v2,v2,v2,v2,oX,.an 100002]),(100002,EE)]
abbrev wh:List (Nat×b4):=[(1,.cells oY [.an 17,.an 22,v2,.an 27,.an 84,.an 87,.an 90,.an 93,v2]),(2,.cells oY [.df,.df,v2,.df,.df,.df,.df,.df,v2]),(17,Ql),(22,aay),(27,Qh),(84,a2),(87,asp),(90,asn),(93,Ba)]
abbrev Jn:List (Nat×b4):=[(1,.cells oY [.an 17,.an 22,v2,.an 27,dU,v28,A',pQ,v2]),(2,.cells oY [.df,.df,v2,.df,.df,.df,.df,.df,v2]),(17,Ql),(22,.f' xA (.an 50530)),(27,Qh),(50530,ast)]
abbrev wi:List (Nat×b4):=[(2,yv),(28,.mp rf t2),(30,.cells t222 [v22,rH,v2,sY,dU,v28,A',pQ,v2,.df,.fb 28])]
abbrev Jo:List (Nat×b4):=[(1,.cells oY [.an 17,.an 22,v2,.an 27,dU,v28,A',pQ,v2]),(2,.cells oY [.df,.df,v2,.df,.df,.df,.df,.df,v2]),(17,Ql),(22,aay),(27,Qh)]
abbrev aaS:List (Nat×b4):=[(4,a9),(5,.cells wk [.df,.df,v2,.df,.df,.df,.df,.df,v2,.df,.df,.df,.df,v2,v2,v2,v2,v2,v2,v2]),(50230,ED)]
abbrev Bf:List (Nat×b4):=[(2,Jh),(3,.gD t2),(4,a2),(5,a2)]
abbrev aaT:List (Nat×b4):=[(2,yv),(28,.mp rf t2),(30,.cells t222 [v22,rH,v2,sY,dU,v28,A',pQ,v2,.an 109,.fb 28]),(109,Ji)]
abbrev aaU:List (Nat×b4):=[(28,.mp rf t2),(30,.cells t222 [v22,rH,v2,sY,dU,v28,A',pQ,v2,.an 109,.fb 28]),(109,Ji)]
abbrev aaV:List (Nat×b4):=[(100000,.cells rh [nu,oX,dU,nu,v2,v2,v2,v2,v2,v2,v2,oX,.an 100002]),(100002,EE)]
abbrev nw:List (Nat×b4):=[(1,Qg)]
abbrev n9:List (Nat×b4):=[(1,Jh)]
abbrev aaW:List (Nat×b4):=[(2,.gD tU),(22,.cells xC [v22,rH,v2,sY,.an 61]),(61,EC)]
abbrev yy:List (Nat×b4):=[(2,Qg),(3,Qg)]
abbrev pS:List (Nat×b4):=[(1,yv)]
abbrev Qp:List (Nat×b4):=[(100002,.mp t2 t2),(200001,a2)]
abbrev Qq:List (Nat×b4):=[(2,yw),(6,yw),(8,a9),(9,a9)]
abbrev EF:List (Nat×b4):=[(2,Jh),(3,Jh)]
abbrev EG:List (Nat×b4):=[(5,yv),(6,yv)]
abbrev k2:=cG.mk ⟨[(0,.a1 100000 0),(1,.val eW)],[(100000,.fV qm)]⟩ ⟨[(0,.val t9)],[(100000,.fV qm)]⟩ [none] 2
def asA:=mk asm func276 (kU jU) (S L (J [] [] (S L (B (ax [(0,sY),(1,asu),(7,v2),(8,v2)] [] (S L (S (C L L) (S (B (S L (S L (C au L)))) L)))))) au)) (sv jU)
def asB:=mk asA func206 (iZ jU) (S L au) (sw jU)
def asC:=jO asB [] func207 (vP jU) 1 (S L au) (D6 jU)
def asD:=lU asC [(207,1)] func144 (jw jU) (S L au) (D7 jU)
def asE:=mk asD func145 cp (S L au) anq
def asF:=mk asE func266 x3 (S L au) ans
def asG:=mk asF func267 oQ (S L au) anr
def asH:=mk asG func265 HW (S L au) anA
def asI:=mk asH func292 (kU bu) (S L (J [] [] (S L (B (ax [(0,dU),(1,aas),(7,v2),(8,v2)] [] (S L (S (C L L) (S (B (S L (S L (C au L)))) L)))))) au)) (sv bu)
def asJ:=mk asI func227 (iZ bu) (S L au) (sw bu)
def asK:=jO asJ [] func331 (vP bu) 1 (S L au) (D6 bu)
def asL:=lU asK [(331,1)] func269 (jw bu) (S L au) (D7 bu)
def asM:=mk asL func270 ui (S L (J [] [] (S L (B (ax [(0,dU),(3,v2)] [] (S (S L (C L L)) (S (B (S L (C au L))) L))))) au)) anv
def asN:=lU asM [] func268 sK (S L au) anB
def asO:=mk asN func372 (kU qw) (S L (J [] [] (S L (B (ax [(0,Qm),(1,asx),(7,v2),(8,v2)] [] (S L (S (C L L) (S (B (S L (S L (C au L)))) L)))))) au)) (sv qw)
def asP:=mk asO func332 (iZ qw) (S L au) (sw qw)
def asQ:=jO asP [] func333 (vP qw) 1 (S L au) (D6 qw)
def asR:=lU asQ [(333,1)] func272 (jw qw) (S L au) (D7 qw)
def asS:=jO asR [] func271 AL 1 (S L au) anC
def asT:=mk asS func64 pF (S L au) ant
def asU:=mk asT func65 rs (S L au) anu
def asV:=jO asU [] func273 AM 1 (S L au) anD
def asW:=mk asV func373 (kU kC) (S L (J [] [] (S L (B (ax [(0,v22),(1,asy),(7,v2),(8,v2)] [] (S L (S (C L L) (S (B (S L (S L (C au L)))) L)))))) au)) (sv kC)
def asX:=mk asW func334 (iZ kC) (S L au) (sw kC)
def asY:=jO asX [] func335 (vP kC) 1 (S L au) (D6 kC)
def asZ:=lU asY [(335,1)] func274 (jw kC) (S L au) (D7 kC)
def as0:=mk asZ func374 (kU kX) (S L (J [] [] (S L (B (ax [(0,rH),(1,asz),(7,v2),(8,v2)] [] (S L (S (C L L) (S (B (S L (S L (C au L)))) L)))))) au)) (sv kX)
def as1:=mk as0 func336 (iZ kX) (S L au) (sw kX)
def as2:=jO as1 [] func337 (vP kX) 1 (S L au) (D6 kX)
def as3:=lU as2 [(337,1)] func275 (jw kX) (S L au) (D7 kX)
def as4:=lU as3 [(271,1),(273,1)] func205 sL (S L (S L (S L (S L (S L au))))) anE
def as5:=mk as4 func141 hX (S L (S (S L (C au L)) (S L (J [] [] (S L (B (ax [(3,.fb 12),(14,sY),(15,v2),(16,v2)] [(12,.mp rf t2)] (S L (S (C L L) (S (B (S L (S L (S (S L (S L (C au L))) L)))) L)))))) au)))) anI
def as6:=mk as5 func164 cp (S L au) an9
def as7:=mk as6 func220 ry (S L au) an'
def as8:=mk as7 func221 H4 (S L (J [] [] (S L (B (ax [(0,dU),(1,aas),(7,dU),(8,v2),(9,v2)] [] (S L (S (C L L) (S (B (S L (S L (C au L)))) L)))))) au)) aob
def as9:=jO as8 [] func222 D' 1 (S L au) aof (hc:=λx h=>by obtain ⟨w,p,aw,_⟩:=h;exact sk ⟨⟨trivial,ri (congrArg (λo=>o.1) aw)⟩,ri (congrArg (λo=>o.2) aw)⟩)
def as_:=jO as9 [(222,1)] func219 Ea 1 (S L au) aog (hc:=λx h=>by obtain ⟨_,w,aw,_⟩:=h;exact sk ⟨trivial,ri aw⟩)
def as':=mk as_ func224 ry (S L au) aoa
def ata:=lU as' [] func223 Eb (S L au) aoh
def atb:=jO ata [] func225 Ec 1 (S L au) aoi (hc:=λx h=>by obtain ⟨w,aw,_⟩:=h;exact sk ⟨trivial,ri aw⟩)
def atc:=mk atb func226 Ed (S L au) aoj
def atd:=mk atc func293 (kU nd) (S L (J [] [] (S L (B (ax [(0,v28),(1,asv),(7,v2),(8,v2)] [] (S L (S (C L L) (S (B (S L (S L (C au L)))) L)))))) au)) (sv nd)
def ate:=mk atd func228 (iZ nd) (S L au) (sw nd)
def atf:=mk ate func294 (kU mx) (S L (J [] [] (S L (B (ax [(0,A'),(1,ass),(7,v2),(8,v2)] [] (S L (S (C L L) (S (B (S L (S L (C au L)))) L)))))) au)) (sv mx)
def atg:=mk atf func229 (iZ mx) (S L au) (sw mx)
def ath:=mk atg func295 (kU pJ) (S L (J [] [] (S L (B (ax [(0,pQ),(1,asw),(7,v2),(8,v2)] [] (S L (S (C L L) (S (B (S L (S L (C au L)))) L)))))) au)) (sv pJ)
def ati:=mk ath func230 (iZ pJ) (S L au) (sw pJ)
def atj:=lU ati [(219,1),(225,1)] func171 OY (S L (S L (S L (S L (S L (S L au)))))) aok
def Qr:=mk atj func100 pL (S L (S (S L (S L (C au L))) (S (S L (C au L)) au))) aol
def aaX:cG:=⟨⟨[(0,.df),(1,.val MT)],[]⟩,⟨[(0,.an 50000)],[(50000,.bj t2)]⟩,[none],2,H.Ad⟩
theorem atk:cO Tryz.prog dD 213 aaX:=d_ Qr [] trivial func213 (S L (S (S L (B (cc [(2,.a1 2 0)] [(2,.cells eW [.an 50000]),(50000,a2)] [(2,.a1 100002 0),(7,v2)] [(100002,.cells eW [.an 150000]),(150000,a2)] [] [(100002,.cells eW [.an 150000]),(150000,a2)] L (B L)))) au)) H.akI
def aaY:cG:=⟨⟨[(0,.val MT)],[]⟩,⟨[(0,.an 50040)],[(50040,.bj t2)]⟩,[none],1,H.Ad⟩
theorem atl:cO Tryz.prog dD 160 aaY:=d_ Qr [(213,.e7 aaX)] ⟨atk,trivial⟩ func160 (S L au) H.akJ
def Qs:=pv Qr mm [(160,.e7 aaY),(161,.e7 Qf)] ⟨atl,aal,trivial⟩ func86 H.sx (S L (S L (S L au))) H.akK
def aaZ:cG:=⟨⟨[(0,.g_),(1,.dW GZ),(1000000,.aW t2)],[]⟩,⟨[(1000000,.aW t2)],[]⟩,[],2,H.NN⟩
theorem atm:cO Tryz.prog dD 277 aaZ:=d_ (S:=H.NN) Qs [] trivial func277 (S L (B (ax [(0,.g_),(5,.j0 5),(1000000,.aW t2)] [(5,.cq t2 h_)] (S L (S (C L L) (B (S L (S L (C L L))))))))) (λx=>A.le_refl _)
theorem atn:wv Tryz.prog 277 ⟨[GZ],t2,H.jQ⟩:=MI (c:=aaZ) atm mm (λx l L=>(l,x.getD [],(l,L,[],false),())) rfl (by decide) (by simp [f_])
 (λx l L i aj=>by
  obtain ⟨T,aV⟩:=aj;obtain ⟨m,hm,_⟩:=aV;subst hm;by_cases aY:i=0
  ·subst aY;exact .inr (.inr (.inl ⟨rfl,rfl⟩))
  ·by_cases G:i=1
   ·subst G;exact .inr (.inl ⟨by decide,by decide,_,_,rfl,rfl⟩)
   by_cases V:i=b5
   ·subst V;exact .inr (.inr (.inr ⟨rfl,rfl⟩))
   ·refine .inl ?_;exact (if_neg aY).trans ((if_neg G).trans (if_neg V)))
 rfl (λbn=>⟨_,_,_,_,rfl⟩) (λx l aj=>by
  obtain ⟨T,aV⟩:=aj;obtain ⟨m,hm,_⟩:=aV;subst hm;have h:=H.alK l m;refine ⟨h.1,λbn fW dG e2 p fi=>?_⟩;have e:aI.aW bn.1.1 t2 bn.1.2.1 bn.1.2.2.1 bn.1.2.2.2=.aW dG t2 e2 p false:=fi;injection e with aF bB di gv h1
  rw [<-gv];exact h.2 bn fW h1)
def ato:=pv Qs (Qs.u [] [(277,⟨[GZ],t2,H.jQ⟩)] ⟨atn,trivial⟩) [] trivial func210 H.xR (S L au) H.akN
def atp:=mk ato func154 H.Ak (S L (S L (J [(4,.fb 12)] [(12,.mp t2 h_)] (S L (B (ax [(4,.fb 12),(13,oX),(14,v2),(15,v2)] [(12,.mp t2 h_)] (S L (S (C L L) (S (B (S L (S (S L (S L (C au L))) L))) L)))))) (S L (J [(9,.an 9)] [(9,sZ)] (S L (B (ax [(4,.fb 12),(9,.an 9),(39,dU),(40,v2),(41,v2)] [(9,sZ),(12,.iQ t2 h_)] (S L (S (C L L) (S (B au) L)))))) au))))) H.akY
def atq:=mk atp func85 H.cp (S L au) H.akd
def atr:=mk atq func209 (H.kU H.hl) (S L (J [] [] (S L (B (ax [(0,oX),(1,Qn),(7,v2),(8,v2)] [] (S L (S (C L L) (S (B (S L (S L (C au L)))) L)))))) au)) H.akn
def ats:=mk atr func151 (H.iZ H.hl) (S L au) H.ako
def att:=mk ats func231 H.vq (S L (J nv [(1,aao)] (S L (B (ax [(1,.a1 1 0),(13,.an 13),(14,v2),(15,v2)] [(1,aao),(13,a2)] (S L (S (C L L) (S (B (S L (S L (C au L)))) L)))))) au)) H.akh
def atu:=mk att func76 H.vp (S L au) H.akf
def atv:=mk atu func233 H.vr (S L (S L au)) H.akj
def atw:=jO atv [] func232 H.DF 1 (S L au) H.akk
def atx:=mk atw func234 H.Aa (S L au) H.akl
def aty:=lU atx [(232,1)] func172 H.vt (S L (S (S L (C au L)) (J nv n9 (S L (B (ax [(1,.a1 1 0),(38,nu),(39,v2),(40,v2)] n9 (S L (S (C L L) (S (B (S L (S L (C au L)))) L)))))) (J nv n9 (S L (B (ax [(1,.a1 1 0),(57,nu),(58,v2),(59,v2)] n9 (S L (S (C L L) (S (B (S L (S L (C au L)))) L)))))) (S L (S L au)))))) H.akP
def atz:=mk aty func101 H.hX (S L (S (S L (C au L)) (S (S L (S L (C au L))) au))) H.ak0
def atA:=mk atz func46 ax.sX (S L (S (S L (C au L)) au)) ax.aqV
def Qt:=pv atA mm [(256,.e7 aan)] ⟨asl,trivial⟩ func184 H.IE (S L (S L (J [(0,Bc),(3,v2)] [] (S L (B (ax [(0,Bc),(3,v2),(9,Bc),(10,v2),(11,v2)] [] (S L (S (C L L) (J [(0,Bc),(3,v2),(9,Bc),(10,v2),(11,v2)] [] (B (S L (S L (S L (C L L))))) L)))))) (S L (J [(6,.an 50240)] [(50240,sZ)] (S L (B (ax [(6,.an 50240),(25,Bc),(26,v2),(27,v2)] [(50240,sZ)] (S L (S (C L L) (S (B au) L)))))) au))))) H.apT
def aa0:cG:=⟨⟨[(0,.val Dg)],[]⟩,⟨[(0,.an 50240)],[(50240,.bj t3)]⟩,[none],1,H.IF⟩
theorem atB:cO Tryz.prog dD 185 aa0:=d_ Qt [(257,.e7 aam)] ⟨asj,trivial⟩ func185 (S L (S L (J [(0,Bb),(3,v2)] [] (S L (B (ax [(0,Bb),(3,v2),(9,Bb),(10,v2),(11,v2)] [] (S L (S (C L L) (J [(0,Bb),(3,v2),(9,Bb),(10,v2),(11,v2)] [] (B (S L (S L (S L (C L L))))) L)))))) (S L (J [(6,.an 50240)] [(50240,a2)] (S L (B (ax [(6,.an 50240),(25,Bb),(26,v2),(27,v2)] [(50240,a2)] (S L (S (C L L) (S (B au) L)))))) au))))) H.apU
def aa1:cG:=⟨⟨[(0,.an 200001)],[(200001,.bj t3)]⟩,⟨[(0,.sub 200001)],[(200001,.bj t3)]⟩,[none],1,H.IH⟩
theorem atC:cO Tryz.prog dD 186 aa1:=d_ Qt [] trivial func186 (S L (S (S L (C au L)) (J [(0,.an 200001)] [(200001,a2)] (S L (B (ax [(0,.an 200001),(3,v2)] [(200001,a2)] (S (S L (C L L)) (J [(0,.an 200001),(3,v2)] [(200001,a2)] (B (S L (C (S L (J [(0,.an 200001),(3,v2)] [(200001,a2)] (S L (B (ax [(0,.an 200001),(3,v2),(4,.sub 200001),(5,v2)] [(200001,a2)] (S (S L (C L L)) (J [(0,.an 200001),(3,v2),(4,.sub 200001),(5,v2)] [(200001,a2)] (B (S L (C au L))) L))))) (S L au))) L))) L))))) au))) H.ap0
def atD:=mk Qt func187 H.Eo (S L (S (S L (C au L)) au)) H.ap8
def uF:=pv atD mm [(161,.e7 Qf),(185,.e7 aa0),(186,.e7 aa1)] ⟨aal,atB,atC,trivial⟩ func117 H.A3 (S L (S (S L (S L (C au L))) (S L (S L (S (S L (S L (C au L))) (S L (S (S L (C au L)) (S L (S L (S L (S (S L (C au L)) (S L au)))))))))))) H.ap_
def atE:cG:=⟨⟨[(0,.val t22)],[]⟩,⟨[(0,.an 60)],[(60,.bj zR)]⟩,[none],1,ax.qE⟩
theorem atF:cO Tryz.prog dD 188 atE:=d_ uF [] trivial func188 (S L (S (S L (C au L)) au)) ax.wb
abbrev Qu:e1:=.ky (hE.ky (ax.fK kC).du)
theorem aa2:e1.hy Tryz.prog dD 188 Qu:=yu (sh:=(ax.fK kC).sh) atF (λx h=>⟨h,λbn fW=>by have h:bn=_:=fW;subst h;exact (A.gI).symm⟩)
def atG:cG:=⟨⟨[(0,.val Df)],[]⟩,⟨[(0,.an 60)],[(60,.bj xA)]⟩,[none],1,ax.qE⟩
theorem atH:cO Tryz.prog dD 189 atG:=d_ uF [] trivial func189 (S L (S (S L (C au L)) au)) ax.wb
abbrev Qv:e1:=.ky (hE.ky (ax.fK kX).du)
theorem aa3:e1.hy Tryz.prog dD 189 Qv:=yu (sh:=(ax.fK kX).sh) atH (λx h=>⟨h,λbn fW=>by have h:bn=_:=fW;subst h;exact (A.gI).symm⟩)
def atI:cG:=⟨⟨[(0,.val GW)],[]⟩,⟨[(0,.an 60)],[(60,.bj zT)]⟩,[none],1,ax.qE⟩
theorem atJ:cO Tryz.prog dD 190 atI:=d_ uF [] trivial func190 (S L (S (S L (C au L)) au)) ax.wb
abbrev Qw:e1:=.ky (hE.ky (ax.fK jU).du)
theorem aa4:e1.hy Tryz.prog dD 190 Qw:=yu (sh:=(ax.fK jU).sh) atJ (λx h=>⟨h,λbn fW=>by have h:bn=_:=fW;subst h;exact (A.gI).symm⟩)
def Qx:cG:=⟨⟨[(0,.val GV)],[]⟩,⟨[(0,.an 60)],[(60,.bj zS)]⟩,[none],1,ax.qE⟩
theorem aa5:cO Tryz.prog dD 191 Qx:=d_ uF [] trivial func191 (S L (S (S L (C au L)) au)) ax.wb
def aa6:cG:=⟨⟨[(0,.val eW)],[]⟩,⟨[(0,.an 60)],[(60,.bj t3)]⟩,[none],1,ax.IQ⟩
theorem aa7:cO Tryz.prog dD 192 aa6:=d_ uF [] trivial func192 (S L (S (S L (C au L)) au)) ax.aqA
abbrev Qy:e1:=.ky (hE.ky H.oL.du)
theorem aa8:e1.hy Tryz.prog dD 192 Qy:=yu (sh:=H.oL.sh) aa7 (λx h=>⟨h,λbn fW=>by have h:bn=_:=fW;subst h;exact (A.gI).symm⟩)
def atK:cG:=⟨⟨[(0,.val t28)],[]⟩,⟨[(0,.an 60)],[(60,.bj xB)]⟩,[none],1,ax.qE⟩
theorem atL:cO Tryz.prog dD 193 atK:=d_ uF [] trivial func193 (S L (S (S L (C au L)) au)) ax.wb
abbrev Qz:e1:=.ky (hE.ky (ax.fK nd).du)
theorem aa9:e1.hy Tryz.prog dD 193 Qz:=yu (sh:=(ax.fK nd).sh) atL (λx h=>⟨h,λbn fW=>by have h:bn=_:=fW;subst h;exact (A.gI).symm⟩)
def atM:cG:=⟨⟨[(0,.val GX)],[]⟩,⟨[(0,.an 60)],[(60,.bj vg)]⟩,[none],1,ax.qE⟩
theorem atN:cO Tryz.prog dD 194 atM:=d_ uF [] trivial func194 (S L (S (S L (C au L)) au)) ax.wb
abbrev Jp:e1:=.ky (hE.ky (ax.fK mx).du)
theorem QA:e1.hy Tryz.prog dD 194 Jp:=yu (sh:=(ax.fK mx).sh) atN (λx h=>⟨h,λbn fW=>by have h:bn=_:=fW;subst h;exact (A.gI).symm⟩)
def atO:cG:=⟨⟨[(0,.val zU)],[]⟩,⟨[(0,.an 60)],[(60,.bj rf)]⟩,[none],1,ax.qE⟩
theorem atP:cO Tryz.prog dD 195 atO:=d_ uF [] trivial func195 (S L (S (S L (C au L)) au)) ax.wb
abbrev QB:e1:=.ky (hE.ky (ax.fK pJ).du)
theorem aa_:e1.hy Tryz.prog dD 195 QB:=yu (sh:=(ax.fK pJ).sh) atP (λx h=>⟨h,λbn fW=>by have h:bn=_:=fW;subst h;exact (A.gI).symm⟩)
def aa':=pv uF mm [(188,Qu),(189,Qv),(190,Qw),(191,.e7 Qx),(192,Qy),(193,Qz),(194,Jp),(195,QB)] ⟨aa2,aa3,aa4,aa5,aa8,aa9,QA,aa_,trivial⟩ func118 ax.IU (S L (S L (S L (J Bd Jo (S L (B (ax Jk Jo (S L (S (C L L) (J Jk Jn (B (S L (S L (S (.mK 5 L) (S L (B (ax aaD Jn (S L (S (C L L) (S (B au) L)))))))))) (.Cs 22 L))))))) (S L (J Bd wh (S L (B (ax [(1,.a1 1 0),(2,.a1 2 0),(100,v2),(101,v2)] wh (S L (S (C L L) (S (B au) L)))))) (J Bd wh (S L (B (ax [(1,.a1 1 0),(2,.a1 2 0),(119,v2),(120,v2)] wh (S L (S (C L L) (S (B au) L)))))) au))))))) ax.aqE
def aba:cG:=⟨⟨[(0,.val wk)],[]⟩,⟨[(0,.a1 17 0)],[(17,.fV qm)]⟩,[none],1,ax.uc⟩
theorem atQ:cO Tryz.prog dD 57 aba:=d_ aa' [] trivial func57 (S L (S L au)) ax.Ob
def EH:=mk aa' func58 ax.I0 (S L au) ax.aqR
def Jq:cG:=⟨⟨[(0,.a1 100000 0),(1,.val nU),(2,.val eW)],[(100000,.fV qm)]⟩,⟨[(0,.val t9)],[(100000,.fV qm)]⟩,[none],3,ax.A6⟩
theorem QC:cO Tryz.prog dD 196 Jq:=d_ EH [] trivial func196 (S L (S L (S (S L (C au L)) (S L au)))) ax.aqh
def QD:cG:=k2 (ax.ft 5 ax.Py)
theorem atS:cO Tryz.prog dD 119 QD:=d_ EH [(196,.e7 Jq)] ⟨QC,trivial⟩ func119 (S L au) ax.aqi
def atT:cG:=k2 (ax.ft 4 ax.Pz)
theorem atU:cO Tryz.prog dD 120 atT:=d_ EH [(196,.e7 Jq)] ⟨QC,trivial⟩ func120 (S L au) ax.aqj
def atV:cG:=k2 (ax.ft 1 ax.PA)
theorem atW:cO Tryz.prog dD 121 atV:=d_ EH [(196,.e7 Jq)] ⟨QC,trivial⟩ func121 (S L au) ax.Oc
def atX:=mk EH func339 H.Hl (S L au) H.akr
def atY:=mk atX func280 H.Hm (S L (S L (S L (S (S L (C (S (S L (C au L)) au) L)) (S (S L (C au L)) (S (S L (C au L)) (S (S L (C au L)) au))))))) H.aks
def atZ:=mk atY func279 H.lX (S L au) H.akt
def at0:=mk atZ func211 HV (S L (J [] [] (S L (B (ax [(0,dU),(1,v2),(7,v2),(8,v2)] [] (S L (S (C L L) (S (B (S L (S L (C au L)))) L)))))) au)) anx
def at1:=mk at0 func157 oK (S L au) anz
def EI:=jO at1 [] func156 H.As 1 (S L au) H.Oc
abbrev yz:=zW (aiv EI) [(156,1)] []
def abb:cG:=⟨⟨[(0,.val nU)],[]⟩,⟨[(0,.an 9),(1,.val t4)],[(9,.bj h_)]⟩,[none,none],1,H.Ht⟩
theorem at2:cO Tryz.prog yz 154 abb:=d_ EI [] trivial func154 (S L (S L (J [(4,.fb 12)] [(12,.mp t2 h_)] (S L (B (ax [(4,.fb 12),(13,oX),(14,v2),(15,v2)] [(12,.mp t2 h_)] (S L (S (C L L) (S (B (S L (S (S L (S L (C au L))) L))) L)))))) (S L (J [(9,.an 9)] [(9,sZ)] (S L (B (ax [(4,.fb 12),(9,.an 9),(39,dU),(40,v2),(41,v2)] [(9,sZ),(12,.iQ t2 h_)] (S L (S (C L L) (S (B au) L)))))) au))))) H.akZ
def abc:cG:=⟨⟨[(0,.an 200001),(1,.val MU)],[(200001,.bj h_)]⟩,⟨[(0,.sub 200001)],[(200001,.bj h_)]⟩,[none],2,H.Hv⟩
theorem at3:cO Tryz.prog yz 155 abc:=d_ EI [] trivial func155 (S L (S L (S (S L (C au L)) (J [(0,.an 200001),(5,v2)] [(200001,sZ)] (S L (B (ax [(0,.an 200001),(1,Qn),(5,v2),(6,v2)] [(200001,sZ)] (S (S L (C L L)) (J [(0,.an 200001),(1,Qn),(5,v2),(6,v2)] [(200001,sZ)] (B (S L (S L (C au L)))) L))))) (S L au))))) H.ak1
def at4:=mk EI func192 H.oL (S L (S (S L (C au L)) au)) H.akp
def at5:=mk at4 func291 H.NR (S L (J [(0,v228),(2,v2)] [] (S L (C au L)) (J [(0,v228),(2,v2)] [] (S L (C au L)) (J [(0,v228),(2,v2)] [] (S L (C au L)) au)))) H.aku
def Bg:=mk at5 func215 H.NS (S L (S (C au L) au)) (H.akv (λ_=>A.fail))
def abd:cG:=⟨⟨[(0,.an 200001),(1,.val t2),(2,.val t2),(3,.val Di)],[(200001,.bj qn)]⟩,⟨[],[(200001,.bj qn)]⟩,[],4,H.Ho⟩
theorem at6:cO Tryz.prog yz 375 abd:=d_ Bg [] trivial func375 (S L (B (ax [(0,.an 200001),(1,v2),(2,v2),(3,Jj),(8,v2)] [(200001,gO)] (S (S L (C L L)) (J [(0,.an 200001),(1,v2),(2,v2),(3,Jj),(8,v2)] [(200001,gO)] (B (S L (B (ax [(0,.an 200001),(1,v2),(2,v2),(3,Jj),(8,v2),(9,v2)] [(200001,gO)] (S (S L (C L L)) (S (B L) L)))))) L))))) H.akE
def abe:cG:=⟨⟨[(0,.an 200001),(1,.val t2),(2,.val t2),(3,.val t2),(4,.val Di)],[(200001,.bj qn)]⟩,⟨[],[(200001,.bj qn)]⟩,[],5,H.Hq⟩
theorem at7:cO Tryz.prog yz 338 abe:=d_ Bg [(375,.e7 abd)] ⟨at6,trivial⟩ func338 (S L (S L (B (ax [(0,.an 200001),(1,v2),(2,v2),(3,v2),(4,Jj),(10,v4),(11,v4)] [(200001,gO)] (B (S L (S (S L (C au L)) L))))))) H.akF
def abf:cG:=⟨⟨[(0,.an 200001),(1,.val Di)],[(200001,.bj qn)]⟩,⟨[],[(200001,.bj qn)]⟩,[],2,H.Ac⟩
theorem aua:cO Tryz.prog yz 278 abf:=d_ Bg [(338,.e7 abe)] ⟨at7,trivial⟩ func278 au H.akH
def abg:cG:=⟨⟨[(0,.a1 100000 0),(1,.val eW)],[(100000,.cells rh [.val ql,.val nU,.val eW,.val ql,.val t2,.val t2,.val t2,.val t2,.val t2,.val t2,.val t2,.val nU,.an 100002]),(100002,.bj pq)]⟩,⟨[(0,.val pq),(1,.val t4)],[(100000,.cells rh [.val ql,.val nU,.val eW,.val ql,.val t2,.val t2,.val t2,.val t2,.val t2,.val t2,.val t2,.val nU,.an 100002]),(100002,.bj pq)]⟩,[none,none],2,H.uc⟩
theorem aub:cO Tryz.prog yz 212 abg:=d_ Bg [(278,.e7 abf)] ⟨aua,trivial⟩ func212 (S L (J [(0,.a1 100000 0),(1,dU),(6,.a1 17 0)] [(17,.cells Dh [dU,.an 30000,.an 30001,.an 30002,.an 30003,.an 30004,.an 30005,.an 30006,.an 30007,.an 30008,.an 30009]),(100000,.cells rh [nu,oX,dU,nu,v2,v2,v2,v2,v2,v2,v2,oX,.an 100002]),(100002,EE),(30000,gO),(30001,gO),(30002,gO),(30003,gO),(30004,gO),(30005,gO),(30006,gO),(30007,gO),(30008,gO),(30009,gO)] L (J [(6,.a1 17 0)] jx (S L (B (ax [(1,dU),(6,.a1 17 0),(21,oX),(22,v2),(23,v2)] jx (S L (S (C L L) (J [(1,dU),(6,.a1 17 0),(21,oX),(22,v2),(23,v2)] jx (B (S L (.split 8 4 10 L))) L)))))) (J [(6,.a1 17 0)] jx (S L (B (.nM (.num 57 0 (S L (S (C L L) (J nh jx (B (S L (S L (S L (B (ax [(6,.a1 17 0),(10,.an 30000),(56,.hD [30000,30001,30002,30003,30004,30005,30006,30007,30008,30009]),(57,v2),(62,.an 30000),(63,v2),(64,v2)] jx (S L (S (C L L) (S (B (S L (S L (J [(6,.a1 17 0),(10,.an 30000),(11,v2),(12,.a1 12 0),(13,v2),(56,.hD [30000,30001,30002,30003,30004,30005,30006,30007,30008,30009]),(57,v2),(62,.an 30000),(63,v2),(64,v2)] s4 (S L (C L L)) (S L (C au L)))))) L))))))))) L)))) (.nM (.num 57 1 (S L (S (C L L) (J nh jx (B (S L (S L (S L (B (ax [(6,.a1 17 0),(10,.an 30001),(56,.hD [30000,30001,30002,30003,30004,30005,30006,30007,30008,30009]),(57,v2),(62,.an 30001),(63,v2),(64,v2)] jx (S L (S (C L L) (S (B (S L (S L (J [(6,.a1 17 0),(10,.an 30001),(11,v2),(12,.a1 12 0),(13,v2),(56,.hD [30000,30001,30002,30003,30004,30005,30006,30007,30008,30009]),(57,v2),(62,.an 30001),(63,v2),(64,v2)] s4 (S L (C L L)) (S L (C au L)))))) L))))))))) L)))) (.nM (.num 57 2 (S L (S (C L L) (J nh jx (B (S L (S L (S L (B (ax [(6,.a1 17 0),(10,.an 30002),(56,.hD [30000,30001,30002,30003,30004,30005,30006,30007,30008,30009]),(57,v2),(62,.an 30002),(63,v2),(64,v2)] jx (S L (S (C L L) (S (B (S L (S L (J [(6,.a1 17 0),(10,.an 30002),(11,v2),(12,.a1 12 0),(13,v2),(56,.hD [30000,30001,30002,30003,30004,30005,30006,30007,30008,30009]),(57,v2),(62,.an 30002),(63,v2),(64,v2)] s4 (S L (C L L)) (S L (C au L)))))) L))))))))) L)))) (.nM (.num 57 3 (S L (S (C L L) (J nh jx (B (S L (S L (S L (B (ax [(6,.a1 17 0),(10,.an 30003),(56,.hD [30000,30001,30002,30003,30004,30005,30006,30007,30008,30009]),(57,v2),(62,.an 30003),(63,v2),(64,v2)] jx (S L (S (C L L) (S (B (S L (S L (J [(6,.a1 17 0),(10,.an 30003),(11,v2),(12,.a1 12 0),(13,v2),(56,.hD [30000,30001,30002,30003,30004,30005,30006,30007,30008,30009]),(57,v2),(62,.an 30003),(63,v2),(64,v2)] s4 (S L (C L L)) (S L (C au L)))))) L))))))))) L)))) (.nM (.num 57 4 (S L (S (C L L) (J nh jx (B (S L (S L (S L (B (ax [(6,.a1 17 0),(10,.an 30004),(56,.hD [30000,30001,30002,30003,30004,30005,30006,30007,30008,30009]),(57,v2),(62,.an 30004),(63,v2),(64,v2)] jx (S L (S (C L L) (S (B (S L (S L (J [(6,.a1 17 0),(10,.an 30004),(11,v2),(12,.a1 12 0),(13,v2),(56,.hD [30000,30001,30002,30003,30004,30005,30006,30007,30008,30009]),(57,v2),(62,.an 30004),(63,v2),(64,v2)] s4 (S L (C L L)) (S L (C au L)))))) L))))))))) L)))) (.nM (.num 57 5 (S L (S (C L L) (J nh jx (B (S L (S L (S L (B (ax [(6,.a1 17 0),(10,.an 30005),(56,.hD [30000,30001,30002,30003,30004,30005,30006,30007,30008,30009]),(57,v2),(62,.an 30005),(63,v2),(64,v2)] jx (S L (S (C L L) (S (B (S L (S L (J [(6,.a1 17 0),(10,.an 30005),(11,v2),(12,.a1 12 0),(13,v2),(56,.hD [30000,30001,30002,30003,30004,30005,30006,30007,30008,30009]),(57,v2),(62,.an 30005),(63,v2),(64,v2)] s4 (S L (C L L)) (S L (C au L)))))) L))))))))) L)))) (.nM (.num 57 6 (S L (S (C L L) (J nh jx (B (S L (S L (S L (B (ax [(6,.a1 17 0),(10,.an 30006),(56,.hD [30000,30001,30002,30003,30004,30005,30006,30007,30008,30009]),(57,v2),(62,.an 30006),(63,v2),(64,v2)] jx (S L (S (C L L) (S (B (S L (S L (J [(6,.a1 17 0),(10,.an 30006),(11,v2),(12,.a1 12 0),(13,v2),(56,.hD [30000,30001,30002,30003,30004,30005,30006,30007,30008,30009]),(57,v2),(62,.an 30006),(63,v2),(64,v2)] s4 (S L (C L L)) (S L (C au L)))))) L))))))))) L)))) (.nM (.num 57 7 (S L (S (C L L) (J nh jx (B (S L (S L (S L (B (ax [(6,.a1 17 0),(10,.an 30007),(56,.hD [30000,30001,30002,30003,30004,30005,30006,30007,30008,30009]),(57,v2),(62,.an 30007),(63,v2),(64,v2)] jx (S L (S (C L L) (S (B (S L (S L (J [(6,.a1 17 0),(10,.an 30007),(11,v2),(12,.a1 12 0),(13,v2),(56,.hD [30000,30001,30002,30003,30004,30005,30006,30007,30008,30009]),(57,v2),(62,.an 30007),(63,v2),(64,v2)] s4 (S L (C L L)) (S L (C au L)))))) L))))))))) L)))) (.nM (.num 57 8 (S L (S (C L L) (J nh jx (B (S L (S L (S L (B (ax [(6,.a1 17 0),(10,.an 30008),(56,.hD [30000,30001,30002,30003,30004,30005,30006,30007,30008,30009]),(57,v2),(62,.an 30008),(63,v2),(64,v2)] jx (S L (S (C L L) (S (B (S L (S L (J [(6,.a1 17 0),(10,.an 30008),(11,v2),(12,.a1 12 0),(13,v2),(56,.hD [30000,30001,30002,30003,30004,30005,30006,30007,30008,30009]),(57,v2),(62,.an 30008),(63,v2),(64,v2)] s4 (S L (C L L)) (S L (C au L)))))) L))))))))) L)))) (.nM (.num 57 9 (S L (S (C L L) (J nh jx (B (S L (S L (S L (B (ax [(6,.a1 17 0),(10,.an 30009),(56,.hD [30000,30001,30002,30003,30004,30005,30006,30007,30008,30009]),(57,v2),(62,.an 30009),(63,v2),(64,v2)] jx (S L (S (C L L) (S (B (S L (S L (J [(6,.a1 17 0),(10,.an 30009),(11,v2),(12,.a1 12 0),(13,v2),(56,.hD [30000,30001,30002,30003,30004,30005,30006,30007,30008,30009]),(57,v2),(62,.an 30009),(63,v2),(64,v2)] s4 (S L (C L L)) (S L (C au L)))))) L))))))))) L)))) (.nM (.num 57 10 (S L (S (C L L) L))) L))))))))))))) au)))) H.Ob
def QE (f:Nat):cG:=⟨⟨[(0,.a1 100000 0),(1,.val eW)],[(100000,.cells rh [.val ql,.val nU,.val eW,.val ql,.val t2,.val t2,.val t2,.val t2,.val t2,.val t2,.val t2,.val nU,.an 100002]),(100002,.bj pq)]⟩,⟨[],[(100000,.cells rh [.val ql,.val nU,.val eW,.val ql,.val t2,.val t2,.val t2,.val t2,.val t2,.val t2,.val t2,.val nU,.an 100002]),(100002,.bj pq)]⟩,[],2,H.xV f⟩
theorem abh:∀f,cO Tryz.prog yz 158 (QE f)
 |0=>MX func158 H.alA
 |f+1=>d_ Bg [(158,.e7 (QE f)),(212,.e7 abg)] ⟨abh f,aub,trivial⟩ func158 (S L (S (S L (C (J [] aaV (S L (S L (C L L))) L) L)) (S L (B (ax [(0,.a1 100000 0),(1,dU),(4,v2),(7,v2)] aaV (S (S L (C L L)) (S (B L) L))))))) (H.alD f)
def auc:=pv Bg (EI.u [(156,1)] [] trivial) [(154,.e7 abb),(155,.e7 abc),(158,.e7 (QE 5))] ⟨at2,at3,abh 5,trivial⟩ func74 H.vA (S L (S (S L (S L (C au L))) (S L (S L (S L (J [(7,.a1 15 0)] [(15,.cells rh [nu,oX,dU,nu,v2,v2,v2,v2,v2,v2,v2,.sub 50200,.an 30000]),(50200,sZ),(30000,EE)] (S L (C au L)) (S L (S (S L (C au L)) au)))))))) H.alH
def aud:=mk auc func77 H.Au (S L (J [(4,.a1 4 0),(5,v4)] [(4,Qi)] (S L (B (ax aaQ [(4,Qi)] (S L (S (C L L) (J aaQ [(4,Qi)] (B (S L (S L (B (S L (C L (S L (C L L)))))))) L)))))) au)) H.alI
def aue:=jO aud [] func152 H.Az 1 (S L au) H.al2
def auf:=jO aue [(152,1)] func150 H.On 1 (S L au) H.al3 (hc:=λx h=>by obtain ⟨_,f,aw,_⟩:=h;exact sk ⟨trivial,ri aw⟩)
def QF:=mk auf func89 H.vx (S L (S L (J [(7,v2)] [] (S L (B (ax [(1,v2),(2,v2),(7,v2),(14,nu),(15,v2),(16,v2)] [] (S L (S (C L L) (S (B au) L)))))) au))) H.ak_
def abi:cG:=⟨⟨[(0,.g_),(1,.dW pq),(2,.dW vh),(1000000,.aW (.aA h_ t2))],[]⟩,⟨[(1000000,.aW (.aA h_ t2))],[]⟩,[],3,(H.Hf H.vx.sh)⟩
theorem aug:cO Tryz.prog dD 159 abi:=d_ (S:=(H.Hf H.vx.sh)) QF [] trivial func159 (S L (B (ax aaJ [] (S L (S (C L L) (J aaJ [] (B (S L (S L (B (ax [(0,.g_),(2,.dW vh),(5,aau),(6,v2),(10,aav),(11,v2),(1000000,.aW (.aA h_ t2))] [] (S (S L (C L L)) (S (B (S L (C L L))) L))))))) L)))))) (λx=>A.le_refl _)
theorem auh:wv Tryz.prog 159 ⟨[pq,vh],(.aA h_ t2),H.sI⟩:=MI (c:=abi) aug mm (λx l L=>(l,x.1.getD none,x.2.getD none,(l,L,[],false),())) rfl (by decide) (by simp [f_])
 (λx l L i aj=>by
  obtain ⟨T,aV⟩:=aj;obtain ⟨t,b,G,V,ar,_⟩:=aV;obtain ⟨wJ,wI⟩:=x;change wJ=some (some t) at G;change wI=some (some b) at V;subst G;subst V;by_cases aY:i=0
  ·subst aY;exact .inr (.inr (.inl ⟨rfl,rfl⟩))
  ·by_cases G:i=1
   ·subst G;exact .inr (.inl ⟨by decide,by decide,_,_,rfl,rfl⟩)
   by_cases ah:i=2
   ·subst ah;exact .inr (.inl ⟨by decide,by decide,_,_,rfl,rfl⟩)
   by_cases V:i=b5
   ·subst V;exact .inr (.inr (.inr ⟨rfl,rfl⟩))
   ·refine .inl ?_;exact (if_neg aY).trans ((if_neg G).trans ((if_neg ah).trans (if_neg V))))
 rfl (λbn=>⟨_,_,_,_,rfl⟩) (λx l aj=>by
  obtain ⟨T,aV⟩:=aj;obtain ⟨t,b,G,V,ar,_⟩:=aV;obtain ⟨wJ,wI⟩:=x;change wJ=some (some t) at G;change wI=some (some b) at V;subst G;subst V;have h:=H.alN l t b ar;refine ⟨h.1,λbn fW dG e2 p fi=>?_⟩;have e:aI.aW bn.1.1 (.aA h_ t2) bn.1.2.1 bn.1.2.2.1 bn.1.2.2.2=.aW dG (.aA h_ t2) e2 p false:=fi;injection e with aF bB di gv h1
  rw [<-gv];exact h.2 bn fW h1)
def aui:=pv QF (QF.u [] [(159,⟨[pq,vh],(.aA h_ t2),H.sI⟩)] ⟨auh,trivial⟩) [] trivial func79 H.Av (S L au) H.alR
def auj:=jO aui [] func153 H.Oo 1 (S L (S (S L (B (cc [(2,.dW t2),(3,.dW MP),(5,.a1 5 0),(6,.a1 6 0)] [(5,.cells t2 [v2]),(6,.cells t4 [v4])] [(2,.dW t2),(3,.dW MP),(5,.a1 100005 0),(6,.a1 100006 0),(12,aar),(13,v2)] [(100005,.cells t2 [v2]),(100006,.cells t4 [v4])] [] [(100005,.cells t2 [v2]),(100006,.cells t4 [v4])] au (B (S L (C au L)))))) au)) H.al4 (hc:=λx h=>by obtain ⟨_,_,_,_,rfl,_⟩:=h;exact sk ⟨⟨⟨trivial,rfl⟩,rfl⟩,rfl⟩)
def auk:=lU auj [(150,1),(153,1)] func70 H.AA (S L (S L (S (S L (C au L)) (S L (S (S L (C au L)) au))))) H.al5
def aul:=mk auk func71 H.xX (S L au) H.al6
def aum:=lU aul [] func34 H.HC (S L au) H.al7
def aun:=mk aum func199 ax.ym (S L (S (S L (C au L)) (S L (J [(3,.an 3)] [(3,a9)] (S L (B (ax [(3,.an 3),(9,dU),(10,v2),(11,v2)] [(3,a9)] (S L (S (C L L) (S (B au) L)))))) au)))) ax.aqe
def auo:=mk aun func198 ax.qD (S L (S (S L (B (S L (C au (S L (C au L)))))) au)) ax.aqf
def abj:=mk auo func197 ax.yn (S L au) ax.aqg
def aup:cG:=k2 (ax.ft 1 ax.PB)
theorem auq:cO Tryz.prog dD 122 aup:=d_ abj [] trivial func122 (S L au) ax.aqk
def aur:=mk abj func73 H.vy (S L (S (S L (C au L)) au)) H.ala
def aus:=jO aur [] func72 H.xY 1 (S L au) H.al8
def abk:=lU aus [(72,1)] func35 H.HE (S L au) H.al_
def aut:cG:=k2 (ax.ft 1 ax.PC)
theorem auu:cO Tryz.prog dD 123 aut:=d_ abk [] trivial func123 (S L au) ax.aql
def auv:=jO abk [] func75 H.Oq 1 (S L au) H.al'
def auw:=jO auv [] func78 H.Ot 1 (S L (S L (S (S L (B (cc [(2,.dW t2),(3,.dW s6),(7,.a1 7 0)] [(7,.cells t2 [v2])] [(2,.dW t2),(3,.dW s6),(7,.a1 100007 0),(13,aar),(14,v2)] [(100007,.cells t2 [v2])] [] [(100007,.cells t2 [v2])] au (B (S L (C L L)))))) au))) H.ama (hc:=λx h=>by obtain ⟨_,_,_,_,rfl,_⟩:=h;exact sk ⟨⟨⟨trivial,rfl⟩,rfl⟩,rfl⟩)
def abl:=lU auw [(75,1),(78,1)] func36 H.HG (S L (S L (S (S L (C au L)) (S L au)))) H.amd
def auy:cG:=k2 (ax.ft 1 ax.PD)
theorem auz:cO Tryz.prog dD 124 auy:=d_ abl [] trivial func124 (S L au) ax.aqm
def auA:=mk abl func81 H.xP (S L au) H.ake
def auB:=jO auA [] func80 H.AB 1 (S L au) H.XI
def auC:=mk auB func83 H.xZ (S L (S L (S L (J [(6,.a1 6 0),(8,.a1 8 0),(9,v4)] [(6,yx),(8,yx)] (S L (B (ax aaK [(6,yx),(8,yx)] (S L (S (C L L) (J aaK [(6,yx),(8,yx)] (B (S L (S L (C L L)))) L)))))) au)))) H.amf
def auD:=jO auC [] func82 H.Ox 1 (S L (S L (J [(6,v2)] [] (S L (B (ax [(0,aat),(1,.dW t2),(2,.dW s6),(6,v2),(10,v2)] [] (S L (S (C L L) (J [(0,aat),(1,.dW t2),(2,.dW s6),(6,v2),(10,v2)] [] (B (S L (S L (S L (C L L))))) L)))))) au))) H.ami (hc:=λx h=>by obtain ⟨_,_,_,rfl,_⟩:=h;exact sk ⟨⟨trivial,rfl⟩,rfl⟩)
def abm:=lU auD [(80,1),(82,1)] func37 H.HI (S L (S L (S (S L (C au L)) (S L au)))) H.amk
def auE:cG:=k2 (ax.ft 1 ax.PE)
theorem auF:cO Tryz.prog dD 125 auE:=d_ abm [] trivial func125 (S L au) ax.aqn
def QG:=jO abm [] func84 H.OA 1 (S L au) H.amo (hc:=λx h=>by obtain ⟨a,b,aw⟩:=h;exact sk ⟨⟨trivial,ri (congrArg (λo=>o.1) aw)⟩,ri (congrArg (λo=>o.2) aw)⟩)
def abn:cG:=⟨⟨[(0,.g_),(1,.dW GY),(1000000,.aW t2)],[]⟩,⟨[(1000000,.aW t2)],[]⟩,[],2,H.NM⟩
theorem auG:cO Tryz.prog dD 162 abn:=d_ (S:=H.NM) QG [] trivial func162 (S L (B (ax [(0,.g_),(5,.j0 5),(1000000,.aW t2)] [(5,.cq t2 t2)] (S L (S (C L L) (B (S L (S L (C L L))))))))) (λx=>A.le_refl _)
theorem auH:wv Tryz.prog 162 ⟨[GY],t2,H.jQ⟩:=MI (c:=abn) auG mm (λx l L=>(l,x.getD [],(l,L,[],false),())) rfl (by decide) (by simp [f_])
 (λx l L i aj=>by
  obtain ⟨T,aV⟩:=aj;obtain ⟨m,hm,_⟩:=aV;subst hm;by_cases aY:i=0
  ·subst aY;exact .inr (.inr (.inl ⟨rfl,rfl⟩))
  ·by_cases G:i=1
   ·subst G;exact .inr (.inl ⟨by decide,by decide,_,_,rfl,rfl⟩)
   by_cases V:i=b5
   ·subst V;exact .inr (.inr (.inr ⟨rfl,rfl⟩))
   ·refine .inl ?_;exact (if_neg aY).trans ((if_neg G).trans (if_neg V)))
 rfl (λbn=>⟨_,_,_,_,rfl⟩) (λx l aj=>by
  obtain ⟨T,aV⟩:=aj;obtain ⟨m,hm,_⟩:=aV;subst hm;have h:=H.alJ l m;refine ⟨h.1,λbn fW dG e2 p fi=>?_⟩;have e:aI.aW bn.1.1 t2 bn.1.2.1 bn.1.2.2.1 bn.1.2.2.2=.aW dG t2 e2 p false:=fi;injection e with aF bB di gv h1
  rw [<-gv];exact h.2 bn fW h1)
def auI:=pv QG (QG.u [] [(162,⟨[GY],t2,H.jQ⟩)] ⟨auH,trivial⟩) [] trivial func87 H.Hr (S L au) H.akM
def abo:=lU auI [(84,1)] func38 H.HJ (S L (S L (S (S L (C au L)) (S L (J [(10,.fb 24)] [(24,.mp t2 t2)] (S L (B (ax aaL [(4,.gD t2),(5,.gD t2),(24,.mp t2 t2)] (S L (S (C L L) (J aaL [(4,.gD t2),(5,.gD t2),(24,.mp t2 t2)] (B (S L (S L (S L (C L L))))) L)))))) au))))) H.amp
def auJ:cG:=k2 (ax.ft 2 ax.PG)
theorem auK:cO Tryz.prog dD 126 auJ:=d_ abo [] trivial func126 (S L (S L (S (S L (C au L)) (S (S L (C au L)) au)))) ax.aqq
def auL:=jO abo [] func88 H.AB 1 (S L au) H.amh
def abp:=lU auL [(88,1)] func39 H.HK (S L (S L (S (S L (C au L)) (J [(4,.an 4),(5,.an 5)] [(4,a2),(5,a2)] (S L (B (ax aaM Bf (S L (S (C L L) (J aaM Bf (B (S L (S L (J aaG Bf (S L (B (ax aaB Bf (S L (S (C L L) (J aaB Bf (B (S L (S L (S L (C L L))))) L)))))) (J aaG Bf (S L (C L L)) (S L (C L L))))))) L)))))) au)))) H.amu
def auM:cG:=k2 (ax.ft 1 ax.PI)
theorem auN:cO Tryz.prog dD 127 auM:=d_ abp [] trivial func127 (S L (S L (S (S L (C au L)) au))) ax.aqs
def auO:=mk abp func143 D4 (S L (S L au)) anK
def auP:=jO auO [] func142 x4 1 (S L au) anL (hc:=λx h=>by obtain ⟨i,w,n,aw,_⟩:=h;exact sk ⟨⟨⟨trivial,ri (congrArg (λo=>o.1) aw)⟩,ri (congrArg (λo=>o.2.1) aw)⟩,ri (congrArg (λo=>o.2.2) aw)⟩)
def auQ:=lU auP [(142,1)] func63 AN (S L (S (S L (S L (C au L))) (S (S L (C au L)) (S L (J [(7,.a1 22 0)] [(22,.cells xC [v22,rH,v2,sY,.an 61]),(61,EC)] (S L (B (ax [(2,.a1 2 0),(7,.a1 22 0),(24,v22),(25,v2),(26,v2)] aaW (S L (S (C L L) (J [(2,.a1 2 0),(7,.a1 22 0),(24,v22),(25,v2),(26,v2)] aaW (B (S L (S L (J [(2,.a1 2 0),(7,.a1 22 0),(10,.an 10),(24,v22),(25,v2),(26,v2)] [(2,.gD tU),(10,a2),(22,.cells xC [v22,rH,v2,sY,.an 61]),(61,EC)] (S L (B (ax aaA [(2,.gD tU),(8,.gD t2),(9,aax),(10,a2),(11,.cells t2 [v2]),(22,.cells xC [v22,rH,v2,sY,.an 61]),(61,EC)] (S (S L (C L L)) (J aaA [(2,.gD tU),(8,.gD t2),(9,aax),(10,a2),(11,.gD t2),(22,.cells xC [v22,rH,v2,sY,.an 61]),(61,EC)] (B (S L (S L (C L L)))) (S au L)))))) (S (S L (C au L)) L))))) L)))))) au))))) anQ
def Dw:=mk auQ func24 x2 (S L (S L (S (S L (C au L)) (S L au)))) anY
def Bh:cG:=⟨⟨[(0,.val oY)],[]⟩,⟨[(0,.val t22),(1,.val Df),(2,.val t2),(3,.an 28),(4,.an 11),(5,.an 16),(6,.an 20),(7,.an 24),(8,.val t2)],[(28,.bj zT),(11,.bj t2),(16,.bj xB),(20,.bj vg),(24,.bj rf)]⟩,[some 9],1,ax.wc⟩
theorem EJ:cO Tryz.prog dD 118 Bh:=d_ Dw [(188,Qu),(189,Qv),(190,Qw),(191,.e7 Qx),(192,Qy),(193,Qz),(194,Jp),(195,QB)] ⟨aa2,aa3,aa4,aa5,aa8,aa9,QA,aa_,trivial⟩ func118 (S L (S L (S L (J Bd Jo (S L (B (ax Jk Jo (S L (S (C L L) (J Jk Jn (B (S L (S L (S (.mK 5 L) (S L (B (ax aaD Jn (S L (S (C L L) (S (B au) L)))))))))) (.Cs 22 L))))))) (S L (J Bd wh (S L (B (ax [(1,.a1 1 0),(2,.a1 2 0),(100,v2),(101,v2)] wh (S L (S (C L L) (S (B au) L)))))) (J Bd wh (S L (B (ax [(1,.a1 1 0),(2,.a1 2 0),(119,v2),(120,v2)] wh (S L (S (C L L) (S (B au) L)))))) au))))))) ax.aqD
def auR:cG:=k2 (ax.ft 4 ax.yh)
theorem auS:cO Tryz.prog dD 128 auR:=d_ Dw [(118,.e7 Bh)] ⟨EJ,trivial⟩ func128 (S L (S L (S L (S L (S (S L (C au L)) (S (S L (S L (C au L))) (S L au))))))) ax.aqH
def auT:=mk Dw func146 HT (S L (S (S L (B (S L (C au (S L (C au L)))))) au)) anR
def auU:=mk auT func66 H0 (S L (S L (J [(0,aaq),(1,v2),(9,v2)] [] (S L (B (ax aaN [] (S L (S (C L L) (J aaN [] (B (S L (S L (C L L)))) L)))))) au))) anW
def rl:=mk auU func23 AK (S L (S L (S (S L (C au L)) au))) an0
def auV:cG:=k2 (ax.ft 3 ax.PJ)
theorem auW:cO Tryz.prog dD 129 auV:=d_ rl [] trivial func129 (S L (S L (S (S L (C au L)) au))) ax.aqu
def EK:cG:=⟨⟨[(0,.a1 100000 0),(1,.val oY)],[(100000,.fV qm)]⟩,⟨[(0,.val t9)],[(100000,.fV qm)]⟩,[none],2,ax.we⟩
theorem Jr:cO Tryz.prog dD 200 EK:=d_ rl [] trivial func200 (S L (S (S L (C au L)) (S L au))) ax.aqF
def auX:cG:=k2 (ax.ft 2 ax.yi)
theorem auY:cO Tryz.prog dD 130 auX:=d_ rl [(118,.e7 Bh),(200,.e7 EK)] ⟨EJ,Jr,trivial⟩ func130 (S L (S L (S (S L (C au L)) (S L au)))) ax.aqI
def auZ:cG:=k2 (ax.ft 3 ax.PK)
theorem au0:cO Tryz.prog dD 131 auZ:=d_ rl [(118,.e7 Bh),(200,.e7 EK)] ⟨EJ,Jr,trivial⟩ func131 (S L (S L (S L au))) ax.aqJ
def au1:cG:=k2 (ax.ft 4 ax.PL)
theorem au2:cO Tryz.prog dD 132 au1:=d_ rl [(118,.e7 Bh),(200,.e7 EK)] ⟨EJ,Jr,trivial⟩ func132 (S L (S L (S L au))) ax.aqK
def au3:cG:=k2 (ax.ft 5 ax.PM)
theorem au4:cO Tryz.prog dD 133 au3:=d_ rl [(118,.e7 Bh),(200,.e7 EK)] ⟨EJ,Jr,trivial⟩ func133 (S L (S L (S L au))) ax.aqL
def abq:cG:=⟨⟨[(0,.an 200001),(1,.val t3),(2,.val t3)],[(200001,.bj vg)]⟩,⟨[(0,.sub 200001)],[(200001,.bj vg)]⟩,[none],3,(ax.IS ax.IW)⟩
theorem au5:cO Tryz.prog dD 201 abq:=d_ rl [] trivial func201 (S L (S L (S (S L (C au L)) (S L (S L (S L au)))))) (ax.aqB ax.IW)
def au6:cG:=k2 (ax.ft 1 ax.yj)
theorem au7:cO Tryz.prog dD 134 au6:=d_ rl [(194,Jp),(201,.e7 abq)] ⟨QA,au5,trivial⟩ func134 (S L (S (S L (C au L)) (S .FX au))) ax.aqM
def au8:=mk rl func217 sM (S L (S L (S L (S L (S L (S L (S L (S L (S L (S L (S L au))))))))))) aoq
def au9:=mk au8 func165 sM (S L (S (C (S L au) L) (S L au))) (aos (λ_=>A.fail))
def au_:=mk au9 func163 Ib (S L (J [(0,nu),(1,v2)] [] (S L (C L L)) (S L (J [(0,nu),(6,v228)] [] (S L (C L L)) (S L (S L (J [(7,.an 30)] [(30,Ji)] (B (ax [(7,.an 30),(8,v2)] [(30,Ji)] (S (S L (C L L)) (B L)))) au))))))) aoA
def au':=mk au_ func90 AS (S L (S (S L (S L (C au L))) (S (S L (C au L)) (S L (J [(2,.a1 2 0),(7,.a1 30 0)] wi (S L (C (S L (S L (C au L))) L)) (J [(2,.a1 2 0),(7,.a1 30 0)] wi (S L (B (ax [(2,.a1 2 0),(7,.a1 30 0),(46,v2),(47,v2)] wi (S L (S (C L L) (J [(2,.a1 2 0),(7,.a1 30 0),(46,v2),(47,v2)] wi (B (S L (S L (B (ax aaH wi (S L (S (C L L) (J aaH wi (B (S L (S L (B (ax aaC wi (S L (S (C L L) (J aaC wi (B (S L (S L (S L (C L L))))) L)))))))) L)))))))) L)))))) (J [(2,.a1 2 0),(7,.a1 30 0)] aaT (S L (B (ax [(2,.a1 2 0),(7,.a1 30 0),(92,dU),(93,v2),(94,v2)] aaT (S L (S (C L L) (S (B au) L)))))) (J [(7,.a1 30 0)] aaU (S L (B (ax [(7,.a1 30 0),(114,pQ),(115,v2),(116,v2)] aaU (S L (S (C L L) (S (B au) L)))))) au)))))))) aoO
def abr:=mk au' func91 O0 (S L au) aoD
def abt:cG:=⟨⟨[(0,.val eW),(1,.val t3)],[]⟩,⟨[(0,.an 30)],[(30,.bj t3)]⟩,[none],2,vQ⟩
theorem ava:cO Tryz.prog dD 92 abt:=d_ abr [] trivial func92 (S L (J [(0,dU),(1,v2)] [] (S L (C L L)) (S L (J [(0,dU),(6,v228)] [] (S L (C L L)) (S L (S L (J [(7,.an 30)] [(30,a2)] (B (ax [(7,.an 30),(8,v2)] [(30,a2)] (S (S L (C L L)) (B L)))) au))))))) Y1
def avb:=mk abr func168 vR (S L (S (B (S L (C au (S L (C au (S L (C au L))))))) au)) aoF
def abu:=mk avb func96 Ij (S L (S L (J [(6,.an 6)] [(6,Ba)] (S L (B (ax [(0,kE),(6,.an 6),(14,dU),(15,v2),(16,v2)] [(6,Ba)] (S L (S (C L L) (J [(0,kE),(6,.an 6),(14,dU),(15,v2),(16,v2)] [(6,Ba)] (B (S L (S (S L (C L L)) (S L (S L (J [(0,kE),(6,.an 6),(10,.a1 10 0),(11,v2),(14,dU),(15,v2),(16,v2)] [(6,Ba),(10,aap)] (S L (B (S L (C au (S L (C L L)))))) (S (S L (C au L)) (S L (B (ax [(0,kE),(6,.an 6),(10,.a1 10 0),(11,v2),(14,dU),(15,v2),(16,v2),(58,dU),(59,v2),(60,v2)] [(6,Ba),(10,aap)] (S L (S (C L L) (S (B au) L))))))))))))) L)))))) au))) ao0
def abv:cG:=⟨⟨[(0,.val eW),(1,.val t2)],[]⟩,⟨[(0,.an 30)],[(30,.bj t2)]⟩,[none],2,vQ⟩
theorem avc:cO Tryz.prog dD 92 abv:=d_ abu [] trivial func92 (S L (J [(0,dU),(1,v2)] [] (S L (C L L)) (S L (J [(0,dU),(6,v228)] [] (S L (C L L)) (S L (S L (J [(7,.an 30)] [(30,a2)] (B (ax [(7,.an 30),(8,v2)] [(30,a2)] (S (S L (C L L)) (B L)))) au))))))) Y1
def abw:=mk abu func169 AX (S L au) ao8
def QH (f:Nat):cG:=⟨⟨[(0,.val oD),(1,.an 200001),(2,.val zU),(3,.val t2),(4,.fb 100002)],[(100002,.mp t2 t2),(200001,.bj t2)]⟩,⟨[(0,.val t4)],[(100002,.mp t2 t2),(200001,.bj t2)]⟩,[none],5,ux f⟩
theorem abx:∀f,cO Tryz.prog dD 170 (QH f)
 |0=>MX func170 apf
 |f+1=>d_ abw [(170,.e7 (QH f))] ⟨abx f,trivial⟩ func170 (S L (J [] Qp (S L (B (ax aaF Qp (S L (S (C L L) (J aaF Qp (B (S L (S (S L (C L L)) (S L (S L (C (S L au) L)))))) L)))))) au)) (ape f)
def avd:=pv abw mm [(92,.e7 abv),(170,.e7 (QH 201))] ⟨avc,abx 201,trivial⟩ func98 Io (S L (S L (S L (J [(6,v2)] [] (S L (B (ax aaR [(50140,a2)] (S L (S (C L L) (J aaR [(50140,a2)] (B (S L (S L (C L L)))) L)))))) au)))) aph
def ave:=mk avd func93 vZ (S L (S L au)) api
def aby:=pv ave mm [(92,.e7 abt)] ⟨ava,trivial⟩ func40 Iw (S L (S L (S (S L (C au L)) (S L (S L (J [(8,.an 8)] [(8,a2)] (S L (B (ax aaO [(8,a2),(50260,a2)] (S L (S (C L L) (J aaO [(8,a2),(50260,a2)] (B (S L (S L (S L (C L L))))) L)))))) au)))))) apF
def avf:cG:=k2 (ax.ft 1 ax.PN)
theorem avg:cO Tryz.prog dD 135 avf:=d_ aby [] trivial func135 (S L (S L au)) ax.aqw
def avh:=mk aby func181 O1 (S L au) aoE
def avi:=mk avh func108 Ic (S L (J [(1,dU),(2,.a1 2 0)] [(2,yv)] (S L (B (ax [(1,dU),(2,.a1 2 0),(7,dU),(8,v2),(9,v2)] [(2,yv)] (S L (S (C L L) (S (B (S L (S L (C au L)))) L)))))) au)) aoG
def avj:=mk avi func109 sP (S L (J [(4,v2)] [] (S L (B (ax [(0,kE),(4,v2),(7,dU),(8,v2),(9,v2)] [] (S L (S (C L L) (J [(0,kE),(4,v2),(7,dU),(8,v2),(9,v2)] [] (B (S L (S L (C L L)))) L)))))) au)) ao2
def abz:=mk avj func49 Ix (S L (S L (S (S L (C au L)) (S (S L (C au L)) au)))) apH
def avk:cG:=k2 (ax.ft 0 ax.PO)
theorem avl:cO Tryz.prog dD 136 avk:=d_ abz [(192,.e7 aa6)] ⟨aa7,trivial⟩ func136 (S L (S L (J [(0,.a1 100000 0),(5,.an 50100)] [(50100,a2),(100000,ED)] (S L (B (ax [(0,.a1 100000 0),(5,.an 50100),(12,v2),(13,v2)] [(50100,a2),(100000,ED)] (S L (S (C L L) (S (B au) L)))))) (S L au)))) ax.aqx
def QI:=mk abz func92 H_ (S L (J [(0,dU),(1,v2)] [] (S L (C L L)) (S L (J [(0,dU),(6,v228)] [] (S L (C L L)) (S L (S L (J [(7,.an 30)] [(30,a2)] (B (ax [(7,.an 30),(8,v2)] [(30,a2)] (S (S L (C L L)) (B L)))) au))))))) aoz
def Js (f:Nat):cG:=⟨⟨[(0,.val oD),(1,.val eW),(2,.val t2),(3,.g_),(1000000,.aW eW)],[]⟩,⟨[(0,.val t4),(1000000,.aW eW)],[]⟩,[none],4,rC f⟩
theorem QJ:∀f,cO Tryz.prog dD 167 (Js f)
 |0=>MX func167 apt
 |f+1=>d_ QI [(167,.e7 (Js f))] ⟨QJ f,trivial⟩ func167 (S L (S L (S (S L (C au L)) (J [(0,kE),(1,dU),(2,v2),(3,.g_),(9,v2),(1000000,.aW eW)] [] (S L (B (ax aaE [] (S L (S (C L L) (J aaE [] (B (S L (S (S L (C L L)) (S L (C au L))))) L)))))) au)))) (aps f)
def abA:cG:=⟨⟨[(0,.val oD),(1,.g_),(1000000,.aW eW)],[]⟩,⟨[(1000000,.aW eW)],[]⟩,[],2,(Hb (rC 10))⟩
theorem avm:cO Tryz.prog dD 218 abA:=d_ (S:=(Hb (rC 10))) QI [(167,.e7 (Js 10))] ⟨QJ 10,trivial⟩ func218 L (λx=>A.le_refl _)
def Jt:zl:=⟨oD,eW,yd,Iq⟩
theorem avn:CG Tryz.prog 218 Jt:=Ui (c:=abA) avm mm (ic:=Jt) (λx l L=>(x,l,(l,L,[],false),())) rfl (by decide) (by simp [Jt])
 (λx l L i=>by
  by_cases aY:i=0
  ·subst aY;exact .inr (.inl ⟨by decide,rfl⟩)
  ·by_cases G:i=1
   ·subst G;exact .inr (.inr (.inl ⟨rfl,rfl⟩))
   ·by_cases V:i=b5
    ·subst V;exact .inr (.inr (.inr ⟨rfl,rfl⟩))
    ·refine .inl ?_;exact (if_neg aY).trans ((if_neg G).trans (if_neg V)))
 rfl (λbn=>⟨_,_,_,_,rfl⟩) (λx l ar=>by
  obtain ⟨s,aG,af⟩:=ar;subst aG;have h:=apu s af l;refine ⟨h.1,λbn fW dG e2 n fi=>?_⟩;have e:aI.aW bn.1.1 eW bn.1.2.1 bn.1.2.2.1 bn.1.2.2.2=.aW dG eW e2 n false:=fi;injection e with aF bB di gv h1
  exact gv.symm.trans ((h.2 bn fW).2.2 h1))
def avo:=pv QI mm [(218,.cq Jt)] ⟨avn,trivial⟩ func166 Ps (S L (S L (S (S L (B (cc [(1,.a1 1 0),(3,.a1 3 0)] [(1,.cells oD [kE]),(3,.cells eW [dU])] [(1,.a1 100001 0),(3,.a1 100003 0),(15,dU)] [(100001,.cells oD [kE]),(100003,.cells eW [dU])] [] [(100001,.cells oD [kE]),(100003,.cells eW [dU])] L (B (S L (C L L)))))) au))) apA
def avp:=mk avo func94 Pu (S L (S L (S (S L (C au L)) au))) apB
def QK:=mk avp func41 It (S L au) apC
def avq:cG:=k2 (ax.ft 0 ax.PQ)
theorem avr:cO Tryz.prog dD 137 avq:=d_ QK [] trivial func137 (S L (S L au)) ax.aqy
def abB:cG:=⟨⟨[(0,.val oD),(1,.g_),(1000000,.aW eW)],[]⟩,⟨[(1000000,.aW eW)],[]⟩,[],2,(Hc (rC 10))⟩
theorem avt:cO Tryz.prog dD 95 abB:=d_ (S:=(Hc (rC 10))) QK [(167,.e7 (Js 10))] ⟨QJ 10,trivial⟩ func95 L (λx=>A.le_refl _)
def Ju:zl:=⟨oD,eW,yd,Po⟩
theorem avu:CG Tryz.prog 95 Ju:=Ui (c:=abB) avt mm (ic:=Ju) (λx l L=>(x,l,(l,L,[],false),())) rfl (by decide) (by simp [Ju])
 (λx l L i=>by
  by_cases aY:i=0
  ·subst aY;exact .inr (.inl ⟨by decide,rfl⟩)
  ·by_cases G:i=1
   ·subst G;exact .inr (.inr (.inl ⟨rfl,rfl⟩))
   ·by_cases V:i=b5
    ·subst V;exact .inr (.inr (.inr ⟨rfl,rfl⟩))
    ·refine .inl ?_;exact (if_neg aY).trans ((if_neg G).trans (if_neg V)))
 rfl (λbn=>⟨_,_,_,_,rfl⟩) (λx l ar=>by
  obtain ⟨s,aG,af⟩:=ar;subst aG;have h:=apv s af l;refine ⟨h.1,λbn fW dG e2 n fi=>?_⟩;have e:aI.aW bn.1.1 eW bn.1.2.1 bn.1.2.2.1 bn.1.2.2.2=.aW dG eW e2 n false:=fi;injection e with aF bB di gv h1
  exact gv.symm.trans ((h.2 bn fW).2.2 h1))
def avv:=mk QK func97 Ph (S L (J [] [] (S L (B (ax [(0,kE),(9,pQ),(10,v2),(11,v2)] [] (S L (S (C L L) (J [(0,kE),(9,pQ),(10,v2),(11,v2)] [] (B (S L (S L (J [(0,kE),(7,v4),(9,pQ),(10,v2),(11,v2)] [] (S L (B (ax [(0,kE),(6,.a1 6 0),(7,v4),(9,pQ),(10,v2),(11,v2),(20,v2),(21,v2)] [(6,aso)] (S L (S (C L L) (S (B au) L)))))) (S L (C au L)))))) L)))))) au)) ao_
def QL:=pv avv mm [(95,.cq Ju)] ⟨avu,trivial⟩ func42 Iv (S L (S L (S (S L (C au L)) (S L (S (S L (B (cc [(4,.a1 4 0),(6,.a1 6 0)] [(4,.cells oD [kE]),(6,.cells t2 [v2])] [(4,.a1 100004 0),(6,.a1 100006 0),(21,dU)] [(100004,.cells oD [kE]),(100006,.cells t2 [v2])] [] [(100004,.cells oD [kE]),(100006,.cells t2 [v2])] L (B (S L (S (S L (C L L)) (S L (S L (C L L))))))))) (S (S L (C au L)) au)))))) apD
def avw:cG:=k2 (ax.ft 0 ax.PR)
theorem avx:cO Tryz.prog dD 138 avw:=d_ QL [] trivial func138 (S L (S L au)) ax.aqz
theorem avy:∀ k∈[119,120,121,122,123,124,125,126,127,128,129,130,131,132,133,134,135,136,137,138],cO Tryz.prog dD k {QD with sh:=ax.Eu k}:=EB.mem (l:=[119,120,121,122,123,124,125,126,127,128,129,130,131,132,133,134,135,136,137,138]) ⟨atS,atU,atW,auq,auu,auz,auF,auK,auN,auS,auW,auY,au0,au2,au4,au7,avg,avl,avr,avx,trivial⟩
def abC:cG:=⟨⟨[(0,.a1 100000 0),(1,.val MO),(2,.val t9)],[(100000,.fV qm)]⟩,⟨[(0,.val t9)],[(100000,.fV qm)]⟩,[none],3,ax.I2⟩
theorem avz:cO Tryz.prog dD 59 abC:=d_ QL [(999999,.FH QD ax.Eu [119,120,121,122,123,124,125,126,127,128,129,130,131,132,133,134,135,136,137,138])] ⟨avy,trivial⟩ func59 (S L (S L (S L (S (S L (S L (C au L))) (S L (J [(0,.a1 100000 0),(8,.a1 8 0),(11,.an 48)] [(8,aaw),(48,a2),(100000,ED)] (S L (B (ax [(0,.a1 100000 0),(8,.a1 8 0),(11,.an 48),(50,pR),(51,v2),(52,v2)] [(8,aaw),(48,a2),(100000,ED)] (S L (S (C L L) (S (B (S L (S L (S (S L (C au L)) L)))) L)))))) au)))))) ax.aqT
def NB:=pv QL mm [(57,.e7 aba),(59,.e7 abC)] ⟨atQ,avz,trivial⟩ func20 ax.uB (S L (S (S L (S L (C au L))) (S (S L (C au L)) (S L (J [(4,.an 4),(5,.a1 5 0),(8,.a1 50230 0)] aaS (S L (B (ax [(4,.an 4),(5,.a1 5 0),(8,.a1 50230 0),(9,asq),(25,pR),(26,v2),(27,v2)] aaS (S L (S (C L L) (S (B au) L)))))) au))))) ax.aq0
def avA:=mk NB func62 ax.uC (S L (S (S L (C au L)) (J [] [] (S L (B (ax [(0,dU),(1,dU),(5,v2)] [] (S (S L (C L L)) (S (B (S L (C au L))) L))))) au))) ax.ark
def avB:=mk avA func60 ax.Ja (S L (S (S L (C au L)) (J Jm EF (S L (B (ax [(2,.a1 2 0),(3,.a1 3 0),(5,v2)] EF (S (S L (C L L)) (S (B (S L (C au L))) L))))) (J Jm EF (S L (B (ax [(2,.a1 2 0),(3,.a1 3 0),(6,v2)] EF (S (S L (C L L)) (S (B (S L (C au L))) L))))) (J [] [] (S L (B (ax Qo EF (S (S L (C L L)) (S (B (S L (C au L))) L))))) au))))) ax.arl
def avC:=mk avB func61 ax.Jb (S L (S (S L (C au L)) (J Jm yy (S L (B (ax [(2,.a1 2 0),(3,.a1 3 0),(5,v2)] yy (S (S L (C L L)) (S (B (S L (C au L))) L))))) (J Jm yy (S L (B (ax [(2,.a1 2 0),(3,.a1 3 0),(6,v2)] yy (S (S L (C L L)) (S (B (S L (C au L))) L))))) (J [] [] (S L (B (ax Qo yy (S (S L (C L L)) (J Qo yy (B (S L (S (S L (C au L)) (S L (B (ax [(2,.a1 2 0),(3,.a1 3 0),(7,v2),(8,Qm),(9,Qm),(10,v2)] yy (S (S L (C L L)) (S (B (S L (C au L))) L)))))))) L))))) au))))) ax.arn
def NC:=mk avC func22 ax.Ex (S L (S L (S (S L (C au L)) (J [(5,.a1 5 0),(6,.a1 6 0)] EG (S L (B (ax [(5,.a1 5 0),(6,.a1 6 0),(7,v2)] EG (S (S L (C L L)) (S (B (S L (S L (C au L)))) L))))) (J [(5,.a1 5 0),(6,.a1 6 0)] EG (S L (B (ax [(5,.a1 5 0),(6,.a1 6 0),(10,v2)] EG (S (S L (C L L)) (S (B (S L (S L (C au L)))) L))))) (J [] [] (S L (B (ax [(5,.a1 5 0),(6,.a1 6 0),(13,v2)] EG (S (S L (C L L)) (S (B (S L (C au L))) L))))) au)))))) ax.aro
def avD:=mk NC func208 cp (S L au) am5
def avE:=mk avD func148 H.cp (S L au) H.akc
def avF:=mk avE func147 H.vq (S L au) H.akg
def avG:=mk avF func149 H.vr (S L (S (S L (C au L)) au)) H.aki
def avH:=mk avG func67 H.vt (S L (S (S L (C au L)) (J nv n9 (S L (B (ax s3 n9 (S (S L (C L L)) (S (B (S L (C au L))) L))))) (J nv n9 (S L (B (ax [(1,.a1 1 0),(4,v2)] n9 (S (S L (C L L)) (S (B (S L (C au L))) L))))) (J nv n9 (S L (B (ax Be n9 (S (S L (C L L)) (S (B (S L (C au L))) L))))) (J [] [] (S L (B (ax [(1,.a1 1 0),(6,v2)] n9 (S (S L (C L L)) (S (B (S L (S L (C au L)))) L))))) au)))))) H.akO
def avI:=mk avH func68 H.Hk (S L au) H.akm
def avJ:=mk avI func26 H.hX (S L (S (S L (C au L)) (J [] [] (S L (B (ax s3 n9 (S (S L (C L L)) (J s3 n9 (B (S L (B (ax Jl n9 (S (S L (C L L)) (S (B (S L (C au L))) L)))))) L))))) au))) H.akQ
def avK:=mk avJ func251 oQ (S L au) am_
def avL:=mk avK func316 ui (S L (J [] [] (S L (B (ax [(0,dU),(3,v2)] [] (S (S L (C L L)) (S (B (S L (C au L))) L))))) au)) am'
def avM:=mk avL func252 sK (S L (J nv [(1,aaz)] (S L (B (ax s3 [(1,aaz)] (S (S L (C L L)) (S (B (S L (C au L))) L))))) au)) anb
def avN:=mk avM func253 pF (S L au) am6
def avO:=mk avN func317 AH (S L au) am8
def avP:=mk avO func254 rs (S L au) am9
def avQ:=mk avP func179 sL (S L (S (S L (C au L)) (J nv nw (S L (B (ax s3 nw (S (S L (C L L)) (S (B (S L (S L (C au L)))) L))))) (J nv nw (S L (B (ax Be nw (S (S L (C L L)) (J Be nw (B (S (S L (C au L)) (S L (B (ax [(1,.a1 1 0),(5,v2),(6,v2)] nw (S (S L (C L L)) (S (B (S L (C au L))) L))))))) L))))) (J [] [] (S L (B (ax [(1,.a1 1 0),(7,v2)] nw (S (S L (C L L)) (S (B (S L (S L (C au L)))) L))))) au))))) ane
def avR:=mk avQ func104 hX (S L (S (S L (C au L)) (J [] [] (S L (B (ax s3 nw (S (S L (C L L)) (J s3 nw (B (S L (B (ax Jl nw (S (S L (C L L)) (S (B (S L (S L (C au L)))) L)))))) L))))) au))) ang
def avS:=mk avR func105 cp (S L au) an_
def avT:=mk avS func180 H5 (S L (J [] [] (S L (B (ax [(0,dU),(1,v2),(5,v2)] [] (S (S L (C L L)) (S (B (S L (C au L))) L))))) au)) aoc
def avU:=mk avT func106 H7 (S L (S (S L (C au L)) au)) aom
def avV:=mk avU func107 H8 (S L au) aon
def avW:=mk avV func48 pL (S L (S (S L (S L (C au L))) (S (S L (C au L)) (J nv pS (S L (B (ax [(1,.a1 1 0),(4,v2)] pS (S (S L (C L L)) (S (B (S L (C au L))) L))))) (J nv pS (S L (B (ax Be pS (S (S L (C L L)) (S (B (S L (C au L))) L))))) (J nv pS (S L (B (ax [(1,.a1 1 0),(6,v2)] pS (S (S L (C L L)) (S (B (S L (C au L))) L))))) (J [] [] (S L (B (ax [(1,.a1 1 0),(7,v2)] pS (S (S L (C L L)) (S (B (S L (S L (C au L)))) L))))) au))))))) aoo
def xL:=mk avW func15 ax.sX (S L (S (S L (C au L)) au)) ax.aq4
def avX:=mk xL func110 vG (S L (S (S L (C au L)) (J nv nw (S L (B (ax s3 nw (S (S L (C L L)) (J s3 nw (B (S (S L (C au L)) (S L (B (ax Jl nw (S (S L (C L L)) (S (B (S L (C au L))) L))))))) L))))) (S (S L (C au L)) (J nv nw (S L (B (ax Be nw (S (S L (C L L)) (S (B (S L (C au L))) L))))) au))))) an6
def avY:=mk avX func50 Iy (S L (S (S L (C au L)) (J nv pS (S L (B (ax s3 pS (S (S L (C L L)) (S (B (S L (C au L))) L))))) (J nv pS (S L (B (ax [(1,.a1 1 0),(4,v2)] pS (S (S L (C L L)) (S (B (S L (C au L))) L))))) (S (S L (C au L)) (S L (J Be pS (S L (B (ax [(1,.a1 1 0),(5,v2),(6,v2)] pS (S (S L (C L L)) (S (B L) L))))) au))))))) apK
def avZ:=mk avY func51 H.vG (S L (S (S L (C au L)) (S (S L (C au L)) (S L (J [(3,v2)] [] (S L (B (ax Jl n9 (S (S L (C L L)) (S (B L) L))))) au))))) H.amw
def av0:=mk avZ func111 ax.I6 (S L (S L (J [(3,.an 5)] [(5,a9)] (S L (B (ax [(0,v9),(3,.an 5),(4,v2)] [(5,a9)] (S (S L (C L L)) (J [(0,v9),(3,.an 5),(4,v2)] [(5,a9)] (B (S L (C L L))) L))))) au))) ax.aq8
def av1:=mk av0 func112 ax.I5 (S L (S (S L (C au L)) (S L (J [(3,v2)] [] (S L (B (ax [(0,v9),(3,v2),(4,v2)] [] (S (S L (C L L)) (S (B (S (S L (C au L)) L)) L))))) au)))) ax.aq7
def av2:=mk av1 func113 ax.I7 (S L (S L (S L (S L au)))) ax.aq_
def av3:=mk av2 func52 ax.A9 (S L (S L (J [(3,.an 3),(5,pR)] [(3,a2)] (S L (B (ax [(3,.an 3),(5,pR),(6,v2)] [(3,a2)] (S (S L (C L L)) (S (B (S L (S (S L (C au L)) L))) L))))) (S L (J [] [] (S L (B (ax [(3,.an 3),(5,pR),(8,pR),(9,dU),(10,dU),(11,v2)] [(3,a2)] (S (S L (C L L)) (S (B (S L (C au L))) L))))) au))))) ax.aq'
def sr:=mk av3 func14 ax.Jd (S L (S (S L (C au L)) (S L (J [(1,pR),(2,.a1 2 0),(5,v2),(6,v2),(7,v2),(8,v2)] [(2,yw)] (S L (B (ax [(1,pR),(2,.a1 2 0),(5,v2),(6,v2),(7,v2),(8,v2),(9,v2)] [(2,yw)] (S (S L (C L L)) (S (B L) L))))) (J [(2,.a1 2 0),(5,v2),(6,v2),(7,v2),(8,v2)] [(2,yw)] (S L (B (ax aaP [(2,yw)] (S (S L (C L L)) (J aaP [(2,yw)] (B (S (S L (C au L)) (S L (B (S L (C L (S L (C L (S L (C au (S L (C L L)))))))))))) L))))) au))))) ax.ars
def av4:=mk sr func28 ax.Ez (S L au) ax.art
def av5:=mk av4 func30 ax.yr (S L (S (S L (C au L)) (J [] [] (S L (B (ax [(0,pR),(1,pR),(5,v2)] [] (S (S L (C L L)) (S (B (S L (C au L))) L))))) au))) ax.arj
def av6:=mk av5 func183 OW (S L au) an7
def av7:=mk av6 func115 Iz (S L au) apL
def av8:=mk av7 func54 ax.I3 (S L au) ax.aq2
def av9:=mk av8 func29 ax.EA (S L (S L au)) ax.ary
def av_:=mk av9 func31 ax.I8 (S L (S L au)) ax.arc
def awa:=mk av_ func32 ax.Ev (S L (S L (S (S L (B (J [(5,v4),(14,v4)] [] (S L (C L (S L (C L (S L (C L (S L (C L (S L (C L (S L (C L (S L (C L (S L (C L L)))))))))))))))) (C au L)))) au))) ax.are
theorem abT:h0 Tryz.prog 8 (.aA wk EL) t4 (λx=>OM ax.uB.sh ax.Ex.sh ax.Ez.sh ax.EA.sh ax.yr.sh ax.Ev.sh x):=G6 awa mm (sp:=[]) trivial func8 (ann:=(S L (S (S L (C au L)) (S L (S (S L (C au L)) (S L (J [(2,.a1 2 0),(6,.a1 6 0),(8,.an 8),(9,.an 9)] Qq (S L (B (ax aaI Qq (S (S L (C L L)) (J aaI Qq (B (S L (C L L))) L))))) (S L au)))))))) (λx=>A.le_refl _) (by kernel_rfl) λx=>by kernel_rfl
end
end Go.Fer.n_
namespace Go.Fer.n_
open Go Go.Proofs
set_option linter.unusedVariables false
theorem abQ {H:Type} {enc:TypeId×Value->H} {a:Assume} {C:Checked} {os:Os} {f:FuncId} {fn:Func} {s:ChangeSpec} {conds:List PathCond} {apart FF handsOn again:Bool} {X:World->Array Value->Prop}
  (zz:∀ (w w':World) (args:Array Value),w.heap=w'.heap->X w args->X w' args)
  (an:ownKnob C.prog.godebug=none) (started:os.Started) (awb:C.prog.inits.idxOf? f=none) (s7:C.prog.funcs[f]?=some fn)
  (witness:∃ (w:World) (tape:Tape) (i:Input),w.os=os/\(w.forCall tape i).Shaped C.prog/\i.vars=[]/\Input.okWide C.prog (w.forCall tape i) .any w.heap.size f i/\
   ((s.pre enc C.prog fn conds apart (w.forCall tape i).memory i.args/\X (w.forCall tape i).memory i.args)/\sizedMet enc C.prog fn (OpenSpec.ofChange s) apart (w.forCall tape i).memory i.args)/\a.holds C.prog (lone (Frame.enter C.prog f i.args .normal) [] (w.forCall tape i)))
  (awc:∀ (ax:World) (base:Nat) (args:Array Value) (bk gs:List (DataW H)) (before:List MemPlace),(∀ (j:Nat) t v,fn.params[j]?=some t->args[j]?=some v->Value.okWide C.prog ax .any base t v)->
   DataW.Whole enc C.prog fn.params.toList s.vars apart ax args.toList bk gs before->
   ax.ShapedOpen C.prog->X ax args->
   Calls C.prog f args ax λe qh=>∃ v,e=.returned v/\s.post enc C.prog fn apart FF handsOn again ax args v qh) :
  ReturnsInHanded a C os f .any (λw args=>(s.pre enc C.prog fn conds apart w args/\X w args)/\sizedMet enc C.prog fn (OpenSpec.ofChange s) apart w args) (s.post enc C.prog fn apart FF handsOn again):=by
 refine returnsInHanded_of_calls an started awb witness ?_;intro w tape i _ ny _ cH gG axB;obtain ⟨_,_,_,awd,awe,_,_,_,_,xy⟩:=cH;have e:awd=fn:=Option.some.inj (awe.symm.trans s7);subst e;obtain ⟨⟨⟨bk,gs,before,hw,hc⟩,aj⟩,bl⟩:=gG;have Cx:=DataW.Whole.of_heap (w':=w.forCall tape i) (by rfl) hw;refine (awc (w.forCall tape i) w.heap.size i.args bk gs before xy Cx ny (zz (w.forCall tape i).memory (w.forCall tape i) i.args rfl aj)).mono λe qh ⟨v,he,ar⟩=>?_;subst he;exact ChangeSpec.post_blind ar
theorem Jw {P:Program} {w:World}:∀ {l:List (String×DataW Unit)} {ps:List MemPlace},DataW.LaidVars P w l ps->∀ n d,(n,d)∈l->∃ g t cs cd p,P.globalNamed n=some g/\(P.globals[g]?).map (·.type)=some t/\w.var? P n=some cs/\DataW.trod (λ_=>()) P w 0 (λ_=>true) false cd t cs.toList=some (d,p)
 | [],_,_,_,_,hm=>by cases hm
 | (iT,uK)::r,ps,h,n,d,hm=>by
  obtain ⟨g,t,cs,cd,p,q,G,V,ah,a7,bM,_⟩:=h;rcases List.mem_cons.1 hm with e | e
  ·cases e;exact ⟨g,t,cs,cd,p,G,V,ah,a7⟩
  ·exact Jw bM n d e
theorem abP {P:Program} {w:World} {n:String} {g:Nat} {t:TypeId} {d:DataW Unit} {cd:Nat} {cs:Array Value} {p:List MemPlace} (aC:P.globalNamed n=some g) (af:w.var? P n=some cs) (hu:∃ ms,P.underlying t=some (.interface ms))
  (h:DataW.trod (λ_=>()) P w 0 (λ_=>true) false cd t cs.toList=some (d,p)):∃ v,w.cell? ⟨g,0,none⟩=some v/\(v=.nilIface\/∃ ly l4,v=.iface ly l4):=by
 obtain ⟨ms,hu⟩:=hu;have hc:w.cell? ⟨g,0,none⟩=cs[0]?:=by
  unfold World.var? at af;rw [aC] at af;simp only [Option.bind_some] at af;cases ag:w.heap[g]? with
  | none=>rw [ag] at af;cases af
  | some o=>
   rw [ag] at af;cases o with
   | cells a T sA=>cases af;simp [World.cell?,ag]
   | _=>cases af
 have aL:cs[0]?=cs.toList[0]?:=by simp
 rw [hc,aL];generalize cs.toList=l at h;cases cd with
 | zero=>simp [DataW.trod] at h
 | succ cd=>
  match l with
  | []=>simp [DataW.trod,hu] at h
  | [.nilIface]=>exact ⟨_,rfl,.inl rfl⟩
  | [.iface u v]=>exact ⟨_,rfl,.inr ⟨u,v,rfl⟩⟩
  | _::_::_=>simp [DataW.trod,hu] at h
  | [x]=>cases x<;>first | exact ⟨_,rfl,.inl rfl⟩ | exact ⟨_,rfl,.inr ⟨_,_,rfl⟩⟩ | (simp [DataW.trod,hu] at h;done)
theorem awf:((List.range 8).all λb=>(((begin Tryz.prog (λ_ _=>0) default).world.heap[b]?).bind Obj.row?).isSome)=true:=by kernel_rfl
theorem abV {ax : World} (h : ax.ShapedOpen Tryz.prog) (G : ∃ v, ax.cell? ⟨1, 0, none⟩ = some v /\ (v = .nilIface \/ ∃ ly l4, v = .iface ly l4)) (V : ∃ v, ax.cell? ⟨2, 0, none⟩ = some v /\ (v = .nilIface \/ ∃ ly l4, v = .iface ly l4)) (aL : Lib.TabIs Tryz.prog ax "internal/strconv.uint64pow10" .u64 Lib.pow10Tab) : nA Tryz.prog (qk ax) ax := λb aa => by
 have jb:b<8:=Nat.lt_of_lt_of_le aa (of_decide_eq_true (by kernel_rfl));refine ⟨?_,?_⟩
 ·have U:=List.all_eq_true.1 awf b (List.mem_range.2 jb);obtain ⟨⟨zero,t⟩,bl⟩:=Option.isSome_iff_exists.1 U;obtain ⟨cs,cR,_⟩:=h.1 b zero t aa bl;exact (Array.getElem?_eq_some_iff.1 cR).1
 ·match b,aa,jb with
  | 0,aa,_=>exact cell_of_shapedOpen_int (t:=3) (zero:=#[.int .i64 0]) h aa (by kernel_rfl) rfl (by kernel_rfl) (by kernel_rfl) Tryz.underlying3
  | 1,_,_=>exact G
  | 2,_,_=>exact V
  | 3,_,_=>trivial
  | 4,_,_=>trivial
  | 5,_,_=>
   show ∀ i,ax.cell? ⟨5,i,none⟩=if i<20 then some (.int .u64 (10 ^ i)) else none
   unfold Lib.TabIs World.var? at aL;rw [show Tryz.prog.globalNamed "internal/strconv.uint64pow10" = some 5 by kernel_rfl] at aL;change (match ax.heap[5]? with | some (.cells cs _ _)=>some cs | _=>none)=_ at aL;intro i;cases ag:ax.heap[5]? with
   | none=>rw [ag] at aL;cases aL
   | some o=>
    rw [ag] at aL;cases o with
    | cells cs T sA=>
     simp only [Option.some.injEq] at aL;simp only [World.cell?,ag,aL];simp only [Option.isSome_none,Bool.false_eq_true,if_false,List.getElem?_toArray,List.getElem?_map,Lib.pow10Tab];split
     ·rename_i Jg;rw [List.getElem?_range Jg];simp
     ·rename_i Jg;rw [List.getElem?_eq_none (by simp;omega)];rfl
    | _=>cases aL
  | 6,_,_=>trivial
  | 7,_,_=>trivial
end Go.Fer.n_
