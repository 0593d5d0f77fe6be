/- Part 7 of the proof of Slips: shallow programs of Go functions, and what they compute. No condition. -/
import Derived.Test.YtplfnoecifjgeaaGreatDoorSlipsF
import Derived.Shelf.SlGeneric
import Derived.Shelf.Spec.SlicesGrow
import Derived.Shelf.Strings.OnBuilder
import Derived.Shelf.LaysM
import Derived.Shelf.Strconv.Itoa3
import Derived.Shelf.LaysC
import Derived.Shelf.Strconv.AtoiAll
import Derived.Shelf.Strings.Split
import Derived.Shelf.Slices.In.SortNone
import Derived.Test.YtplfnoecifjgeaaGreatDoorProg
import Derived.WalkKit
import Derived.WalkSpells
import Derived.Handy
import Derived.Shelf.Sort.AssemblyIn
import Derived.Sort.EveryDepth
import Derived.Handed
import Derived.Shelf.Vars
import Derived.Lib.LaidTab
import Derived.Lib.ItoaNum
noncomputable section
set_option linter.unusedVariables false
set_option linter.unusedSimpArgs false
namespace Go.Fer.W
open M (ab)
open H (gF)
def pN:List aH×z1'×z1':=(jS.map (·.1),jS.map (·.2.1),jS.map λp=>if p.2.2=true then -1 else p.2.1)
abbrev Jh:aL:=⟨.cA,.ay sP (.ay fI fI),λ_=>True,λ_=>pN⟩
theorem ary(x):M.le (anh x) (Jh.sh x):=M.bj λ_=>congrArg M.pure (show _=pN by rfl)
def Bj(k:Int)(m:Bool)(n:Nat):Bool:=decide ((n:Int)>=k)&&(decide ((if m=true then -1 else k)<(0:Int))||decide ((n:Int)<=if m=true then -1 else k))
def jr(s:aH):aH×z1'×Bool:=
 if ((cD s).drop 1).any (λw=>decide (e_ w<0))=true then ([],[],false) else
 match oP ((cD s).getD 0 []) jS 0 with
 | none=>([],[],false)
 | some (k,m,_)=>((cD s).getD 0 [],((cD s).drop 1).map e_,Bj k m ((cD s).drop 1).length)
theorem aad{aG:Type}{w:aH}{g:Int->Bool->aG}{r:aG}:∀ (l:List (aH×Int×Bool)) (i:Nat),eI (λp (_:Unit)=>if decide (p.1=w)=true then .done (g p.2.1 p.2.2) else .next ()) (λ_=>r) l ()=match oP w l i with | none=>r | some q=>g q.1 q.2.1
 | [],_=>rfl
 | p::l,i=>by
  unfold eI oP;by_cases h:p.1=w
  ·simp[h]
  ·have h2:¬w=p.1:=λe=>h e.symm;simp only[h,decide_false,Bool.false_eq_true,if_false,h2];exact aad l (i+1)
abbrev Bk:aL:=⟨.str,.ay .str (.ay fI .bool),λx=>x.length<=10000,jr⟩
theorem arz(x):M.le (Yz Jg.sh Jf.sh Jh.sh x) (Bk.sh x):=M.bj λh=>by
 change x.length<=10000 at h;unfold Yz;show _=M.pure (jr x);unfold jr;rw[show Jg.sh x=M.pure (cD x) from M.bF h _,M.aE];have an:=uD x;have hx:List.length x<=10000:=h;have uY:((cD x).drop 1).length=(cD x).length - 1:=by simp
 rw[M.gj ((cD x).drop 1) (λi (o:z1')=>(cD x,((1+i:Nat):Int),o,())) (λw o=>if decide (e_ w<0)=true then .done (.done ([],[],false)) else .next (o++[e_ w])) (λo=>.next (cD x,o,())) (λi o=>o.length=i) [] ?_ rfl ?_ ?_]
 ·rw[Je,M.aE];by_cases aU:((cD x).drop 1).any (λw=>decide (e_ w<0))=true
  ·rw[if_pos aU,if_pos aU];rfl
  ·rw[if_neg aU,if_neg aU,M.bL,xN,List.nil_append];rw[show Jh.sh ()=M.pure pN from rfl,M.aE];generalize mP:((cD x).drop 1).map e_=Bl;have aB:Bl.length=((cD x).drop 1).length:=by grind
   rw[<-aB];rw[M.gj jS (λi (_:Unit)=>(cD x,pN.1,pN.2.1,pN.2.2,(i:Int),Bl,())) (λp (_:Unit)=>if decide (p.1=(cD x).getD 0 [])=true then .done (.done ((cD x).getD 0 [],Bl,Bj p.2.1 p.2.2 Bl.length)) else .next ()) (λ_=>.next ()) (λ_ _=>True) () ?_ trivial ?_ ?_]
   ·rw[aad (g:=λk m=>ab.done ((cD x).getD 0 [],Bl,Bj k m Bl.length)) jS 0,M.aE];cases oP ((cD x).getD 0 []) jS 0<;>rfl
   ·rfl
   ·intro i G _ _;have ax7:i<20:=G;have hw:=bn (n:=(i:Int)+1) (by omega) (by omega);have eB:i<pN.1.length:=G;have ns:i<pN.2.1.length:=G;have yP:i<pN.2.2.length:=G;have g1:pN.1[i]'eB=(jS[i]'G).1:=List.getElem_map ..;have dW:pN.2.1[i]'ns=(jS[i]'G).2.1:=List.getElem_map ..;have g3:pN.2.2[i]'yP=if (jS[i]'G).2.2=true then -1 else (jS[i]'G).2.1:=List.getElem_map ..
    have hp:((0:Int)<=0/\(0:Int)<((cD x).length:Int))=True:=eq_true ⟨by decide,by omega⟩;refine⟨?_,λ_ _=>trivial⟩;simp only[bI,cG eB,if_true,c6 eB,c6 ns,c6 yP,cq eB,cq ns,cq yP,hp,M.bg,b4,hw,g1,dW,g3,show Int.toNat 0=0 from rfl];by_cases hc:decide ((jS[i]'G).1=(cD x).getD 0 [])=true
    ·rw[if_pos hc,if_pos hc];unfold Bj;simp_all
    simp_all
   ·intro _ _;simp[pN]
 ·rfl
 ·intro i G o ah;have cZ:1+i<(cD x).length:=by omega
  have hw:=bn (n:=((1+i:Nat):Int)+1) (by omega) (by omega);have aA:(cD x)[1+i]=((cD x).drop 1)[i]:=by grind
  refine⟨?_,λa1 cQ=>?_⟩
  ·simp only[bI,cG cZ,if_true,c6 cZ,cq cZ,M.bg,b4,hw,aA];rw[show Jf.sh ((cD x).drop 1)[i]=M.pure (e_ ((cD x).drop 1)[i]) from rfl,M.aE];by_cases aB:decide (e_ ((cD x).drop 1)[i]<0)=true
   ·simp_all
   ·rw[if_neg aB,if_neg aB,M.bp (gF (by grind))];rfl
  grind
 simp_all
theorem Qf{s:aH}(h:s.length<=10000):Bk.sh s=M.pure (jr s):=M.bF h _
theorem arA{k:Int}{m:Bool}{n:Nat}(aj:0<=k):Bj k m n=!(decide ((n:Int)<k)||decide ((n:Int) > k)&&!m):=by
 unfold Bj;grind
theorem arB{s:aH}{j:Nat}{l:z1'}(h:wj s=some (j,l)):∃ p,jS[j]?=some p/\jr s=(p.1,l,true):=by
 unfold wj at h;have an:=uD s;cases au:oP ((cD s).getD 0 []) jS 0 with
 | none=>grind
 | some q=>
  obtain⟨k,m,i⟩:=q;rw[au]at h;simp only at h;obtain⟨_,aD,aj⟩:=Qa au;have lI:0<=k:=ZZ _ (List.mem_of_getElem? aj);split at h
  ·grind
  ·rename_i ad;unfold IW at h;split at h
   ·rename_i aU;simp only[Option.map_some,Option.some.injEq,Prod.mk.injEq]at h;obtain⟨rfl,rfl⟩:=h;refine⟨_,aj,?_⟩;unfold jr;rw[if_neg,au]
    ·simp only;rw[arA lI];have:(((cD s).drop 1).length:Int)=((cD s).length:Int) - 1:=by grind
     rw[this];grind
    grind
   grind
def arC(w:aH):Bool:=decide (w=[108,101,110,100])||(decide (w=[98,97,99,107])||(decide (w=[118,111,105,100])||(decide (w=[116,114,105,97,108])||(decide (w=[115,116,111,99,107])||(decide (w=[99,111,109,101,115])||(decide (w=[112,105,101,99,101])||(decide (w=[119,105,115,104])||decide (w=[100,114,111,112]))))))))
def EG(s:aH):Bool:=if arC (jr s).1=true then !(jr s).2.2 else true
abbrev yC:aL:=⟨.str,.str,λx=>x.length<=10000,λx=>(jr x).1⟩
theorem arD(x):M.le (YF Bk.sh x) (yC.sh x):=M.bj λh=>by
 unfold YF;rw[Qf h,M.aE]
abbrev EH:aL:=⟨.str,.bool,λx=>x.length<=10000,EG⟩
theorem arE(q dd dN kf np sY Ji Jj Jk Qg:Bool):M.bind (if dd=true then M.pure (ab.next (q,dd,())) else if dN=true then M.pure (ab.next (q,dN,())) else if kf=true then M.pure (ab.next (q,kf,())) else if np=true then M.pure (ab.next (q,np,())) else if sY=true then M.pure (ab.next (q,sY,())) else if Ji=true then M.pure (ab.next (q,Ji,())) else if Jj=true then M.pure (ab.next (q,Jj,())) else if Jk=true then M.pure (ab.next (q,Jk,())) else M.pure (ab.next (q,Qg,()))) (ab.bm λ(A:Bool×Bool×Unit)=>if A.2.1=true then M.pure !A.1 else M.pure true)=M.pure (if (dd||(dN||(kf||(np||(sY||(Ji||(Jj||(Jk||Qg))))))))=true then !q else true):=by
 rcases Bool.eq_false_or_eq_true dd with h | h
 ·simp_all
 subst h;rcases Bool.eq_false_or_eq_true dN with h | h
 ·simp_all
 subst h;rcases Bool.eq_false_or_eq_true kf with h | h
 ·simp_all
 subst h;rcases Bool.eq_false_or_eq_true np with h | h
 ·simp_all
 subst h;rcases Bool.eq_false_or_eq_true sY with h | h
 ·simp_all
 subst h;rcases Bool.eq_false_or_eq_true Ji with h | h
 ·simp_all
 subst h;rcases Bool.eq_false_or_eq_true Jj with h | h
 ·simp_all
 subst h;cases Jk<;>cases Qg<;>simp
theorem arF(x):M.le (YE yC.sh Bk.sh x) (EH.sh x):=M.bj λh=>by
 unfold YE;rw[Qf h,M.aE,show yC.sh x=M.pure (jr x).1 from M.bF h _,M.aE];exact arE ..
theorem arG{s:aH}(h:s.length<=10000):EH.sh s=M.pure (EG s):=M.bF h _
abbrev yD:aL:=⟨.ay sP sP,.bool,λx=>x.1.length<2 ^ 63,λx=>decide (x.1=x.2)⟩
theorem arH(a b:List aH)(h:a.length=b.length):((List.range a.length).any λi=>decide (a.getD i []≠b.getD i []))=!decide (a=b):=by
 rw[Bool.eq_iff_iff];simp only[List.any_eq_true,List.mem_range,decide_eq_true_eq,Bool.not_eq_true',decide_eq_false_iff_not];constructor
 ·grind
 ·intro dY;refine Classical.byContradiction λeJ=>dY (List.ext_getElem h λi h1 h2=>?_);simp_all
theorem arI(x):M.le (YD x) (yD.sh x):=M.bj λh=>by
 obtain⟨a,b⟩:=x;change a.length<2 ^ 63 at h;unfold YD;show _=M.pure (decide (a=b));by_cases an:a.length=b.length
 ·rw[if_neg (by grind)];rw[M.dj (List.range a.length) (λi (_:Unit)=>(a,b,(i:Int),())) (λi (_:Unit)=>if decide (a.getD i []≠b.getD i [])=true then .done (.done false) else .next ()) (λ_=>.next ()) () ?_ ?_ ?_]
  ·rw[po,arH a b an,M.aE];cases decide (a=b)<;>rfl
  ·rfl
  ·intro i G _;have G:i<a.length:=by grind
   have ad:i<b.length:=by omega
   have hw:=bn (n:=(i:Int)+1) (by omega) (by omega);simp only[List.getElem_range,bI,cG G,if_true,cq G,cq ad,M.bg,b4,hw,Int.toNat_natCast];by_cases hc:decide (a.getD i []≠b.getD i [])=true
   ·rw[if_pos hc,if_pos hc,M.aE,M.aE];rfl
   ·rw[if_neg hc,if_neg hc];rfl
  simp
 ·rw[if_pos (show decide (Int.ofNat a.length≠Int.ofNat b.length)=true by grind),show decide (a=b)=false from decide_eq_false λe=>an (by rw[e])]
theorem aae{a b:List aH}(h:a.length<2 ^ 63):yD.sh (a,b)=M.pure (decide (a=b)):=M.bF h _
abbrev uF:aL:=⟨.ay fI fI,.bool,λx=>x.1=x.2/\x.1.length<2 ^ 63,λ_=>true⟩
theorem arJ(x):M.le (Yv x) (uF.sh x):=M.bj λh=>by
 obtain⟨a,b⟩:=x;obtain⟨rfl,h⟩:a=b/\a.length<2 ^ 63:=h;unfold Yv;rw[if_neg (by simp)];rw[M.dj a (λi (_:Unit)=>(a,a,(i:Int),())) (λ_ b=>.next b) (λ_=>.next ()) () ?_ ?_ ?_]
 ·rw[dZ,M.aE,M.bL]
 ·rfl
 ·intro i G _;have hw:=bn (n:=(i:Int)+1) (by omega) (by omega);simp_all
 simp
theorem EI{a:z1'}(h:a.length<2 ^ 63):uF.sh (a,a)=M.pure true:=M.bF ⟨rfl,h⟩ _
abbrev Jl:aL:=⟨.ay H.jl H.jl,.bool,λx=>x.1=x.2/\H.ij x.1,λ_=>true⟩
theorem arK(x):M.le (Yu uF.sh x) (Jl.sh x):=M.bj λh=>by
 obtain⟨a,b⟩:=x;obtain⟨rfl,h1,h2,h3,aT⟩:a=b/\H.ij a:=h;unfold Yu;rw[EI h3];simp only[M.ku,M.aE];rw[if_neg (by simp)];rw[M.dj a.1 (λi (_:Unit)=>((i:Int),a,a,())) (λ_ b=>.next b) (λ_=>.next (a,a,())) () ?_ ?_ ?_]
 ·rw[dZ,M.aE,M.bL];rw[M.dj a.2.1 (λi (_:Unit)=>((i:Int),a,a,())) (λ_ b=>.next b) (λ_=>.next (a,a,())) () ?_ ?_ ?_]
  ·rw[dZ,M.aE,M.bL];rw[M.dj a.2.2.2.1 (λi (_:Unit)=>((i:Int),a,a,())) (λ_ b=>.next b) (λ_=>.next ()) () ?_ ?_ ?_]
   ·rw[dZ,M.aE,M.bL]
   ·rfl
   ·intro i G _;have hw:=bn (n:=(i:Int)+1) (by omega) (by omega);simp_all
   simp
  ·rfl
  ·intro i G _;have hw:=bn (n:=(i:Int)+1) (by omega) (by omega);simp_all
  simp
 ·rfl
 ·intro i G _;have hw:=bn (n:=(i:Int)+1) (by omega) (by omega);simp_all
 simp
abbrev Jm:aL:=⟨.ay kz kz,.bool,λx=>x.1=x.2/\gy x.1,λ_=>true⟩
theorem arL(x):M.le (Yw uF.sh x) (Jm.sh x):=M.bj λh=>by
 obtain⟨a,b⟩:=x;obtain⟨rfl,h1,h2,h3,aT⟩:a=b/\gy a:=h;unfold Yw;rw[if_neg (by simp)];rw[M.dj a.1 (λi (_:Unit)=>((i:Int),a,a,())) (λ_ b=>.next b) (λ_=>.next (a,a,())) () ?_ ?_ ?_]
 ·rw[dZ,M.aE,M.bL];rw[M.dj a.2.2.2 (λi (_:Unit)=>((i:Int),a,a,())) (λ_ b=>.next b) (λ_=>.next (a,a,())) () ?_ ?_ ?_]
  ·rw[dZ,M.aE,M.bL];rw[M.dj a.2.1 (λi (_:Unit)=>((i:Int),a,a,())) (λ_ b=>.next b) (λ_=>.next ()) () ?_ ?_ ?_]
   ·rw[dZ,M.aE,M.bL]
   ·rfl
   ·intro i G _;have hw:=bn (n:=(i:Int)+1) (by omega) (by omega);obtain⟨ao,hs⟩:=aT _ (List.getElem_mem G);simp only[bI,cG G,if_true,c6 G,cq G,M.bg,b4,hw];rw[if_neg (by simp)];rw[M.dj a.2.1[i] (λj (_:Unit)=>((i:Int),a.2.1[i],a.2.1[i],(j:Int),a,a,())) (λ_ b=>.next b) (λ_=>.next ((i:Int),a,a,())) () ?_ ?_ ?_]
    ·rw[dZ,M.aE,M.bL];simp_all
    ·rfl
    ·intro j aD _;have hw:=bn (n:=(j:Int)+1) (by omega) (by omega);have bf:uF.sh (a.2.1[i][j].2.1,a.2.1[i][j].2.1)=M.pure true:=EI (hs _ (List.getElem_mem aD));simp_all
    simp
   simp
  ·rfl
  ·intro i G _;have hw:=bn (n:=(i:Int)+1) (by omega) (by omega);simp_all
  simp
 ·rfl
 ·intro i G _;have hw:=bn (n:=(i:Int)+1) (by omega) (by omega);simp_all
 simp
abbrev EJ:aL:=⟨.ay wh wh,.bool,λx=>x.1=x.2/\e' x.1.1/\H.ij x.1.2,λ_=>true⟩
theorem arM(x):M.le (Yt Jl.sh Jm.sh uF.sh x) (EJ.sh x):=M.bj λh=>by
 obtain⟨a,b⟩:=x;obtain⟨rfl,⟨h1,h2,h3,aT,bx,c_,fN⟩,hc⟩:a=b/\e' a.1/\H.ij a.2:=h;unfold Yt;rw[show Jl.sh (a.2,a.2)=M.pure true from M.bF ⟨rfl,hc⟩ _,show Jm.sh (a.1.1,a.1.1)=M.pure true from M.bF ⟨rfl,h1⟩ _,EI h2];simp only[M.ku,M.aE];rw[if_neg (by simp)];rw[M.dj a.1.2.2.1 (λi (_:Unit)=>((i:Int),a.1,a.1,())) (λ_ b=>.next b) (λ_=>.next (a.1,a.1,())) () ?_ ?_ ?_]
 ·rw[dZ,M.aE,M.bL];rw[M.dj a.1.2.2.2.1 (λi (_:Unit)=>((i:Int),a.1,a.1,())) (λ_ b=>.next b) (λ_=>.next (a.1,a.1,())) () ?_ ?_ ?_]
  ·rw[dZ,M.aE,M.bL];rw[M.dj a.1.2.2.2.2.1 (λi (_:Unit)=>((i:Int),a.1,a.1,())) (λ_ b=>.next b) (λ_=>.next ()) () ?_ ?_ ?_]
   ·rw[dZ,M.aE,M.bL]
   ·rfl
   ·intro i G _;have hw:=bn (n:=(i:Int)+1) (by omega) (by omega);simp_all
   simp
  ·rfl
  ·intro i G _;have hw:=bn (n:=(i:Int)+1) (by omega) (by omega);have bf:uF.sh (a.1.2.2.2.1[i].1,a.1.2.2.2.1[i].1)=M.pure true:=EI (fN _ (List.getElem_mem G));simp_all
  simp
 ·rfl
 ·intro i G _;have hw:=bn (n:=(i:Int)+1) (by omega) (by omega);have bf:uF.sh (a.1.2.2.1[i].2.2.2.2,a.1.2.2.1[i].2.2.2.2)=M.pure true:=EI (c_ _ (List.getElem_mem G));simp_all
 simp
theorem arN{d:aX}(h:cW d):EJ.sh (d,d)=M.pure true:=M.bF ⟨rfl,h.gQ,h.ij⟩ _
abbrev EK:Type:=Int×Int×Int×Int
def Qh(s:aH)(c:EK):EK:=
 if (!(jr s).2.2)=true then c else if decide ((jr s).1=[119,105,115,104])=true then (IntKind.wrap .i64 (c.1+1),c.2)
 else if decide ((jr s).1=[112,105,101,99,101])=true then (c.1,IntKind.wrap .i64 (c.2.1+1),c.2.2.1,IntKind.wrap .i64 (c.2.2.2+IntKind.wrap .i64 (((jr s).2.1.length:Int) - 4)))
 else if decide ((jr s).1=[99,111,109,101,115])=true then (c.1,c.2.1,IntKind.wrap .i64 (c.2.2.1+1),c.2.2.2) else c
def aaf(d:aX):EK:=((d.1.2.2.2.1.length:Int),(d.1.2.2.1.length:Int),(d.1.2.2.2.2.1.length:Int),d.1.2.2.1.foldl (λn p=>IntKind.wrap .i64 (n+(p.2.2.2.2.length:Int))) 0)
def arO(c:EK):Bool:=decide (c.1 > 3)||decide (c.2.1 > 4)||decide (c.2.2.1 > 3)||decide (c.2.2.2 > 4)
def rE(d:aX)(l:List aH):Bool:=
 if (uC d.1||H.lV d.2||decide ((l.length:Int) > 60))=true then true else if (l.any λs=>decide ((s.length:Int) > 80))=true then true
 else decide (jT d=0)&&arO (l.foldl (λc s=>Qh s c) (aaf d))
abbrev Jn(x:aX×List aH):Prop:=e' x.1.1/\H.ij x.1.2/\x.2.length<2 ^ 63
abbrev yE:aL:=⟨.ay wh sP,.bool,Jn,λx=>rE x.1 x.2⟩
theorem arP(x):M.le (Yy sU.sh IK.sh H.vM.sh Bk.sh x) (yE.sh x):=M.bj λh=>by
 obtain⟨d,l⟩:=x;obtain⟨h1,h2,h3⟩:Jn (d,l):=h;have iZ:d.1.2.2.1.length<2 ^ 63:=h1.2.2.1;change l.length<2 ^ 63 at h3;unfold Yy;show _=M.pure (rE d l);unfold rE;rw[show IK.sh d.1=M.pure (uC d.1) from M.bF h1 _,M.aE,show H.vM.sh d.2=M.pure (H.lV d.2) from M.bF h2 _,M.ku,M.aE];have e:(uC d.1||(if (!uC d.1)=true then H.lV d.2 else false)||decide (Int.ofNat l.length > 60))=(uC d.1||H.lV d.2||decide ((l.length:Int) > 60)):=by grind
 rw[e];by_cases au:(uC d.1||H.lV d.2||decide ((l.length:Int) > 60))=true
 ·grind
 ·rw[if_neg au,if_neg au];rw[M.dj d.1.2.2.1 (λi (n:Int)=>(l,(d.1.2.2.2.1.length:Int),(d.1.2.2.1.length:Int),(d.1.2.2.2.2.1.length:Int),n,(i:Int),d,())) (λp n=>.next (IntKind.wrap .i64 (n+(p.2.2.2.2.length:Int)))) (λn=>.next (l,(d.1.2.2.2.1.length:Int),(d.1.2.2.1.length:Int),(d.1.2.2.2.2.1.length:Int),n,d,())) 0 ?_ ?_ ?_]
  ·rw[dZ,M.aE,M.bL];rw[M.dj l (λi (c:EK)=>(l,c.1,c.2.1,c.2.2.1,c.2.2.2,(i:Int),d,())) (λs c=>if decide ((s.length:Int) > 80)=true then .done (.done true) else .next (Qh s c)) (λc=>.next (c.1,c.2.1,c.2.2.1,c.2.2.2,d,())) (aaf d) ?_ ?_ ?_]
   ·rw[Je,M.aE];by_cases aU:(l.any λs=>decide ((s.length:Int) > 80))=true
    ·simp_all
    ·rw[if_neg aU,if_neg aU,M.bL];rw[show sU.sh d=M.pure (jT d) from M.bF ⟨h1,h2⟩ _,M.aE];rfl
   ·rfl
   ·intro i G c;have hw:=bn (n:=(i:Int)+1) (by omega) (by omega);simp only[Prod.cI,Prod.fh,Prod.gv,bI,cG G,if_true,c6 G,cq G,M.bg,b4];by_cases hc:decide ((l[i].length:Int) > 80)=true
    ·simp_all
    ·rw[if_neg hc,if_neg hc];rw[Qf (by grind),M.aE];unfold Qh;split
     ·simp_all
     ·split
      ·simp_all
      ·split
       ·simp_all
       ·split
        ·rw[M.aE,M.bL];simp only[hw];rfl
        ·rw[M.aE,M.bL];simp only[hw];rfl
   simp
  ·rfl
  ·intro i G n;have hw:=bn (n:=(i:Int)+1) (by omega) (by omega);simp_all
  simp
abbrev EL:aL:=⟨.ay wh (.ay sP (.int .i64)),.bool,λx=>Jn (x.1,x.2.1),λx=>!rE x.1 x.2.1&&decide (jT x.1=0)&&decide ((x.2.1.length:Int)<=x.2.2)⟩
theorem arQ(x):M.le (Yx yE.sh sU.sh x) (EL.sh x):=M.bj λh=>by
 obtain⟨d,l,n⟩:=x;obtain⟨h1,h2,h3⟩:Jn (d,l):=h;unfold Yx;rw[show yE.sh (d,l)=M.pure (rE d l) from M.bF ⟨h1,h2,h3⟩ _,M.aE,show sU.sh d=M.pure (jT d) from M.bF ⟨h1,h2⟩ _,M.ku,M.aE];grind
theorem aag{d:aX}{l:List aH}{n:Int}(h1:e' d.1)(h2:H.ij d.2)(h:(!rE d l&&decide (jT d=0)&&decide ((l.length:Int)<=n))=true):cW d/\(l.length:Int)<=n/\∀ s∈l,s.length<=80:=by
 simp only[Bool.and_eq_true,Bool.not_eq_true',decide_eq_true_eq]at h;obtain⟨⟨au,he⟩,aB⟩:=h;unfold rE at au;split at au
 ·grind
 ·rename_i aU;split at au
  ·grind
  ·rename_i ad;simp only[Bool.or_eq_true,not_or,Bool.not_eq_true]at aU;refine⟨Z_ h1 (H.amV aU.1.2) he,aB,λs hs=>?_⟩;grind
theorem arR:e' oQ.1/\H.ij oQ.2:=⟨aqa,by decide,by decide,by decide,by decide⟩
theorem arS:H.gx oQ.2:=⟨⟨by decide,by decide,by decide,by decide⟩,λ_=>by decide +kernel⟩
abbrev EM:aL:=⟨.cA,.bool,λ_=>True,λ_=>true⟩
theorem arT:wk oQ pg=(Jd,(cO (dK oQ) pg).2,0):=by
 unfold wk;rw[if_neg (by rw[arq];decide),if_neg (by decide),Qd.1]
theorem arU(x):M.le (YC uE.sh yD.sh Jc.sh x) (EM.sh x):=M.bj λ_=>by
 unfold YC;rw[show Jc.sh ()=M.pure oQ from rfl,M.aE];show M.bind (uE.sh (oQ,pg)) _=M.pure true;rw[show uE.sh (oQ,pg)=M.pure (wk oQ pg) from M.bF ⟨arR.1,arS,by decide,by decide⟩ _,M.aE,arT];show M.bind (b7 (decide ((0:Int)=0)) (yD.sh (Jd,Jd)) false) _=_;rw[aae (by decide),M.ku,M.aE];simp only[bI,Qd.2.1,Qd.2.2];simp
theorem aah:EM.sh ()=M.pure true:=rfl
theorem aai{d:aX}(aw:cW d){l:List aH}(ax8:l.length<=40)(an:∀ s∈l,s.length<=10000):uE.sh (d,l)=M.pure ((cO (dK d) l).1,(cO (dK d) l).2,0):=by
 have e:uE.sh (d,l)=M.pure (wk d l):=M.bF ⟨aw.gQ,aw.gx,by show l.length<2 ^ 63;omega,an⟩ _;rw[e];unfold wk;rw[if_neg (by rw[aw.ZQ];decide),if_neg (by omega)]
theorem GL{d:aX}{l:List aH}{n:Int}(h1:e' d.1)(h2:H.ij d.2)(h3:l.length<2 ^ 63):EL.sh (d,l,n)=M.pure (!rE d l&&decide (jT d=0)&&decide ((l.length:Int)<=n)):=M.bF ⟨h1,h2,h3⟩ _
end Go.Fer.W
namespace Go.Proofs
open Go.Shelf
theorem cn{P:Program}{k:Nat}{f g:Func}(h:P.funcs[k]?=some f)(e:f=g:=by kernel_rfl):P.funcs[k]?=some g:=h.trans (congrArg some e)
open Tryz
def Tryz.aaj:Go.Shelf.Ren:=⟨fun | 156=>258 | 165=>318 | 166=>319 | 169=>320 | 240=>358 | 241=>359 | 276=>386 | 277=>387 | n=>n,fun | 31=>48 | 9=>9 | 3=>3 | 4=>4 | 0=>0 | 20=>20 | 72=>345 | 76=>267 | 70=>343 | 37=>171 | 75=>266 | 127=>380 | 164=>405 | 5=>5 | 80=>347 | n=>n,fun | n=>n⟩
theorem Tryz.aak : Go.Proofs.Lays.n156 Tryz.prog Tryz.aaj := {
  mixed:=by kernel_rfl
  f156:=cn func258
  f165:=cn func318
  f166:=cn func319
  f169:=cn func320
  f240:=cn func358
  f241:=cn func359
  f276:=cn func386
  f277:=cn func387
  t0:=underlying0
  a0:=isAgg0
  z0:=sizeOf0
  v0:=zeroValue0
  t3:=underlying3
  a3:=isAgg3
  z3:=sizeOf3
  v3:=zeroValue3
  t4:=underlying4
  a4:=isAgg4
  z4:=sizeOf4
  v4:=zeroValue4
  t9:=underlying9
  a9:=isAgg9
  z9:=sizeOf9
  v9:=zeroValue9
  t20:=underlying20
  a20:=isAgg20
  z20:=sizeOf20
  v20:=zeroValue20
  t31:=underlying48
  a31:=isAgg48
  z31:=sizeOf48
  v31:=zeroValue48
  t37:=underlying171
  a37:=isAgg171
  z37:=sizeOf171
  v37:=zeroValue171
  t70:=underlying343
  a70:=isAgg343
  z70:=sizeOf343
  v70:=zeroValue343
  t72:=underlying345
  a72:=isAgg345
  z72:=sizeOf345
  v72:=zeroValue345
  t75:=underlying266
  a75:=isAgg266
  z75:=sizeOf266
  v75:=zeroValue266
  t76:=underlying267
  a76:=isAgg267
  z76:=sizeOf267
  v76:=zeroValue267
  t127:=underlying380
  a127:=isAgg380
  z127:=sizeOf380
  v127:=zeroValue380
  t164:=underlying405
  a164:=isAgg405
  z164:=sizeOf405
  v164:=zeroValue405 }
theorem Tryz.aal : Builder.Extra Tryz.prog Tryz.aaj := {
  sizeBuilder:=by kernel_rfl
  liesBuilder:=by kernel_rfl
  t5:=underlying5
  a5:=isAgg5
  z5:=sizeOf5
  v5:=zeroValue5
  infoByte:=by kernel_rfl
  cellsByte:=by kernel_rfl
  sizeByte:=by kernel_rfl
  neB5:=by decide }
def Tryz.arV:Go.Shelf.Ren:=⟨fun | 171=>204 | 243=>264 | 246=>330 | 283=>368 | 284=>369 | 285=>370 | 286=>371 | 129=>291 | 317=>392 | 318=>393 | 319=>394 | 320=>395 | 337=>399 | 338=>400 | n=>n,fun | 3=>3 | 9=>9 | 2=>2 | 4=>4 | 171=>386 | 0=>0 | 53=>285 | 37=>171 | 5=>5 | 173=>388 | 212=>418 | 51=>282 | 20=>20 | 213=>419 | 46=>228 | 232=>423 | 233=>424 | n=>n,fun | 17=>5 | 18=>6 | 19=>7 | n=>n⟩
theorem Tryz.aam : Go.Proofs.LaysM.n171 Tryz.prog Tryz.arV := {
  mixed:=by kernel_rfl
  f129:=cn func291
  f171:=cn func204
  f243:=cn func264
  f246:=cn func330
  f283:=cn func368
  f284:=cn func369
  f285:=cn func370
  f286:=cn func371
  f317:=cn func392
  f318:=cn func393
  f319:=cn func394
  f320:=cn func395
  f337:=cn func399
  f338:=cn func400
  t0:=underlying0
  a0:=isAgg0
  z0:=sizeOf0
  v0:=zeroValue0
  t2:=underlying2
  a2:=isAgg2
  z2:=sizeOf2
  v2:=zeroValue2
  t3:=underlying3
  a3:=isAgg3
  z3:=sizeOf3
  v3:=zeroValue3
  t4:=underlying4
  a4:=isAgg4
  z4:=sizeOf4
  v4:=zeroValue4
  t5:=underlying5
  a5:=isAgg5
  z5:=sizeOf5
  v5:=zeroValue5
  t9:=underlying9
  a9:=isAgg9
  z9:=sizeOf9
  v9:=zeroValue9
  t20:=underlying20
  a20:=isAgg20
  z20:=sizeOf20
  v20:=zeroValue20
  t37:=underlying171
  a37:=isAgg171
  z37:=sizeOf171
  v37:=zeroValue171
  t46:=underlying228
  a46:=isAgg228
  z46:=sizeOf228
  v46:=zeroValue228
  t51:=underlying282
  a51:=isAgg282
  z51:=sizeOf282
  v51:=zeroValue282
  t53:=underlying285
  a53:=isAgg285
  z53:=sizeOf285
  v53:=zeroValue285
  t171:=underlying386
  a171:=isAgg386
  z171:=sizeOf386
  v171:=zeroValue386
  t173:=underlying388
  a173:=isAgg388
  z173:=sizeOf388
  v173:=zeroValue388
  t212:=underlying418
  a212:=isAgg418
  z212:=sizeOf418
  v212:=zeroValue418
  t213:=underlying419
  a213:=isAgg419
  z213:=sizeOf419
  t232:=underlying423
  a232:=isAgg423
  z232:=sizeOf423
  v232:=zeroValue423
  t233:=underlying424
  a233:=isAgg424
  z233:=sizeOf424
  v233:=zeroValue424
  g17:=by kernel_rfl
  g18:=by kernel_rfl
  g19:=by kernel_rfl
  i0:=by kernel_rfl
  i2:=by kernel_rfl
  i3:=by kernel_rfl
  i4:=by kernel_rfl
  i5:=by kernel_rfl
  i9:=by kernel_rfl
  i20:=by kernel_rfl
  i37:=by kernel_rfl
  i46:=by kernel_rfl
  i51:=by kernel_rfl
  i53:=by kernel_rfl
  i171:=by kernel_rfl
  i173:=by kernel_rfl
  i212:=by kernel_rfl
  i232:=by kernel_rfl
  i233:=by kernel_rfl
  m17:=by kernel_rfl
  m18:=by kernel_rfl
  m19:=by kernel_rfl }
def Tryz.arW:Go.Shelf.Ren:=⟨fun | 172=>203 | 244=>262 | 245=>263 | 247=>325 | 279=>326 | 280=>327 | 281=>328 | 282=>329 | 287=>365 | 316=>366 | 171=>204 | 205=>367 | 321=>390 | 322=>391 | 243=>264 | 246=>330 | 283=>368 | 284=>369 | 285=>370 | 286=>371 | 129=>291 | 317=>392 | 318=>393 | 319=>394 | 320=>395 | 337=>399 | 338=>400 | n=>n,fun | 9=>9 | 3=>3 | 75=>266 | 76=>267 | 4=>4 | 5=>5 | 167=>351 | 37=>171 | 0=>0 | 85=>352 | 2=>2 | 168=>354 | 53=>285 | 175=>381 | 46=>228 | 210=>384 | 127=>380 | 145=>416 | 143=>414 | 21=>21 | 171=>386 | 173=>388 | 212=>418 | 51=>282 | 20=>20 | 213=>419 | 232=>423 | 233=>424 | 80=>347 | n=>n,fun | 15=>1 | 16=>2 | 17=>5 | 18=>6 | 19=>7 | n=>n⟩
theorem Tryz.Qi : Go.Proofs.LaysC.n172 Tryz.prog Tryz.arW := {
  mixed:=by kernel_rfl
  f129:=cn func291
  f171:=cn func204
  f172:=cn func203
  f205:=cn func367
  f243:=cn func264
  f244:=cn func262
  f245:=cn func263
  f246:=cn func330
  f247:=cn func325
  f279:=cn func326
  f280:=cn func327
  f281:=cn func328
  f282:=cn func329
  f283:=cn func368
  f284:=cn func369
  f285:=cn func370
  f286:=cn func371
  f287:=cn func365
  f316:=cn func366
  f317:=cn func392
  f318:=cn func393
  f319:=cn func394
  f320:=cn func395
  f321:=cn func390
  f322:=cn func391
  f337:=cn func399
  f338:=cn func400
  t0:=underlying0
  a0:=isAgg0
  z0:=sizeOf0
  v0:=zeroValue0
  t2:=underlying2
  a2:=isAgg2
  z2:=sizeOf2
  v2:=zeroValue2
  t3:=underlying3
  a3:=isAgg3
  z3:=sizeOf3
  v3:=zeroValue3
  t4:=underlying4
  a4:=isAgg4
  z4:=sizeOf4
  v4:=zeroValue4
  t5:=underlying5
  a5:=isAgg5
  z5:=sizeOf5
  v5:=zeroValue5
  t9:=underlying9
  a9:=isAgg9
  z9:=sizeOf9
  v9:=zeroValue9
  t20:=underlying20
  a20:=isAgg20
  z20:=sizeOf20
  v20:=zeroValue20
  t21:=underlying21
  a21:=isAgg21
  z21:=sizeOf21
  v21:=zeroValue21
  t37:=underlying171
  a37:=isAgg171
  z37:=sizeOf171
  v37:=zeroValue171
  t46:=underlying228
  a46:=isAgg228
  z46:=sizeOf228
  v46:=zeroValue228
  t51:=underlying282
  a51:=isAgg282
  z51:=sizeOf282
  v51:=zeroValue282
  t53:=underlying285
  a53:=isAgg285
  z53:=sizeOf285
  v53:=zeroValue285
  t75:=underlying266
  a75:=isAgg266
  z75:=sizeOf266
  v75:=zeroValue266
  t76:=underlying267
  a76:=isAgg267
  z76:=sizeOf267
  v76:=zeroValue267
  t85:=underlying352
  a85:=isAgg352
  z85:=sizeOf352
  v85:=zeroValue352
  t127:=underlying380
  a127:=isAgg380
  z127:=sizeOf380
  v127:=zeroValue380
  t143:=underlying414
  a143:=isAgg414
  z143:=sizeOf414
  v143:=zeroValue414
  t145:=underlying416
  a145:=isAgg416
  z145:=sizeOf416
  v145:=zeroValue416
  t167:=underlying351
  a167:=isAgg351
  z167:=sizeOf351
  v167:=zeroValue351
  t168:=underlying354
  a168:=isAgg354
  z168:=sizeOf354
  v168:=zeroValue354
  t171:=underlying386
  a171:=isAgg386
  z171:=sizeOf386
  v171:=zeroValue386
  t173:=underlying388
  a173:=isAgg388
  z173:=sizeOf388
  v173:=zeroValue388
  t175:=underlying381
  a175:=isAgg381
  z175:=sizeOf381
  v175:=zeroValue381
  t210:=underlying384
  a210:=isAgg384
  z210:=sizeOf384
  v210:=zeroValue384
  t212:=underlying418
  a212:=isAgg418
  z212:=sizeOf418
  v212:=zeroValue418
  t213:=underlying419
  a213:=isAgg419
  z213:=sizeOf419
  t232:=underlying423
  a232:=isAgg423
  z232:=sizeOf423
  v232:=zeroValue423
  t233:=underlying424
  a233:=isAgg424
  z233:=sizeOf424
  v233:=zeroValue424
  g15:=by kernel_rfl
  g16:=by kernel_rfl
  g17:=by kernel_rfl
  g18:=by kernel_rfl
  g19:=by kernel_rfl
  t80:=underlying347
  a80:=isAgg347
  z80:=sizeOf347
  v80:=zeroValue347
  i0:=by kernel_rfl
  i2:=by kernel_rfl
  i3:=by kernel_rfl
  i4:=by kernel_rfl
  i5:=by kernel_rfl
  i9:=by kernel_rfl
  i20:=by kernel_rfl
  i21:=by kernel_rfl
  i37:=by kernel_rfl
  i46:=by kernel_rfl
  i51:=by kernel_rfl
  i53:=by kernel_rfl
  i75:=by kernel_rfl
  i76:=by kernel_rfl
  i80:=by kernel_rfl
  i85:=by kernel_rfl
  i127:=by kernel_rfl
  i143:=by kernel_rfl
  i145:=by kernel_rfl
  i167:=by kernel_rfl
  i168:=by kernel_rfl
  i171:=by kernel_rfl
  i173:=by kernel_rfl
  i175:=by kernel_rfl
  i210:=by kernel_rfl
  i212:=by kernel_rfl
  i232:=by kernel_rfl
  i233:=by kernel_rfl
  m15:=by kernel_rfl
  m16:=by kernel_rfl
  m17:=by kernel_rfl
  m18:=by kernel_rfl
  m19:=by kernel_rfl
  c0:=by kernel_rfl
  c2:=by kernel_rfl
  c3:=by kernel_rfl
  c4:=by kernel_rfl
  c5:=by kernel_rfl
  c9:=by kernel_rfl
  c20:=by kernel_rfl
  c21:=by kernel_rfl
  c37:=by kernel_rfl
  c46:=by kernel_rfl
  c51:=by kernel_rfl
  c53:=by kernel_rfl
  c75:=by kernel_rfl
  c76:=by kernel_rfl
  c80:=by kernel_rfl
  c85:=by kernel_rfl
  c127:=by kernel_rfl
  c143:=by kernel_rfl
  c145:=by kernel_rfl
  c167:=by kernel_rfl
  c168:=by kernel_rfl
  c171:=by kernel_rfl
  c173:=by kernel_rfl
  c175:=by kernel_rfl
  c210:=by kernel_rfl
  c212:=by kernel_rfl
  c213:=by kernel_rfl
  c232:=by kernel_rfl
  c233:=by kernel_rfl }
open Go.RowKit in
theorem Tryz.strconv_Atoi_ok(s:ByteArray)(zh:s.size<=9223372036854775806)(v:Int)(h:Lib.atoiAll s.data.toList=.ok v)(w:World) :
  Calls Tryz.prog 203 #[.string s] w λe w'=>e=.returned (.tuple #[.int .i64 v,.nilIface])/\(w'=w\/∃ t,w'=Lib.bytesWorld w 5 t):=Any.strconv_Atoi_ok Tryz.Qi s zh v h w
open Go.RowKit in
theorem Tryz.strconv_Atoi_syntax(s:ByteArray)(rT:s.size<=281474976710656)(h:Lib.atoiAll s.data.toList=Lib.atoiAll [])(h5:Value)(w:World)(hv:w.cell? ⟨1,0,none⟩=some h5)(pC:h5=.nilIface\/∃ te pe,h5=.iface te pe) :
  Calls Tryz.prog 203 #[.string s] w λe w'=>∃ N,e=.returned (.tuple #[.int .i64 (0),.iface 354 (.pointer (some ⟨N,0,none⟩))])/\w.heap.size<=N/\w'.heap[N]?=some (.cells #[.string ⟨#[65,116,111,105]⟩,.string s,h5] 384 (0,0))/\Below w.heap.size w w':=Any.strconv_Atoi_syntax Tryz.Qi s rT h h5 w hv pC
open Go.RowKit in
theorem Tryz.strconv_Atoi_range(s:ByteArray)(rT:s.size<=281474976710656)(h:Lib.atoiAll s.data.toList=.range)(h5:Value)(w:World)(hv:w.cell? ⟨2,0,none⟩=some h5)(pC:h5=.nilIface\/∃ te pe,h5=.iface te pe) :
  Calls Tryz.prog 203 #[.string s] w λe w'=>∃ N,e=.returned (.tuple #[.int .i64 (Lib.atoiSat s.data.toList),.iface 354 (.pointer (some ⟨N,0,none⟩))])/\w.heap.size<=N/\w'.heap[N]?=some (.cells #[.string ⟨#[65,116,111,105]⟩,.string s,h5] 384 (0,0))/\Below w.heap.size w w':=Any.strconv_Atoi_range Tryz.Qi s rT h h5 w hv pC
def Tryz.arX:Go.Shelf.Ren:=⟨fun | 146=>139 | 221=>202 | 268=>259 | 138=>260 | 143=>261 | 195=>321 | 197=>322 | 218=>323 | 219=>324 | 260=>360 | 217=>361 | 225=>362 | 224=>363 | 267=>364 | 266=>388 | 314=>389 | n=>n,fun | 9=>9 | 31=>48 | 3=>3 | 4=>4 | 0=>0 | 105=>348 | 21=>21 | 5=>5 | 46=>228 | 119=>408 | 139=>411 | 138=>410 | 146=>283 | 51=>282 | n=>n,fun | 1=>0 | 3=>3 | 4=>4 | n=>n⟩
theorem Tryz.arY : Go.Proofs.Lays.n146 Tryz.prog Tryz.arX := {
  mixed:=by kernel_rfl
  f138:=cn func260
  f143:=cn func261
  f146:=cn func139
  f195:=cn func321
  f197:=cn func322
  f217:=cn func361
  f218:=cn func323
  f219:=cn func324
  f221:=cn func202
  f224:=cn func363
  f225:=cn func362
  f260:=cn func360
  f266:=cn func388
  f267:=cn func364
  f268:=cn func259
  f314:=cn func389
  t0:=underlying0
  a0:=isAgg0
  z0:=sizeOf0
  v0:=zeroValue0
  t3:=underlying3
  a3:=isAgg3
  z3:=sizeOf3
  v3:=zeroValue3
  t4:=underlying4
  a4:=isAgg4
  z4:=sizeOf4
  v4:=zeroValue4
  t5:=underlying5
  a5:=isAgg5
  z5:=sizeOf5
  v5:=zeroValue5
  t9:=underlying9
  a9:=isAgg9
  z9:=sizeOf9
  v9:=zeroValue9
  t21:=underlying21
  a21:=isAgg21
  z21:=sizeOf21
  v21:=zeroValue21
  t31:=underlying48
  a31:=isAgg48
  z31:=sizeOf48
  v31:=zeroValue48
  t46:=underlying228
  a46:=isAgg228
  z46:=sizeOf228
  v46:=zeroValue228
  t51:=underlying282
  a51:=isAgg282
  z51:=sizeOf282
  v51:=zeroValue282
  t105:=underlying348
  a105:=isAgg348
  z105:=sizeOf348
  v105:=zeroValue348
  t119:=underlying408
  a119:=isAgg408
  z119:=sizeOf408
  t138:=underlying410
  a138:=isAgg410
  z138:=sizeOf410
  v138:=zeroValue410
  t139:=underlying411
  a139:=isAgg411
  z139:=sizeOf411
  v139:=zeroValue411
  t146:=underlying283
  a146:=isAgg283
  z146:=sizeOf283
  v146:=zeroValue283
  g1:=by kernel_rfl
  g3:=by kernel_rfl
  g4:=by kernel_rfl }
def Tryz.arZ:Go.Shelf.Ren:=⟨fun | 189=>161 | 125=>215 | 257=>214 | 128=>290 | 129=>291 | 294=>281 | 295=>282 | 296=>283 | 297=>284 | 298=>285 | 299=>286 | 216=>287 | 300=>288 | 301=>289 | 328=>340 | 329=>341 | 330=>342 | 331=>343 | 332=>344 | 215=>339 | 343=>383 | n=>n,fun | 28=>27 | 3=>3 | 46=>228 | 0=>0 | 51=>282 | 53=>285 | 4=>4 | 183=>314 | 182=>313 | 131=>193 | 5=>5 | 9=>9 | 218=>359 | 222=>363 | 228=>398 | 229=>331 | n=>n,fun | n=>n⟩
theorem Tryz.aan : Go.Proofs.Lays.n189 Tryz.prog Tryz.arZ := {
  mixed:=by kernel_rfl
  f125:=cn func215
  f128:=cn func290
  f129:=cn func291
  f189:=cn func161
  f215:=cn func339
  f216:=cn func287
  f257:=cn func214
  f294:=cn func281
  f295:=cn func282
  f296:=cn func283
  f297:=cn func284
  f298:=cn func285
  f299:=cn func286
  f300:=cn func288
  f301:=cn func289
  f328:=cn func340
  f329:=cn func341
  f330:=cn func342
  f331:=cn func343
  f332:=cn func344
  f343:=cn func383
  t0:=underlying0
  a0:=isAgg0
  z0:=sizeOf0
  v0:=zeroValue0
  t3:=underlying3
  a3:=isAgg3
  z3:=sizeOf3
  v3:=zeroValue3
  t4:=underlying4
  a4:=isAgg4
  z4:=sizeOf4
  v4:=zeroValue4
  t5:=underlying5
  a5:=isAgg5
  z5:=sizeOf5
  v5:=zeroValue5
  t9:=underlying9
  a9:=isAgg9
  z9:=sizeOf9
  v9:=zeroValue9
  t28:=underlying27
  a28:=isAgg27
  z28:=sizeOf27
  v28:=zeroValue27
  t46:=underlying228
  a46:=isAgg228
  z46:=sizeOf228
  v46:=zeroValue228
  t51:=underlying282
  a51:=isAgg282
  z51:=sizeOf282
  v51:=zeroValue282
  t53:=underlying285
  a53:=isAgg285
  z53:=sizeOf285
  v53:=zeroValue285
  t131:=underlying193
  a131:=isAgg193
  z131:=sizeOf193
  v131:=zeroValue193
  t182:=underlying313
  a182:=isAgg313
  z182:=sizeOf313
  v182:=zeroValue313
  t183:=underlying314
  a183:=isAgg314
  z183:=sizeOf314
  v183:=zeroValue314
  t218:=underlying359
  a218:=isAgg359
  z218:=sizeOf359
  v218:=zeroValue359
  t222:=underlying363
  a222:=isAgg363
  z222:=sizeOf363
  v222:=zeroValue363
  t228:=underlying398
  a228:=isAgg398
  z228:=sizeOf398
  v228:=zeroValue398
  t229:=underlying331
  a229:=isAgg331
  z229:=sizeOf331
  v229:=zeroValue331 }
def Tryz.ar0:Go.Shelf.Ren:=⟨fun | 4=>257 | n=>n,fun | 22=>27 | 25=>3 | 3=>3 | 4=>4 | 9=>9 | 20=>20 | 0=>0 | n=>n,fun | n=>n⟩
theorem Tryz.aao : Go.Proofs.Lays8.n4 Tryz.prog Tryz.ar0 := {
  mixed:=by kernel_rfl
  f4:=⟨Tryz.f257.name,by decide,cn func257⟩
  t0:=underlying0
  a0:=isAgg0
  z0:=sizeOf0
  v0:=zeroValue0
  t3:=underlying3
  a3:=isAgg3
  z3:=sizeOf3
  v3:=zeroValue3
  t4:=underlying4
  a4:=isAgg4
  z4:=sizeOf4
  v4:=zeroValue4
  t9:=underlying9
  a9:=isAgg9
  z9:=sizeOf9
  v9:=zeroValue9
  t20:=underlying20
  a20:=isAgg20
  z20:=sizeOf20
  v20:=zeroValue20
  t22:=underlying27
  a22:=isAgg27
  z22:=sizeOf27
  v22:=zeroValue27 }
def Tryz.ar1:Go.Shelf.Ren:=⟨fun | 4=>256 | n=>n,fun | 22=>34 | 25=>125 | 3=>3 | 4=>4 | 9=>9 | 20=>20 | 0=>0 | n=>n,fun | n=>n⟩
theorem Tryz.aap : Go.Proofs.Lays8.n4 Tryz.prog Tryz.ar1 := {
  mixed:=by kernel_rfl
  f4:=⟨Tryz.f256.name,by decide,cn func256⟩
  t0:=underlying0
  a0:=isAgg0
  z0:=sizeOf0
  v0:=zeroValue0
  t3:=underlying3
  a3:=isAgg3
  z3:=sizeOf3
  v3:=zeroValue3
  t4:=underlying4
  a4:=isAgg4
  z4:=sizeOf4
  v4:=zeroValue4
  t9:=underlying9
  a9:=isAgg9
  z9:=sizeOf9
  v9:=zeroValue9
  t20:=underlying20
  a20:=isAgg20
  z20:=sizeOf20
  v20:=zeroValue20
  t22:=underlying34
  a22:=isAgg34
  z22:=sizeOf34
  v22:=zeroValue34 }
end Go.Proofs
namespace Go.Fer.W
theorem aaq:∀ s:aH,(Go.Lib.index s [32]=-1/\cD s=[s])\/∃ t r,s=t++32::r/\Go.Lib.index s [32]=(t.length:Int)/\cD s=t::cD r
 | []=>.inl ⟨rfl,rfl⟩
 | b::l=>by
  unfold Go.Lib.index;by_cases ad:b=32
  ·subst ad;exact .inr ⟨[],l,rfl,by rfl,by rfl⟩
  ·have hp:List.isPrefixOf [32] (b::l)=false:=by
    grind
   rw[hp];have hs:=uD l;rcases aaq l with⟨h1,h2⟩ | ⟨t,r,h1,h2,h3⟩
   ·rw[h1];refine .inl ⟨rfl,?_⟩;unfold cD;grind
   ·rw[h2];refine .inr ⟨b::t,r,by grind,?_,?_⟩
    ·rfl
    ·conv=>lhs;unfold cD
     grind
theorem ar2:∀ (n:Nat) (s:aH),s.length<=n->Go.Lib.splitK [32] 0 (Go.Lib.count s [32]) s=cD s:=by
 intro n;induction n with
 | zero=>
  intro s h;have:s=[]:=List.eq_nil_of_length_eq_zero (by omega);subst this;rfl
 | succ n aJ=>
  intro s h;rcases aaq s with⟨h1,h2⟩ | ⟨t,r,h1,h2,h3⟩
  ·rw[Go.Lib.count_miss h1,h2];rfl
  ·rw[Go.Lib.count_hit (by simp) h2,h3,Nat.add_comm,Go.Lib.splitK,h2];have:((t.length:Int) == -1)=false:=by rfl
   rw[this];have e:((t.length:Int)).toNat=t.length:=rfl;have Xh:s.drop (t.length+1)=r:=by simp_all
   grind
end Go.Fer.W
namespace Go.Fer.n3
open Go Go.Proofs Go.RowKit
section
variable {P:Program} {F:Nat->Prop} {w:World}
theorem Qj(x:List UInt8):(ByteArray.mk x.toArray).data.toList=x:=by simp
theorem Jo(x:List UInt8):(ByteArray.mk x.toArray).size=x.length:=by rfl
theorem Qk{args:List Value}{x:List UInt8}(h:fb P .str F w args x):args=[.string ⟨x.toArray⟩]/\x.length<2 ^ 63:=by
 obtain⟨v,rfl,hv⟩:=(rG rfl).1 h;obtain⟨rfl,an⟩:=l1.1 hv;grind
theorem ar3{args:List Value}{x y:List UInt8}(h:fb P (.ay .str .str) F w args (x,y)):args=[.string ⟨x.toArray⟩,.string ⟨y.toArray⟩]/\x.length<2 ^ 63/\y.length<2 ^ 63:=by
 obtain⟨v,us,rfl,hv,hu⟩:=E2 h;obtain⟨rfl,an⟩:=l1.1 hv;obtain⟨rfl,fV⟩:=Qk hu;grind
theorem ar4(w:World)(k:Nat)(os:Array Obj):Below w.heap.size w (Go.Sort.grow (w.drewN k) os):=by
 refine⟨rfl,rfl,rfl,?_,λj aD=>?_⟩
 ·simp
 ·show (w.heap++os)[j]?=_;grind
theorem Jp(h:nv Tryz.prog F w){b:Nat}(ad:b<6):F b/\Q0 b λi=>w.cell? ⟨b,i,none⟩:=h b (Nat.lt_of_lt_of_le ad (of_decide_eq_true (by rfl)))
end
theorem aar(sep:ByteArray):∀ (k:Nat) (s:ByteArray),∀ x∈Lib.splitB sep 0 k s,x.size<=s.size
 | 0,s,x,hx=>by
  unfold Lib.splitB at hx;grind
 | k+1,s,x,hx=>by
  unfold Lib.splitB at hx;split at hx
  ·grind
  ·simp only[List.mem_cons]at hx;rcases hx with rfl | hx
   ·rw[ByteArray.size_extract];omega
   ·have:=aar sep k _ x hx;rw[ByteArray.size_extract]at this;omega
def p6(s sep:List UInt8):List (List UInt8):=(Lib.splitB ⟨sep.toArray⟩ 0 (Lib.countB ⟨s.toArray⟩ ⟨sep.toArray⟩) ⟨s.toArray⟩).map (·.data.toList)
theorem ar5(s:List UInt8):p6 s [32]=W.cD s:=by
 unfold p6;rw[Lib.splitB_data];exact W.ar2 s.length s (Nat.le_refl _)
abbrev ar6:Code:=Tryz.f139.body.getD .skip
theorem ar7:hR Tryz.prog 139 (.ay .str .str) (.slice .str) W.I8.sh where
 enter:=tS Tryz.func139 (show Tryz.f139.body=some ar6 by rfl) (by rfl)
 iK:=λF w args x bd fT aU hs=>by
  obtain⟨s,sep⟩:=x;obtain⟨hs,h1⟩:s.length<=10000/\sep=[32]:=hs;subst h1;obtain⟨rfl,an,fV⟩:=ar3 aU;obtain⟨_,m,ao⟩:=Jp fT (b:=0) (by decide);have bV:1<=(ByteArray.mk [32].toArray).size:=by decide
  refine (Any.strings_Split Tryz.arY (by kernel_rfl) ⟨s.toArray⟩ ⟨[32].toArray⟩ m w (by rw[Jo];omega) ao bV).mono ?_;rintro e w' ⟨rfl,rfl⟩;have hlen:=Lib.splitB_all ⟨[32].toArray⟩ bV 0 _ ⟨s.toArray⟩ rfl;have re:=Lib.countB_le ⟨[32].toArray⟩ bV _ ⟨s.toArray⟩ (Nat.le_refl _);rw[Jo]at re;have j7:=aar ⟨[32].toArray⟩ (Lib.countB ⟨s.toArray⟩ ⟨[32].toArray⟩) ⟨s.toArray⟩;rw[Jo]at j7;have wX:(p6 s [32]).length=Lib.countB ⟨s.toArray⟩ ⟨[32].toArray⟩+1:=by unfold p6;grind
  refine⟨_,p6 s [32],rfl,ar5 s,⟨[_],rfl,(rG rfl).2 ⟨_,rfl,(dC rfl).2 ⟨rfl,some ⟨w.heap.size,0,none⟩,Lib.countB ⟨s.toArray⟩ ⟨[32].toArray⟩+1,by rw[wX],by omega,by omega,nofun,λp hp hc=>?_⟩⟩⟩,?_⟩
  ·cases hp;refine⟨.inr ⟨Nat.le_refl _,by simp⟩,rfl,λi G=>?_⟩;have cZ:i<(Lib.splitB ⟨[32].toArray⟩ 0 (Lib.countB ⟨s.toArray⟩ ⟨[32].toArray⟩) ⟨s.toArray⟩).length:=by omega
   generalize aN:Lib.splitB ⟨[32].toArray⟩ 0 (Lib.countB ⟨s.toArray⟩ ⟨[32].toArray⟩) ⟨s.toArray⟩=B at cZ j7 hlen;have jm:(p6 s [32])[i]=B[i].data.toList:=by
    have h2:p6 s [32]=B.map (·.data.toList):=by unfold p6;rw[aN]
    grind
   have e0:Value.string B[i]=.string ⟨(B[i].data.toList).toArray⟩:=by simp
   refine⟨[.string B[i]],⟨.inr ⟨Nat.le_refl _,by simp⟩,rfl,λj aD=>?_⟩,?_,?_⟩
   ·have aD:j=0:=by grind
    subst aD;rw[uU (pV w _)];have e1:0+i*af.size .str+0=i:=by show 0+i*1+0=i;omega
    grind
   ·simp_all
   ·have:=j7 _ (List.getElem_mem cZ);have e:(B[i]).data.toList.length=(B[i]).size:=Array.length_toList;grind
  ·exact (Below.refl _ _).alloc (Nat.le_refl _) _
theorem aas{F : Nat -> Prop}{w : World}(h : nv Tryz.prog F w) : Lib.TabIs Tryz.prog w "internal/strconv.uint64pow10" .u64 Lib.pow10Tab := by
 have bx:∀ i,w.cell? ⟨5,i,none⟩=if i<20 then some (.int .u64 (10 ^ i)) else none:=(Jp h (b:=5) (by decide)).2
 unfold Lib.TabIs World.var?;rw[show Tryz.prog.globalNamed "internal/strconv.uint64pow10" = some 5 by rfl];show (match w.heap[5]? with | some (.cells cs _ _)=>some cs | _=>none)=_;have h0:=bx 0;cases ah:w.heap[5]? with
 | none=>simp[World.cell?,ah]at h0
 | some o=>
  cases o with
  | cells cs T ep=>
   simp only[Option.some.injEq];apply Array.ext_getElem?;intro i;have G:=bx i;simp only[World.cell?,ah,Option.isSome_none,Bool.false_eq_true,if_false]at G;rw[G];split
   ·rename_i Jq;simp only[List.getElem?_toArray,List.getElem?_map,Lib.pow10Tab];grind
   ·rename_i Jq;rw[Array.getElem?_eq_none];simp[Lib.pow10Tab];omega
  | _=>simp[World.cell?,ah]at h0
abbrev ar8:Code:=Tryz.f204.body.getD .skip
theorem ar9{P:Program}{F:Nat->Prop}{w:World}{args:List Value}{x:Int}(h:fb P (.int .i64) F w args x):args=[.int .i64 x]/\fA .i64 x:=by
 obtain⟨v,rfl,hv⟩:=(rG rfl).1 h;obtain⟨rfl,an⟩:=gB.1 hv;grind
theorem ar_{n:Int}(h:fA .i64 n):-9223372036854775808<=n/\n<=9223372036854775807:=h
theorem ar':hR Tryz.prog 204 (.int .i64) .str W.IZ.sh where
 enter:=tS Tryz.func204 (show Tryz.f204.body=some ar8 by rfl) (by rfl)
 iK:=λF w args x bd fT aU hs=>by
  change Int at x;obtain⟨rfl,aa⟩:=ar9 aU;obtain⟨h0,h1⟩:=ar_ aa;refine (Any.strconv_Itoa Tryz.aam x h0 h1 w (aas fT)).mono ?_;rintro e w' ⟨rfl,k,os,rfl⟩;have hx:W.rC x=Lib.itoa x:=by unfold W.rC;rw[bn h0 (by omega)]
  refine⟨_,W.rC x,rfl,rfl,⟨[_],rfl,(rG rfl).2 ⟨_,rfl,l1.2 ⟨by rw[hx],Nat.lt_of_le_of_lt (W.PI x) (by decide)⟩⟩⟩,ar4 w k os⟩
abbrev asa:Code:=Tryz.f258.body.getD .skip
theorem asb:hR Tryz.prog 258 (.ay (.slice .str) .str) .str W.EC.sh where
 enter:=tS Tryz.func258 (show Tryz.f258.body=some asa by rfl) (by rfl)
 iK:=λF w args x bd fT aU hs=>by
  obtain⟨l,sep⟩:=x;obtain⟨aB,hw,h1⟩:l.length<=60000/\(∀ w∈l,w.length<=21)/\sep.length=1:=hs;have zR:=W.ZS l sep 21 hw;have h1:sep.length=1:=h1;have aB:l.length<=60000:=aB;rw[h1]at zR;have aD:(Lib.join l sep).length<2 ^ 63:=by omega
  obtain⟨v,us,rfl,hv,hu⟩:=E2 aU;obtain⟨rfl,_⟩:=Qk hu;obtain⟨_,p,cap,h8,c2,c3,c4,c5⟩:=(dC rfl).1 hv;obtain rfl:v=.slice p l.length cap:=by grind
  change l.length<=cap at c2;have fin:∀ w',Below w.heap.size w w'->∃ v y,Ending.returned (.string ⟨(Lib.join l sep).toArray⟩)=.returned v/\(W.EC.sh (l,sep)).bD y/\s7 Tryz.prog .str (uK F w w') w' v y/\Below w.heap.size w w':=λw' ad=>
   ⟨_,Lib.join l sep,rfl,rfl,⟨[_],rfl,(rG rfl).2 ⟨_,rfl,l1.2 ⟨rfl,aD⟩⟩⟩,ad⟩
  by_cases an:l=[]
  ·subst an;refine (Any.strings_Join_none Tryz.aak Tryz.aal p cap ⟨sep.toArray⟩ w).mono ?_;rintro e w' ⟨rfl,rfl⟩;exact fin _ (Below.refl _ _)
  ·have k1:0<l.length:=List.length_pos_iff.2 an;obtain⟨q,rfl⟩:∃ q,p=some q:=by
    cases p with
    | none=>grind
    | some q=>simp
   obtain⟨d1,d2,d3⟩:=c5 q rfl (by omega);obtain⟨asc,o,sp⟩:=q;obtain rfl:sp=none:=d2;have hlen:(l.map λx:List UInt8=>ByteArray.mk x.toArray).length=l.length:=List.length_map ..;have J_:(l.map λx:List UInt8=>ByteArray.mk x.toArray).map (·.data.toList)=l:=by rw[List.map_map];exact (List.map_congr_left λx _=>Qj x).trans (List.map_id _)
   have:=Any.strings_Join Tryz.aak Tryz.aal asc o cap (l.map λx:List UInt8=>ByteArray.mk x.toArray) ⟨sep.toArray⟩ w (λj x hx=>by
    rw[List.getElem?_map]at hx;obtain⟨y,aO,rfl⟩:=Option.map_eq_some_iff.1 hx;obtain⟨zR,rfl⟩:=List.getElem?_eq_some_iff.1 aO;obtain⟨a_,⟨_,_,e3⟩,e4⟩:=d3 j zR;obtain⟨rfl,_⟩:=e4;have:=e3 0 (by simp);simpa [af.size]using this) (bd _ d1) (by omega) (by omega) (by grind)
   rw[hlen,J_,Qj]at this;refine this.mono ?_;simp_all
end Go.Fer.n3
namespace Go.Proofs
open Go.RowKit
theorem Tryz.asd{P:Program}{w w':World}{n:String}{k:IntKind}{zs:z1'}(h:Lib.TabIs P w n k zs)(ad:Below w.heap.size w w'):Lib.TabIs P w' n k zs:=by
 unfold Lib.TabIs World.var? at *
 cases aA:P.globalNamed n with
 | none=>rw[aA]at h;cases h
 | some g=>
  rw[aA]at h;simp only[Option.bind_some]at h ⊢;by_cases bX:g<w.heap.size
  ·rw[ad.block g bX];exact h
  ·rw[Array.getElem?_eq_none (by omega)]at h;cases h
set_option maxHeartbeats 4000000 in
set_option maxRecDepth 1000000 in
theorem Tryz.ase(s:ByteArray)(w:World)(v:Int)(zh:s.size<=9223372036854775806)(h:Lib.atoiAll s.data.toList=.ok v)(h0:-9223372036854775808<=v)(h1:v<=9223372036854775807)
  (asf : Lib.TabIs Tryz.prog w "internal/strconv.uint64pow10" .u64 Lib.pow10Tab) :
  Calls Tryz.prog 140 #[.string s] w λe w'=>e=.returned (.tuple #[.int .i64 v,.bool (decide (s.size<=6)&&decide (0<=v)&&decide (Lib.itoa v=s.data.toList))])/\Below w.heap.size w w':=by
 go_enter Tryz.func140,Tryz.ntmps140;go_wp2_with fail;refine (Tryz.strconv_Atoi_ok s zh v h w).mono ?_;rintro e bY ⟨rfl,lH⟩;have mc:Below w.heap.size w bY:=by
  rcases lH with rfl | ⟨t,rfl⟩
  ·exact Below.refl _ _
  ·exact Lib.bytesWorld_below w 5 t
 have asg:=Tryz.asd asf mc;clear lH;by_cases aP:(s.size:Int)<=6
 ·by_cases aQ:v>=0
  ·go_wp2_with fail;refine (Any.strconv_Itoa Tryz.aam v h0 h1 bY asg).mono ?_;rintro e cy ⟨rfl,k,os,rfl⟩;have qQ:Below w.heap.size w (Go.Sort.grow (bY.drewN k) os):=mc.trans ⟨rfl,rfl,rfl,by show _<=(bY.heap++os).size;simp,λj aD=>by
    have:=mc.size;show (bY.heap++os)[j]?=_;rw[Array.getElem?_append_left (by omega)]⟩
   generalize Go.Sort.grow (bY.drewN k) os=cy at qQ;go_wp2;go_returns;refine⟨congrArg Ending.returned (congrArg Value.tuple ?_),qQ⟩;show #[Value.int IntKind.i64 v,Value.bool (Lib.itoa v == s.toList)]=_;rw[Go.ByteArray.toList_eq,show decide (s.size<=6)=true from decide_eq_true (by omega),show decide (0<=v)=true from decide_eq_true aQ,Bool.true_and,Bool.true_and,show (Lib.itoa v == s.data.toList)=decide (Lib.itoa v=s.data.toList) by rw[Bool.eq_iff_iff];simp]
  ·go_wp2;go_returns;refine⟨congrArg Ending.returned (congrArg Value.tuple ?_),mc⟩;show #[Value.int IntKind.i64 v,Value.bool false]=_;rw[show decide (0<=v)=false from decide_eq_false (by omega),Bool.and_false,Bool.false_and]
 ·go_wp2;go_returns;refine⟨congrArg Ending.returned (congrArg Value.tuple ?_),mc⟩;show #[Value.int IntKind.i64 v,Value.bool false]=_;rw[show decide (s.size<=6)=false from decide_eq_false (by omega),Bool.false_and,Bool.false_and]
set_option maxHeartbeats 4000000 in
set_option maxRecDepth 1000000 in
theorem Tryz.ash(s:ByteArray)(w:World)(rT:s.size<=281474976710656)(h:Lib.atoiAll s.data.toList=Lib.atoiAll [])(h5:Value)(hv:w.cell? ⟨1,0,none⟩=some h5)(pC:h5=.nilIface\/∃ te pe,h5=.iface te pe) :
  Calls Tryz.prog 140 #[.string s] w λe w'=>e=.returned (.tuple #[.int .i64 0,.bool false])/\Below w.heap.size w w':=by
 go_enter Tryz.func140,Tryz.ntmps140;go_wp2_with fail;refine (Tryz.strconv_Atoi_syntax s rT h h5 w hv pC).mono ?_;rintro e bY ⟨N,rfl,_,_,mc⟩;go_wp2;go_returns;exact⟨rfl,mc⟩
set_option maxHeartbeats 4000000 in
set_option maxRecDepth 1000000 in
theorem Tryz.asi(s:ByteArray)(w:World)(rT:s.size<=281474976710656)(h:Lib.atoiAll s.data.toList=.range)(h5:Value)(hv:w.cell? ⟨2,0,none⟩=some h5)(pC:h5=.nilIface\/∃ te pe,h5=.iface te pe) :
  Calls Tryz.prog 140 #[.string s] w λe w'=>e=.returned (.tuple #[.int .i64 (Lib.atoiSat s.data.toList),.bool false])/\Below w.heap.size w w':=by
 go_enter Tryz.func140,Tryz.ntmps140;go_wp2_with fail;refine (Tryz.strconv_Atoi_range s rT h h5 w hv pC).mono ?_;rintro e bY ⟨N,rfl,_,_,mc⟩;go_wp2;go_returns;exact⟨rfl,mc⟩
end Go.Proofs
namespace Go.Fer.W
open M (ab)
theorem aat:∀ (s:aH) (n:Int),0<=n->fM s n≠-1->n<=fM s n
 | [],n,_,_=>Int.le_refl _
 | c::s,n,h,h1=>by
  unfold fM at h1 ⊢;split at h1
  ·omega
  ·rename_i hc;rw[if_neg hc];simp only[Bool.or_eq_true,decide_eq_true_eq,not_or]at hc;have:=aat s _ (by omega) h1;omega
theorem Ql(d:UInt8):∀ (s:aH) (n:Int),0<=n->fM (s++[d]) n=if fM s n=-1 then -1 else if (decide ((d.toNat:Int)<48)||decide ((d.toNat:Int) > 57))=true then -1 else 10*fM s n+((d.toNat:Int) - 48)
 | [],n,h=>by
  show fM [d] n=if n=-1 then _ else _
  rw[if_neg (by omega)];rfl
 | c::s,n,h=>by
  rw[List.cons_append];conv=>lhs;unfold fM
  by_cases hc:(decide ((c.toNat:Int)<48)||decide ((c.toNat:Int) > 57))=true
  ·rw[if_pos hc,show fM (c::s) n=-1 by unfold fM;grind,if_pos rfl]
  ·rw[if_neg hc,show fM (c::s) n=fM s (10*n+((c.toNat:Int) - 48)) from (if_neg hc:(if (decide ((c.toNat:Int)<48)||decide ((c.toNat:Int) > 57))=true then (-1:Int) else _)=_)];simp only[Bool.or_eq_true,decide_eq_true_eq,not_or]at hc;exact Ql d s _ (by omega)
theorem Qm(k:Nat)(h:k<10):((UInt8.ofNat (48+k)).toNat:Int)=48+k:=by
 have:(UInt8.ofNat (48+k)).toNat=(48+k) % 256:=UInt8.toNat_ofNat';omega
theorem asj(u:Nat):fM (Go.Lib.decDigits u) 0=u:=by
 induction u using Nat.strongRecOn with
 | _ u aJ=>
  unfold Go.Lib.decDigits;split
  ·rename_i h;have:=Qm u h;unfold fM;rw[if_neg (by grind),this];show (10*0+(48+(u:Int) - 48))=u;omega
  ·rename_i h;have aw:=Qm (u % 10) (by omega);rw[Ql _ _ _ (Int.le_refl _),aJ (u / 10) (by omega),if_neg (by omega),if_neg (by grind),aw];omega
theorem asl(u:Nat):Go.Lib.decDigits u≠[]/\(1<(Go.Lib.decDigits u).length->((Go.Lib.decDigits u).getD 0 0).toNat≠48):=by
 induction u using Nat.strongRecOn with
 | _ u aJ=>
  by_cases h:u<10
  ·rw[Go.Lib.decDigits_one h];simp
  ·obtain⟨h1,h2⟩:=aJ (u / 10) (by omega);have e:Go.Lib.decDigits u=Go.Lib.decDigits (u / 10)++[UInt8.ofNat (48+u % 10)]:=by
    conv=>lhs;unfold Go.Lib.decDigits
    grind
   rw[e];refine⟨by simp,λ_=>?_⟩;have an:0<(Go.Lib.decDigits (u / 10)).length:=List.length_pos_iff.2 h1;rw[show (Go.Lib.decDigits (u / 10)++[UInt8.ofNat (48+u % 10)]).getD 0 0=(Go.Lib.decDigits (u / 10)).getD 0 0 by
    grind]
   by_cases h3:1<(Go.Lib.decDigits (u / 10)).length
   ·omega
   ·have pR:u / 10<10:=by
     refine Classical.byContradiction λaB=>h3 ?_;have e2:Go.Lib.decDigits (u / 10)=Go.Lib.decDigits (u / 10 / 10)++[UInt8.ofNat (48+u / 10 % 10)]:=by
      conv=>lhs;unfold Go.Lib.decDigits
      grind
     grind
    rw[Go.Lib.decDigits_one pR];have:=Qm (u / 10) pR;grind
theorem asm:∀ (n:Nat) (s:aH),s.length=n->s≠[]->(1<s.length->(s.getD 0 0).toNat≠48)->fM s 0≠-1->Go.Lib.decDigits (fM s 0).toNat=s:=by
 intro n;induction n with
 | zero=>simp
 | succ n aJ=>
  intro s h1 h2 h3 aT;obtain⟨a,d,rfl⟩:∃ a d,s=a++[d]:=⟨s.dropLast,s.getLast h2,(List.dropLast_concat_getLast h2).symm⟩
  rw[Ql _ _ _ (Int.le_refl _)]at aT ⊢;split at aT
  ·omega
  ·rename_i aU;split at aT
   ·omega
   ·rename_i aw;rw[if_neg aU,if_neg aw];simp only[Bool.or_eq_true,decide_eq_true_eq,not_or]at aw;have L3:UInt8.ofNat (48+(d.toNat - 48))=d:=by
     apply UInt8.toNat_inj.1;rw[UInt8.toNat_ofNat'];omega
    by_cases aB:a=[]
    ·subst aB;have e:(10*fM [] 0+((d.toNat:Int) - 48)).toNat=d.toNat - 48:=by show (10*0+((d.toNat:Int) - 48)).toNat=_;omega
     rw[e,Go.Lib.decDigits_one (by omega),L3];rfl
    ·have an:0<a.length:=List.length_pos_iff.2 aB;have cB:(a.getD 0 0).toNat≠48:=by
      grind
     have hp:1<=fM a 0:=by
      cases a with
      | nil=>grind
      | cons c r=>
       unfold fM at aU ⊢;split at aU
       ·omega
       ·rename_i hc;rw[if_neg hc];simp only[Bool.or_eq_true,decide_eq_true_eq,not_or]at hc;have ax9:c.toNat≠48:=cB;have:=aat r _ (by omega) aU;omega
     have G:=aJ a (by grind) aB (λ_=>cB) aU;have e1:(10*fM a 0+((d.toNat:Int) - 48)).toNat / 10=(fM a 0).toNat:=by omega
     have e2:(10*fM a 0+((d.toNat:Int) - 48)).toNat % 10=d.toNat - 48:=by omega
     conv=>lhs;unfold Go.Lib.decDigits
     grind
theorem asn{s:aH}{v:Int}(h:Go.Lib.atoiAll s=.ok v):(decide (s.length<=6)&&decide (0<=v)&&decide (Go.Lib.itoa v=s))=decide (0<=e_ s):=by
 rw[Bool.eq_iff_iff];simp only[Bool.and_eq_true,decide_eq_true_eq];constructor
 ·rintro⟨⟨c_,hv⟩,G⟩;obtain⟨u,rfl⟩:∃ u:Nat,v=u:=⟨v.toNat,by omega⟩
  have e:Go.Lib.itoa (u:Int)=Go.Lib.decDigits u:=by rfl
  rw[e]at G;obtain⟨aP,aQ⟩:=asl u;rw[G]at aP aQ;unfold e_;rw[if_neg]
  ·have:=asj u;grind
  grind
 ·intro aB;have e:=P' aB;rw[h]at e;obtain rfl:v=e_ s:=by grind
  refine⟨⟨?_,aB⟩,?_⟩
  ·unfold e_ at aB;grind
  ·have e:Go.Lib.itoa (e_ s)=Go.Lib.decDigits (e_ s).toNat:=by unfold Go.Lib.itoa;grind
   rw[e];unfold e_ at aB ⊢;split at aB
   ·omega
   ·rename_i ad;rw[if_neg ad];simp only[Bool.or_eq_true,Bool.and_eq_true,decide_eq_true_eq,not_or,not_and]at ad;exact asm _ s rfl (λe=>ad.1.1 (by grind)) ad.2 (by omega)
theorem aau{s:aH}(h:∀ v,Go.Lib.atoiAll s≠.ok v):decide (0<=e_ s)=false:=decide_eq_false λaB=>h _ (P' aB)
end Go.Fer.W
namespace Go.Fer.n3
open Go Go.Proofs Go.RowKit
abbrev aso:Code:=Tryz.f140.body.getD .skip
theorem asp:hR Tryz.prog 140 .str (.ay (.int .i64) .bool) W.EE.sh where
 enter:=tS Tryz.func140 (show Tryz.f140.body=some aso by kernel_rfl) (by kernel_rfl)
 iK:=λF w args x bd fT aU hs=>by
  change List UInt8 at x;have hs:x.length<=10000:=hs;obtain⟨rfl,an⟩:=Qk aU;have ad:=Qj x;have ba:=Jo x;have fin:∀ (n:Int) (b:Bool) (w':World),fA .i64 n->W.q1 x=(n,b)->Below w.heap.size w w'->∃ v y,Ending.returned (.tuple #[.int .i64 n,.bool b])=.returned v/\(W.EE.sh x).bD y/\s7 Tryz.prog (.ay (.int .i64) .bool) (uK F w w') w' v y/\Below w.heap.size w w':=λn b w' aa he yF=>
   ⟨_,(n,b),rfl,he.symm,⟨[.int .i64 n,.bool b],rfl,BF.2 ⟨gB.2 ⟨rfl,aa⟩,(rG rfl).2 ⟨_,rfl,eY.2 rfl⟩⟩⟩,yF⟩
  cases he:Lib.atoiAll x with
  | ok v=>
   have hv:=Lib.atoiAll_bounds he;refine (Tryz.ase ⟨x.toArray⟩ w v (by rw[ba];omega) (by rw[ad];exact he) hv.1 hv.2 (aas fT)).mono ?_;rintro e w' ⟨rfl,yF⟩;refine fin v _ w' hv ?_ yF;rw[ad,ba,W.asn he];unfold W.q1 W.sQ;rw[he]
  | range=>
   obtain⟨_,h5,hv,pC⟩:=Jp fT (b:=2) (by decide);refine (Tryz.asi ⟨x.toArray⟩ w (by rw[ba];omega) (by rw[ad];exact he) h5 hv pC).mono ?_;rintro e w' ⟨rfl,yF⟩;rw[ad]at *
   refine fin _ _ w' (Lib.atoiSat_bounds x) ?_ yF;unfold W.q1 W.sQ;rw[he,W.aau λv h=>by rw[he]at h;cases h]
  | _=>
   obtain⟨_,h5,hv,pC⟩:=Jp fT (b:=1) (by decide);refine (Tryz.ash ⟨x.toArray⟩ w (by rw[ba];omega) (by rw[ad];exact he) h5 hv pC).mono ?_;rintro e w' ⟨rfl,yF⟩;refine fin 0 _ w' (by decide) ?_ yF;unfold W.q1 W.sQ;rw[he,W.aau λv h=>by rw[he]at h;cases h]
end Go.Fer.n3
namespace Go.Fer
open Go.RowKit
abbrev mw:af:=.int .i64
def Qn(x:z1'×Unit):M (z1'×Unit):=M.dx (x.1.length<4611686018427387904) (x.1.mergeSort (λa b=>decide (a<=b)),())
def pO:IOC:=⟨⟨[(0,.own 200001)],[(200001,.a8 mw)]⟩,⟨[],[(200001,.a8 mw)]⟩,[],1,Qn⟩
section
variable {P:Program} {F:Nat->Prop} {w:World}
theorem aav{cs:Array Value}{off:Nat}{xs:z1'}(h:lu P mw F w cs off xs){i:Nat}(G:i<xs.length):cs[off+i]?=some (.int .i64 xs[i])/\fA .i64 xs[i]:=by
 obtain⟨a_,h1,h2,h3⟩:=h i G;subst h2;have:=h1 0 (by simp);refine⟨?_,h3⟩;have e:off+i*af.size mw+0=off+i:=by show off+i*1+0=off+i;omega
 rw[e]at this;exact this
theorem asq{cs:Array Value}{off:Nat}{xs:z1'}(h:∀ i (h:i<xs.length),cs[off+i]?=some (.int .i64 xs[i])/\fA .i64 xs[i]):lu P mw F w cs off xs:=λi G=>by
 obtain⟨h1,h2⟩:=h i G;refine⟨[.int .i64 xs[i]],λj aD=>?_,rfl,h2⟩;have aD:j=0:=by simpa using aD
 subst aD;have e:off+i*af.size mw+0=off+i:=by show off+i*1+0=off+i;omega
 rw[e];exact h1
theorem asr{cs:Array Value}{T:TypeId}{b off:Nat}{xs:z1'}(ad:w.heap[b]?=some (.cells cs T (0,0)))(h:lu P mw F w cs off xs):Go.Sort.Holds (Value.int .i64) w b off xs.toArray:=λj aD=>by
 have fB:j<xs.length:=by simpa using aD
 obtain⟨h1,_⟩:=aav h fB;refine⟨?_,by simp[World.frozen?,ad]⟩;simp only[World.cell?,ad];simp only[Option.isSome_none,Bool.false_eq_true,if_false];rw[h1];simp[fB]
theorem ass{cs:Array Value}{off:Nat}{xs ys:z1'}(an:ys.length=xs.length)(hin:∀ y∈ys,fA .i64 y)(bV:off+xs.length<=cs.size):lu P mw F w (Go.Sort.putCells (Value.int .i64) off ys.toArray cs) off ys:=by
 refine asq λi G=>⟨?_,hin _ (List.getElem_mem G)⟩
 have h1:off+i<cs.size:=by omega
 simp[Go.Sort.putCells,h1,G]
end
section
variable {P:Program} {U:dm}
theorem ast{k:FuncId}(he:∀ args w,(callFunc k args).run P w=.ok (.enter k args) w)
  (h1:∀ (ae off cap:Nat) (zs:z1') (w:World),Go.Sort.Holds (Value.int .i64) w ae off zs.toArray->ae<w.heap.size->zs.length<4611686018427387904->Calls P k #[.slice (some ⟨ae,off,none⟩) zs.length cap] w λe w'=>
   e=.returned (.tuple #[])/\∃ n os,w'=Go.Sort.grow (Go.Sort.putRow (Value.int .i64) (Go.Sort.ahead w n) ae off (zs.mergeSort λx y=>decide (x<=y)).toArray) os)
  (h0:∀ (p:Option Addr) (cap:Nat) (w:World),Calls P k #[.slice p 0 cap] w λe w'=>e=.returned (.tuple #[])/\w'=w):IoSpec P U k pO where
 enter:=he
 iK C a w κ F A jg z_ aa aw rb tk h hs:=by
  obtain⟨xs,u⟩:=A;have hlen:xs.length<4611686018427387904:=hs;have bV:a.tmps.size=1:=h.dn.trans rb;have p_:=h.bG 0;have ad:=h.bq 200001;change ju C.P _ κ F w (κ 200001) (.a8 mw xs) at ad;have hv:a.tmps.getD 0 undef=(κ 200001).slice xs.length:=p_.2 rfl rfl;have aU:a.tmps=#[(κ 200001).slice xs.length]:=by
   apply Array.ext (by simp[bV]);intro i G ds;have:i=0:=by omega
   subst this;rw[<-hv];simp[Array.getD,bV]
  have qe:∀ τ,τ=((xs.mergeSort (λx y=>decide (x<=y)),()):z1'×Unit)->(pO.sh (xs,u)).bD τ:=λτ e=>e;have nL:∀ {w':World} {F':Nat->Prop} {ys:z1'},bc C (az.mk (pO.b6.st (xs,u)).ax λi=>if i=200001 then ⟨0,.a8 mw ys⟩ else (pO.b6.st (xs,u)).ae i) a w' κ F'->bc { C with nt:=0 } (pO.bD.st (ys,())) { tmps:=#[],defers:=[] } w' κ F':=λ{w' F' ys} jH=>by
   have e:(pO.bD.st (ys,())).ae=λi=>if i=200001 then (⟨0,.a8 mw ys⟩:bw) else (pO.b6.st (xs,u)).ae i:=by
    funext i;show eA [(200001,bC.a8 mw ys)] i=if i=200001 then _ else eA [(200001,bC.a8 mw xs)] i
    simp only[eA];by_cases G:i=200001
    ·rw[if_pos G,if_pos G]
    ·rw[if_neg G,if_neg G,if_neg G]
   refine { dn:=rfl,dfr:=aw.symm,bG:=λi=>trivial,bq:=λb=>?_,own:=λb=>?_,inj:=λb a1=>?_,cM:=jH.cM,gO:=jH.gO,hE:=jH.hE,g_:=jH.g_,eg:=jH.eg,size:=jH.size,dV:=jH.dV,fR:=Nat.zero_le _,kg:=jH.kg,jv:=λb r=>?_,jX:=jH.jX,kh:=λb k=>?_,pro:=λl aK L n st e=>(by cases e),jw:=jH.jw,im:=jH.im }
   ·rw[e];exact jH.bq b
   ·rw[e];exact jH.own b
   ·rw[e];exact jH.inj b a1
   ·rw[e];exact jH.jv b r
   ·rw[e];exact jH.kh b k
  subst jg;rw[aU];by_cases aB:(κ 200001).eQ=true
  ·have hx:xs=[]:=ad.1 aB;subst hx;have h8:(κ 200001).slice 0=.slice none 0 0:=by simp[bo.slice,aB]
   rw[show ([]:z1').length=0 from rfl,h8];refine (h0 none 0 w).mono ?_;rintro e w' ⟨rfl,rfl⟩;refine⟨_,([],()),[],κ,F,rfl,qe _ (congrArg (λl=>(l,())) List.mergeSort_nil.symm),⟨[],rfl,rfl,rfl⟩,nL ?_⟩;have e:(λi=>if i=200001 then (⟨0,.a8 mw []⟩:bw) else (pO.b6.st ([],u)).ae i)=(pO.b6.st ([],u)).ae:=by
    funext i;by_cases G:i=200001
    ·subst G;rfl
    ·rw[if_neg G]
   rw[e];exact h
  ·have aB:(κ 200001).eQ=false:=by simpa using aB
   obtain⟨cs,T,dd,dN,kf,np,sY⟩:=ad.2 aB;have fS:((pO.b6.st (xs,u)).ae 200001).body.bN (κ 200001)=true:=by show (!(κ 200001).eQ)=true;rw[aB];rfl
   have ah:=h.own 200001 fS;have h8:(κ 200001).slice xs.length=.slice (some ⟨(κ 200001).ae,(κ 200001).off,none⟩) xs.length (κ 200001).cap:=by simp[bo.slice,aB]
   rw[h8];refine (h1 (κ 200001).ae (κ 200001).off (κ 200001).cap xs w (asr dd sY) ah.1 hlen).mono ?_;rintro e w' ⟨rfl,n,os,rfl⟩;have hp:(xs.mergeSort λx y=>decide (x<=y)).Perm xs:=List.mergeSort_perm _ _;generalize j2:(xs.mergeSort λx y=>decide (x<=y))=ys at hp qe;have aaw:ys.length=xs.length:=hp.length_eq;have Fk:(κ 200001).off+xs.length<=cs.size:=by
    have:(κ 200001).cap*af.size mw=(κ 200001).cap:=Nat.mul_one _;omega
   have hin:∀ y∈ys,fA .i64 y:=λy aO=>by
    have:=hp.mem_iff.1 aO;obtain⟨i,G,rfl⟩:=List.getElem_of_mem this;exact (aav sY G).2
   have asu:(Go.Sort.putRow (Value.int .i64) (Go.Sort.ahead w n) (κ 200001).ae (κ 200001).off ys.toArray).heap[(κ 200001).ae]?=some (.cells (Go.Sort.putCells (Value.int .i64) (κ 200001).off ys.toArray cs) T (0,0)):=by
    simp[Go.Sort.putRow,Go.Sort.mapBlock,Go.Sort.ahead,Array.getElem?_modify,dd,Go.Sort.onCells]
   have wA:bc C ((pO.b6.st (xs,u)).cb 200001 ⟨0,.a8 mw ys⟩) a (Go.Sort.putRow (Value.int .i64) (Go.Sort.ahead w n) (κ 200001).ae (κ 200001).off ys.toArray) κ F:=by
    refine h.oV (b:=200001) (x:=⟨0,.a8 mw ys⟩) fS ?_ ?_ nofun nofun (λr aa=>?_) (by simp[Go.Sort.putRow,Go.Sort.mapBlock,Go.Sort.ahead]) ⟨rfl,rfl,rfl⟩ (λH mE gh j6=>⟨λhc=>absurd (aB.symm.trans hc) nofun,λ_=>?_⟩)
    ·show (!(κ 200001).eQ)=true;rw[aB];rfl
    ·intro b;by_cases ad:b=200001
     ·subst ad;exact⟨Nat.le_refl _,λ_=>⟨nofun,λ_=>⟨rfl,rfl,aaw,rfl⟩,nofun,nofun⟩⟩
     ·show pU _ (if b=200001 then _ else _) _ _;rw[if_neg ad];exact pU.refl _ _
    ·simp[Go.Sort.putRow,Go.Sort.mapBlock,Go.Sort.ahead,Array.getElem?_modify,Ne.symm aa]
    ·refine⟨_,T,asu,?_,?_,np,ass aaw hin Fk⟩
     ·simpa [Go.Sort.putCells]using dN
     ·show ys.length<=_;omega
   refine⟨_,(ys,()),[],κ,_,rfl,qe _ rfl,⟨[],rfl,rfl,rfl⟩,nL (wA.grow ?_)⟩;refine⟨rfl,rfl,rfl,by simp[Go.Sort.grow],λk aj=>?_⟩;simp only[Go.Sort.grow];rw[Array.getElem?_append_left aj]
end
end Go.Fer
namespace Go.Fer
open Go.RowKit
def asv(e:af)(x:Int×Unit):M (List e.ai×Unit):=M.dx (0<=x.1/\x.1<60000) ([],())
def uG(e:af):IOC:=⟨⟨[(0,.cV),(1,.val (.int .i64))],[]⟩,⟨[(0,.own 50000)],[(50000,.a8 e)]⟩,[none],2,asv e⟩
section
variable {P:Program} {U:dm} {e:af}
theorem aax{C:bS}{a:Act}{w w':World}{κ:Nat->bo}{F:Nat->Prop}{A:(uG e).b6.ai}(h:bc C ((uG e).b6.st A) a w κ F)(aw:C.dfr=[]){kb:bo}{v:Value}
  (hv:v=kb.slice 0) (bV:w.heap.size<=w'.heap.size) (hw:∀ r,r<w.heap.size->w'.heap[r]?=w.heap[r]?) (hc:cN w w') (k2:kb.eQ=false->kb.ae=w.heap.size/\w.heap.size<w'.heap.size)
  (aN:kb.eQ=false->∃ cs T,w'.heap[kb.ae]?=some (.cells cs T (0,0))/\kb.off+kb.cap*e.size<=cs.size/\kb.cap<2 ^ 63) :
  bc { C with nt:=1 } ((uG e).bD.st ([],())) { tmps:=#[v],defers:=[] } w' (λi=>if i=50000 then kb else κ i) F:=by
 have ad:∀ b,((uG e).bD.st ([],())).ae b=if b=50000 then ⟨0,.a8 e []⟩ else ⟨0,.fm⟩:=λb=>rfl
 have aU:∀ b,b≠50000->((uG e).bD.st ([],())).ae b=⟨0,.fm⟩:=λb aB=>by rw[ad,if_neg aB]
 have bx:((uG e).bD.st ([],())).ae 50000=⟨0,.a8 e []⟩:=rfl;have fS:∀ b,(((uG e).bD.st ([],())).ae b).body.bN (if b=50000 then kb else κ b)=true->b=50000/\kb.eQ=false:=λb ah=>by
  by_cases e:b=50000
  ·subst e;rw[bx,if_pos rfl]at ah;exact⟨rfl,by simpa [bC.bN]using ah⟩
  ·rw[aU b e]at ah;cases ah
 refine { dn:=rfl,dfr:=aw.symm,bG:=λi=>?_,bq:=λb=>?_,own:=λb ah=>?_,inj:=λb a1 h1 h2 _=>?_,cM:=λr aa=>Nat.lt_of_lt_of_le (h.cM r aa) bV,gO:=h.gO,hE:=h.hE,g_:=h.g_,eg:=λr aa=>?_,size:=Nat.le_trans h.size bV,dV:=h.dV.trans hc,fR:=(by unfold eC;exact (by decide:1<=100000)),kg:=h.kg,jv:=λb r aa iQ=>?_,jX:=h.jX,kh:=λb k aj _ G=>?_,pro:=λl aK L n st e=>(by cases e),jw:=h.jw,im:=h.im.mono (λ_ h=>h) ⟨bV,λr aa=>hw r (h.cM r aa)⟩ }
 ·by_cases G:i=0
  ·subst G;refine⟨⟨Nat.le_refl _,?_⟩,λ_ _=>?_⟩
   ·show v.oneCell'=true;rw[hv];unfold bo.slice;split<;>rfl
   ·show v=_;rw[hv];show kb.slice 0=(if (50000:Nat)=50000 then kb else κ 50000).slice 0;rw[if_pos rfl]
  ·have:((uG e).bD.st ([],())).ax i=.undef:=by
    show ff [(0,aF.own 50000 0)] i=.undef;simp[ff,G]
   rw[this];trivial
 ·unfold cj;by_cases e1:b=50000
  ·subst e1;rw[bx];show ju _ _ _ _ _ (if (50000:Nat)=50000 then kb else κ 50000) (.a8 e []);rw[if_pos rfl];refine⟨λ_=>rfl,λaB=>?_⟩;obtain⟨cs,T,h1,h2,h3⟩:=aN aB;exact⟨cs,T,h1,h2,Nat.zero_le _,h3,λi G=>absurd G (Nat.not_lt_zero _)⟩
  ·rw[aU b e1];trivial
 ·obtain⟨rfl,aB⟩:=fS b ah;obtain⟨h1,h2⟩:=k2 aB;rw[if_pos rfl,h1];refine⟨h2,λau=>?_,λaj=>?_⟩
  ·have:=h.cM _ au;omega
  ·have:=h.g_ _ aj;have:=h.size;omega
 ·rw[(fS b h1).1,(fS a1 h2).1]
 ·have h1:=h.g_ r aa;rw[hw r (Nat.lt_of_lt_of_le h1 h.size)];exact h.eg r aa
 ·by_cases e1:b=50000
  ·subst e1;rw[bx]at iQ;rcases iQ with h | h<;>cases h
  ·rw[aU b e1]at iQ;rcases iQ with h | h<;>cases h
 ·by_cases e1:b=50000
  ·subst e1;have:=h.jX _ _ aj;unfold wL at this;omega
  ·rw[aU b e1]at G;cases G
theorem aay{k:FuncId}(he:∀ args w,(callFunc k args).run P w=.ok (.enter k args) w)
  (h0:∀ w:World,Calls P k #[.slice none 0 0,.int .i64 0] w λe w'=>e=.returned (.slice none 0 0)/\w'=w)
  (h1:∀ (n:Nat) (w:World),0<n->n<60000->Calls P k #[.slice none 0 0,.int .i64 (n:Int)] w λy w'=>∃ (bW:Nat) (T:TypeId) (cs:Array Value),y=.returned (.slice (some ⟨w.heap.size,0,none⟩) 0 bW)/\
   w'=w.drew.alloc (.cells cs T)/\bW<2 ^ 63/\bW*e.size<=cs.size):IoSpec P U k (uG e) where
 enter:=he
 iK C a w κ F A jg z_ aa aw rb tk h hs:=by
  obtain⟨n,u⟩:=A;change Int at n;obtain⟨rZ,p4⟩:0<=n/\n<60000:=hs;have bV:a.tmps.size=2:=h.dn.trans rb;have asw:a.tmps.getD 0 undef=.slice none 0 0:=h.bG 0;have pW:a.tmps.getD 1 undef=.int .i64 n:=(gB.1 (h.bG 1)).1;have aU:a.tmps=#[.slice none 0 0,.int .i64 n]:=by
   apply Array.ext (by simp[bV]);intro i G ds;have:i=0\/i=1:=by omega
   rcases this with rfl | rfl
   ·rw[<-asw];simp[Array.getD,bV]
   ·rw[<-pW];simp[Array.getD,bV]
  subst jg;rw[aU];by_cases ba:n=0
  ·subst ba;refine (h0 w).mono ?_;rintro y w' ⟨rfl,rfl⟩;refine⟨_,([],()),[.slice none 0 0],_,F,rfl,rfl,⟨[.slice none 0 0],rfl,rfl,[],rfl,rfl⟩,aax h aw (kb:=⟨0,0,0,true⟩) rfl (Nat.le_refl _) (λ_ _=>rfl) (cN.refl _) nofun nofun⟩
  ·obtain⟨m,rfl⟩:∃ m:Nat,n=m:=⟨n.toNat,by omega⟩
   refine (h1 m w (by omega) (by omega)).mono ?_;rintro y w' ⟨bW,T,cs,rfl,rfl,fT,oY⟩;refine⟨_,([],()),[.slice (some ⟨w.heap.size,0,none⟩) 0 bW],_,F,rfl,rfl,⟨[_],rfl,rfl,[],rfl,rfl⟩,aax h aw (kb:=⟨w.heap.size,0,bW,false⟩) rfl (by simp) (λr aa=>?_) ⟨rfl,rfl,rfl⟩ (λ_=>⟨rfl,by simp⟩) (λ_=>⟨cs,T,?_,by simpa using oY,fT⟩)⟩
   ·exact oT w.drew _ aa
   ·show (w.drew.heap.push _)[w.heap.size]?=_;exact Array.getElem?_push_size
theorem aaz{aG:Go.Shelf.Ren}(L:Go.Proofs.Lays8.n4 P aG)(w:World):Calls P (aG.f 4) #[.slice none 0 0,.int .i64 0] w λe w'=>e=.returned (.slice none 0 0)/\w'=w:=
 Go.Proofs.Any8.slices_Grow_room L none 0 0 0 w (Nat.le_refl _) (by decide) (by decide) (Nat.le_refl _)
theorem aaA{aG:Go.Shelf.Ren}(L:Go.Proofs.Lays8.n4 P aG)(aI:bQ P e (aG.t 25))(hs:e.size≠0)(n:Nat)(w:World)(h0:0<n)(h1:n<60000) :
  Calls P (aG.f 4) #[.slice none 0 0,.int .i64 (n:Int)] w λy w'=>∃ (bW:Nat) (T:TypeId) (cs:Array Value),y=.returned (.slice (some ⟨w.heap.size,0,none⟩) 0 bW)/\w'=w.drew.alloc (.cells cs T)/\bW<2 ^ 63/\bW*e.size<=cs.size:=by
 obtain⟨i0,z,od,bV,ad,KF,asx,_⟩:=kk aI.kj;have mO:0<i0.size:=by omega
 have tw:=(B5 (P:=P) e asx).2;refine (Go.Proofs.Any8.slices_Grow_grow L i0 z od KF mO none 0 0 n [] w (Nat.le_refl _) (by omega) ?_ (by omega) (by simp) (λ_=>rfl) nofun).mono ?_
 ·have:(0+n)*i0.bytes<=(0+n)*1024:=Nat.mul_le_mul_left _ ad;omega
 ·rintro y w' ⟨rfl,rfl⟩;refine⟨_,_,_,rfl,rfl,?_,?_⟩
  ·have:=grownCap_le_maxLen w (0+n) 0 (aG.t 25) (by unfold maxLen;omega);unfold maxLen at this;omega
  ·have:=grownCap_ge w (0+n) 0 (aG.t 25);generalize grownCap w (0+n) 0 (aG.t 25)=bW at this;simp only[Array.size_append,size_zeroCells,tw];have e1:(0+n - 0)*e.size+(bW - (0+n))*e.size=bW*e.size:=by rw[<-Nat.add_mul];congr 1;omega
   have e2:(#[]:Array Value).size=0:=rfl;omega
end
end Go.Fer
namespace Go.Fer.n3
open Go.Proofs
def EN(U:dm)(c:IOC)(sh:Nat->c.b6.ai->M c.bD.ai):List Nat->Prop
 | []=>True
 | k::l=>IoSpec Tryz.prog U k { c with sh:=sh k }/\EN U c sh l
theorem EN.mem{U:dm}{c:IOC}{sh:Nat->c.b6.ai->M c.bD.ai}:∀ {l:List Nat},EN U c sh l->∀ k∈l,IoSpec Tryz.prog U k { c with sh:=sh k }
 | [],_,k,h=>by cases h
 | j::l,h,k,aj=>by
  rcases List.mem_cons.1 aj with rfl | aj
  ·exact h.1
  ·exact EN.mem h.2 k aj
theorem yG{k:Nat}{e:af}{f:List e.ai×Unit->M (List e.ai×Unit)}{sh:(af.slice e).ai->M (af.slice e).ai}(h:IoSpec Tryz.prog noU k ⟨⟨[(0,.val (.slice e))],[]⟩,⟨[(0,.own 60)],[(60,.a8 e)]⟩,[none],1,f⟩)
  (hp:∀ x:List e.ai,(sh x).b1->(f (x,())).b1/\∀ τ,(f (x,())).bD τ->τ.1=(sh x).val (af.slice e).cP):ny (SC.ow ⟨.slice e,.slice e,sh,true⟩).tr=true/\Ch Tryz.prog k (SC.ow ⟨.slice e,.slice e,sh,true⟩):=
 aiW (by simp) h mi (b0:=60) (λx=>(x,())) (λx=>rfl) rfl (by show 1<=eC;decide) rfl (λτ=>τ.1) (λτ=>⟨rfl,rfl⟩) hp
abbrev asy:Code:=Tryz.f161.body.getD .skip
theorem asz(U:dm):IoSpec Tryz.prog U 161 pO:=
 ast (tS Tryz.func161 (show Tryz.f161.body=some asy by kernel_rfl) (by kernel_rfl)) (λae off cap zs w h1 h2 h3=>calls_of_every_depth λD=>AnyS.slices_Sort_int_in Tryz.aan D ae off cap zs w h1 h2 h3)
  λp cap w=>Any.slices_Sort_int_none Tryz.aan p cap w
theorem asA:Qn=H.xY:=by
 funext x;unfold Qn H.xY;rw[show x.1.mergeSort (λa b=>decide (a<=b))=H.fi H.gZ x.1 from (H.Aq ((List.pairwise_mergeSort (le:=λa b:Int=>decide (a<=b)) (λa b c h1 h2=>by simp at h1 h2 ⊢;omega) (λa b=>by simp;omega) x.1).imp λh=>by simpa using h) (List.mergeSort_perm _ _).symm).symm]
def Qo:IOC:=⟨⟨[(0,.own 200001)],[(200001,.a8 t3)]⟩,⟨[],[(200001,.a8 t3)]⟩,[],1,H.xY⟩
theorem aaB:IoSpec Tryz.prog noU 161 Qo:=by
 have:=asz noU;unfold pO at this;rw[asA]at this;exact this
abbrev asB:Code:=Tryz.f257.body.getD .skip
abbrev asC:Code:=Tryz.f256.body.getD .skip
def aaC:IOC:=⟨⟨[(0,.cV),(1,.val t3)],[]⟩,⟨[(0,.own 50000)],[(50000,.a8 t3)]⟩,[none],2,H.IN⟩
def aaD:IOC:=⟨⟨[(0,.cV),(1,.val t3)],[]⟩,⟨[(0,.own 50000)],[(50000,.a8 H.gX)]⟩,[none],2,H.IP⟩
theorem asD:IoSpec Tryz.prog noU 257 aaC:=
 aay (e:=t3) (tS Tryz.func257 (show Tryz.f257.body=some asB by kernel_rfl) (by kernel_rfl)) (aaz Tryz.aao) (aaA Tryz.aao (nQ.bU (id:=3) rfl (by decide)) (by decide))
theorem asE:IoSpec Tryz.prog noU 256 aaD:=
 aay (e:=H.gX) (tS Tryz.func256 (show Tryz.f256.body=some asC by kernel_rfl) (by kernel_rfl)) (aaz Tryz.aap) (aaA Tryz.aap (nQ.bU (id:=125) rfl (by decide)) (by decide))
def g1:=aiU.cons (n:=139) (c:=W.I8.dc) ⟨ar7,λ_ _=>M.vq⟩
def dW:=g1.cons (n:=204) (c:=W.IZ.dc) ⟨ar',λ_ _=>M.vq⟩
def g3:=dW.cons (n:=258) (c:=W.EC.dc) ⟨asb,λ_ _=>M.vq⟩
def asF:=g3.cons (n:=140) (c:=W.EE.dc) ⟨asp,λ_ _=>M.vq⟩
end Go.Fer.n3
namespace Go.Fer.H
open M (ab)
structure ax_(c d:aR):Prop where
 bR:d.1=c.1
 a2:d.2.2.2=c.2.2.2
 ac:eW d=eW c
 aP:b_ c=0
 aQ:b_ d=0
section
variable {c d:aR}
end
theorem asG{a b:List aS}(aU:qo a)(h:∀ s,s∈a<->s∈b):db a=db b:=by
 have key:∀ id:Int,(a.find? λs=>s.1 == id)=b.find? λs=>s.1 == id:=by
  intro id;cases au:b.find? λs=>s.1 == id with
  | none=>
   rw[List.find?_eq_none]at au ⊢;exact λs hs=>au s ((h s).1 hs)
  | some s=>
   have h1:=List.mem_of_find?_eq_some au;have h2:=List.find?_some au;have h3:(a.find? λs=>s.1 == id).isSome=true:=List.find?_isSome.2 ⟨s,(h s).2 h1,h2⟩;obtain⟨t,aI⟩:=Option.isSome_iff_exists.1 h3;have aT:=List.mem_of_find?_eq_some aI;have bx:=List.find?_some aI;simp only[beq_iff_eq]at h2 bx;rw[aI,aU t aT s ((h s).2 h1) (by omega)]
 unfold db;exact congrArg (λf=>List.filterMap f (dM 0 99)) (funext key)
theorem aaE{l:List aS}(aB:qo l)(hid:∀ s∈l,bM s.1 0 99=true)(s:aS):s∈db l<->s∈l:=by
 refine⟨vD,λhs=>?_⟩;unfold db;refine List.mem_filterMap.2 ⟨s.1,oz.2 (nT.1 (hid s hs)),?_⟩;have h3:(l.find? λt=>t.1 == s.1).isSome=true:=List.find?_isSome.2 ⟨s,hs,by simp⟩;obtain⟨t,aI⟩:=Option.isSome_iff_exists.1 h3;have aT:=List.mem_of_find?_eq_some aI;have bx:=List.find?_some aI;simp only[beq_iff_eq]at bx;rw[aI,aB t aT s hs bx]
theorem Qp{a b:List aS}(h:qo b)(hs:∀ s∈a,s∈b):qo a:=λx hx y aO he=>h x (hs x hx) y (hs y aO) he
end Go.Fer.H
namespace Go.Fer.W
open M (ab)
open H (gF aS aR)
theorem asH(a b:List aS):H.db (H.db a++b)=H.db (a++b):=by
 refine Qc (f:=λk=>(H.db a++b).find? λs=>s.1 == k) (g:=λk=>(a++b).find? λs=>s.1 == k) (dM 0 99) λk aj=>?_;rw[List.find?_append,List.find?_append,Z1 (oz.1 aj)]
theorem asI(V U v:z1'):H.hB (H.hB V U) v=H.hB V (U++v):=by
 unfold H.hB;refine List.filter_congr λk aj=>?_;grind
def lr(s:aH):List aS×z1':=match wj s with
 | some (0,l)=>([(bb l 0,bb l 1,bb l 2,1,bb l 3,bb l 4)],[])
 | some (1,l)=>([(bb l 0,bb l 1,bb l 2,2,bb l 3,0)],[])
 | some (2,l)=>([],l)
 | _=>([],[])
def Bm(s:aH):Prop:=∃ j l,wj s=some (j,l)/\j<3
theorem asJ{s:aH}(h:Bm s)(d:aX):kA d s=pM d (lr s).1 (lr s).2:=by
 obtain⟨j,l,hp,aD⟩:=h;unfold kA lr;rw[hp];match j,aD with
 | 0,_=>rfl
 | 1,_=>rfl
 | 2,_=>rfl
structure sV(c:aR)(M:List aS)(U:z1'):Prop where
 qq:H.qo (c.2.1++M)
 eB:(H.db (c.2.1++M)).length<=12
 ns:(H.hB c.2.2.1 U).length<=12
 ids:∀ s∈c.2.1++M,bM s.1 0 99=true
theorem asK(a b:z1'):(H.hB a b).Nodup:=((H.PG 0 99).filter _).imp λh=>by omega
theorem sV.mono{c:aR}{M Jr:List aS}{U aaF:z1'}(h:sV c Jr aaF)(rY:∀ s∈M,s∈Jr)(hL:∀ n∈U,n∈aaF):sV c M U:=by
 have hs:∀ s∈c.2.1++M,s∈c.2.1++Jr:=λs hs=>by grind
 refine⟨H.Qp h.qq hs,Nat.le_trans ?_ h.eB,Nat.le_trans ((asK _ _).length_le_of_subset λn aB=>?_) h.ns,λs ao=>h.ids s (hs s ao)⟩
 ·have:=(H.HV (c.2.1++M)).length_le_of_subset (l₂:=(H.db (c.2.1++Jr)).map (·.1)) λn aB=>by
   obtain⟨s,ao,rfl⟩:=List.mem_map.1 aB;exact List.mem_map_of_mem ((H.aaE h.qq h.ids s).2 (hs s (H.vD ao)))
  simpa using this
 ·unfold H.hB at aB ⊢;grind
def kB(c:aR)(M:List aS)(U:z1'):aR:=H.iY c (H.db (c.2.1++M)) (H.hB c.2.2.1 U)
theorem asL{c:aR}{M m:List aS}{U v:z1'}(h:sV c M U)(hc:H.b_ (kB c M U)=0) :
  ((H.kW (kB c M U) m v).2=0->(H.kW (kB c M U) m v).1=kB c (M++m) (U++v)/\H.b_ (H.iY c m v)=0/\sV c (M++m) (U++v))/\
  (H.b_ (H.iY c m v)=0->sV c (M++m) (U++v)->(H.kW (kB c M U) m v).2=0):=by
 have e4:H.db (H.db (c.2.1++M)++m)=H.db (c.2.1++(M++m)):=by rw[asH,List.append_assoc]
 have jV:∀ s,s∈H.db (c.2.1++M)++m<->s∈c.2.1++(M++m):=λs=>by rw[<-List.append_assoc,List.mem_append,List.mem_append (s:=c.2.1++M),H.aaE h.qq h.ids]
 have ko:H.kW (kB c M U) m v=if H.b_ (kB c M U)≠0 then (H.wg,H.b_ (kB c M U)) else if H.b_ (H.iY c m v)≠0 then (H.wg,H.b_ (H.iY c m v)) else
  if H.ka (H.db (c.2.1++M)++m)=true then (H.wg,91) else
  if (decide (Int.ofNat (H.db (H.db (c.2.1++M)++m)).length > 12)||decide (Int.ofNat (H.hB (H.hB c.2.2.1 U) v).length > 12))=true then (H.wg,90) else (H.iY c (H.db (H.db (c.2.1++M)++m)) (H.hB (H.hB c.2.2.1 U) v),0):=rfl
 rw[e4,asI,if_neg (by omega)]at ko;by_cases aj:H.b_ (H.iY c m v)=0
 ·rw[if_neg (by omega)]at ko;have hid:∀ s∈c.2.1++(M++m),bM s.1 0 99=true:=λs hs=>by
   rw[<-List.append_assoc,List.mem_append]at hs;rcases hs with hs | hs
   ·exact h.ids s hs
   ·exact (H.EB aj).ids s hs
  by_cases an:H.ka (H.db (c.2.1++M)++m)=true
  ·rw[if_pos an]at ko;rw[ko];refine⟨λh=>absurd (show (91:Int)=0 from h) (by decide),λ_ aA=>?_⟩;rw[(H.ua _).2 (H.Qp aA.qq λs hs=>(jV s).1 hs)]at an;cases an
  ·rw[if_neg an]at ko;have aB:H.qo (c.2.1++(M++m)):=H.Qp ((H.ua _).1 (by simpa using an)) λs hs=>(jV s).2 hs;by_cases ba:(decide (Int.ofNat (H.db (c.2.1++(M++m))).length > 12)||decide (Int.ofNat (H.hB c.2.2.1 (U++v)).length > 12))=true
   ·rw[if_pos ba]at ko;rw[ko];refine⟨λh=>absurd (show (90:Int)=0 from h) (by decide),λ_ aA=>?_⟩;have:=aA.eB;have:=aA.ns;simp at ba;omega
   ·rw[if_neg ba]at ko;rw[ko];simp at ba;exact⟨λ_=>⟨rfl,aj,aB,by omega,by omega,hid⟩,λ_ _=>rfl⟩
 ·rw[if_pos aj]at ko;rw[ko];exact⟨λh=>absurd h aj,λh=>absurd h aj⟩
def pb(L:List aH):List aS:=L.flatMap λs=>(lr s).1
def wx(L:List aH):z1':=L.flatMap λs=>(lr s).2
theorem Qq(c:aR)(z:bt):∀ (L:List aH) (M:List aS) (U:z1'),sV c M U->cW (z,kB c M U)->(∀ s∈L,Bm s/\s.length<=10000)->
  ((∀ a∈(cO (z,kB c M U) L).1,a=mv)->(cO (z,kB c M U) L).2=(z,kB c (M++pb L) (U++wx L))/\(∀ s∈L,H.b_ (H.iY c (lr s).1 (lr s).2)=0)/\sV c (M++pb L) (U++wx L))/\
  ((∀ s∈L,H.b_ (H.iY c (lr s).1 (lr s).2)=0)->sV c (M++pb L) (U++wx L)->∀ a∈(cO (z,kB c M U) L).1,a=mv)
 | [],M,U,aA,aw,gh=>by
  simp only[pb,wx,List.flatMap_nil,List.append_nil];exact⟨λ_=>⟨rfl,λs hs=>by simp at hs,aA⟩,λ_ _ a aU=>by simp[cO]at aU⟩
 | s::L,M,U,aA,aw,gh=>by
  obtain⟨hs,JG⟩:=gh s (by simp);obtain⟨t1,t2⟩:=asL (m:=(lr s).1) (v:=(lr s).2) aA aw.wm;have aj:=Qb aw JG;have e:=asJ hs (z,kB c M U);have bR:∀ X:List aS,M++((lr s).1++X)=M++(lr s).1++X:=λX=>(List.append_assoc ..).symm;have a2:∀ X:z1',U++((lr s).2++X)=U++(lr s).2++X:=λX=>(List.append_assoc ..).symm;simp only[pb,wx,List.flatMap_cons,bR,a2,cO,List.forall_mem_cons];by_cases ao:(H.kW (kB c M U) (lr s).1 (lr s).2).2=0
  ·obtain⟨t3,t4,t5⟩:=t1 ao;have e2:kA (z,kB c M U) s=(mv,(z,kB c (M++(lr s).1) (U++(lr s).2))):=by
    rw[e];unfold pM;rw[if_neg (by simpa using ao),t3]
   rw[e2]at aj ⊢;obtain⟨i1,i2⟩:=Qq c z L _ _ t5 aj λt aI=>gh t (by simp[aI]);refine⟨λ⟨_,h⟩=>?_,λ⟨_,h⟩ qT=>⟨rfl,i2 h qT⟩⟩;obtain⟨tV,P9,ZW⟩:=i1 h;exact⟨tV,⟨t4,P9⟩,ZW⟩
  ·have e2:(kA (z,kB c M U) s).1=yp:=by
    rw[e];unfold pM;rw[if_pos (by simpa using ao)]
   rw[e2];refine⟨λ⟨h,_⟩=>absurd h (by decide),λ⟨h,_⟩ qT=>absurd (t2 h (qT.mono (λx hx=>?_) λx hx=>?_)) ao⟩
   ·exact List.mem_append_left _ hx
   ·exact List.mem_append_left _ hx
theorem asM{d:aX}(aB:Jb d):kB d.2 [] []=d.2:=by
 unfold kB;rw[List.append_nil,aB.Z3,aB.Z4];rfl
theorem asN{d:aX}(aw:cW d)(aB:Jb d):sV d.2 [] []:=by
 have G:=aw.ZR;have:=G.dB;have:=G.iu;refine⟨?_,?_,?_,?_⟩
 ·rw[List.append_nil];exact (H.ua _).1 G.cl
 ·rw[List.append_nil,aB.Z3];omega
 ·rw[aB.Z4];omega
 ·rw[List.append_nil];exact G.ids
theorem asO{d:aX}(aw:cW d)(aB:Jb d){L B:List aH}(gh:∀ s∈L,Bm s/\s.length<=10000)(aN:∀ s,s∈B<->s∈L)(h:∀ a∈(cO d L).1,a=mv) :
  (∀ a∈(cO d B).1,a=mv)/\(cO d B).2=(cO d L).2:=by
 have e:=asM aB;have aA:=asN aw aB;have cR:=Qq d.2 d.1 L [] [] aA (by rw[e];exact aw) gh;have q2:=Qq d.2 d.1 B [] [] aA (by rw[e];exact aw) λs hs=>gh s ((aN s).1 hs);rw[e]at cR q2;simp only[List.nil_append]at cR q2;obtain⟨aP,aQ,bB⟩:=cR.1 h;have m1:∀ s,s∈pb B<->s∈pb L:=λs=>by unfold pb;simp only[List.mem_flatMap,aN]
 have m2:∀ n,n∈wx B<->n∈wx L:=λs=>by unfold wx;simp only[List.mem_flatMap,aN]
 have ok:=q2.2 (λs hs=>aQ s ((aN s).1 hs)) (bB.mono (λs hs=>(m1 s).1 hs) λn aB=>(m2 n).1 aB);refine⟨ok,?_⟩;rw[(q2.1 ok).1,aP];refine congrArg (Prod.mk d.1) ?_;unfold kB;rw[H.asG (b:=d.2.2.1++pb B) bB.qq λs=>by rw[List.mem_append,List.mem_append,m1]];refine congrArg _ ?_;unfold H.hB;refine List.filter_congr λk aj=>?_;rw[Bool.eq_iff_iff];simp[m2]
def uH(w:aH):Bool:=decide (w≠[108,101,110,100])&&decide (w≠[98,97,99,107])&&decide (w≠[118,111,105,100])
theorem asP{s:aH}{d:aX}(h:uH (jr s).1=false)(aU:(kA d s).1=mv):Bm s:=by
 cases hp:wj s with
 | none=>
  unfold kA at aU;rw[hp]at aU;exact absurd (show ZO=mv from aU) (by decide)
 | some q=>
  obtain⟨j,l⟩:=q;obtain⟨p,aD,aa⟩:=arB hp;refine⟨j,l,hp,?_⟩;rw[aa]at h;have key:∀ i:Fin 20,uH (jS.getD i.val ([],0,false)).1=false->i.val<3:=by decide
  have h9:j<20:=(List.getElem?_eq_some_iff.1 aD).1;have aA:jS.getD j ([],0,false)=p:=by rw[List.getD_eq_getElem?_getD,aD];rfl
  exact key ⟨j,h9⟩ (by rw[aA];exact h)
end Go.Fer.W
namespace Go.Fer.W
open M (ab)
open H (gF)
theorem aaG:∀ (l b:List aH),l.foldl (λb s=>b++[s,s]) b=b++l.flatMap λs=>[s,s]
 | [],b=>by simp
 | s::l,b=>by
  rw[List.foldl_cons,aaG l,List.flatMap_cons,List.append_assoc]
theorem aaH:∀ (l:List aH),(l.flatMap λs=>[s,s]).length=2*l.length
 | []=>rfl
 | s::l=>by
  have:=aaH l;rw[List.flatMap_cons,List.length_append,this];simp only[List.length_cons,List.length_nil];omega
theorem aaI:∀ (L:List aH) (E:aX),(∀ s∈L,uH (jr s).1=false)->(∀ a∈(cO E L).1,a=mv)->∀ s∈L,Bm s
 | [],_,_,_,s,hs=>by cases hs
 | t::L,E,h1,h2,s,hs=>by
  simp only[cO,List.forall_mem_cons]at h2;rcases List.mem_cons.1 hs with rfl | hs
  ·exact asP (h1 s (by simp)) h2.1
  ·exact aaI L _ (λs hs=>h1 s (by simp[hs])) h2.2 s hs
theorem asQ{s:aH}(h:s.length<=10000):yC.sh s=M.pure (jr s).1:=M.bF h _
theorem aci(x:aX×List aH×List aH)(h1:e' x.1.1)(h2:H.ij x.1.2)(h3:x.2.1.length<2 ^ 63)(aT:x.2.2.length<2 ^ 63):OV yE.sh uE.sh EJ.sh EL.sh EM.sh yD.sh yC.sh EH.sh x=M.pure true:=by
 obtain⟨d,L,Q⟩:=x;change e' d.1 at h1;change H.ij d.2 at h2;change L.length<2 ^ 63 at h3;change Q.length<2 ^ 63 at aT;unfold OV;rw[GL h1 h2 h3,M.aE,aah,show yE.sh (d,Q)=M.pure (rE d Q) from M.bF ⟨h1,h2,aT⟩ _,M.ku,M.aE];by_cases hc:(!rE d L&&decide (jT d=0)&&decide ((L.length:Int)<=10))=true/\rE d Q=false/\Q.length<=5
 ·obtain⟨aa,bf,cI⟩:=hc;rw[if_neg (by simp only[aa,bf];grind)];obtain⟨aw,l10,asR⟩:=aag h1 h2 aa;obtain⟨_,_,asS⟩:=aag (l:=Q) (n:=5) h1 h2 (by rw[bf,aw.ZQ];simp;omega);have l10:L.length<=10:=by omega
  have an:∀ s∈L,s.length<=10000:=λs hs=>by have:=asR s hs;omega
  have zU:∀ s∈Q,s.length<=10000:=λs hs=>by have:=asS s hs;omega
  have j6:=Z6 aw;have bY:=bn (n:=(L.length:Int) - 1) (by omega) (by omega);have cy:=bn (n:=2*(L.length:Int)) (by omega) (by omega);simp only[bI,bY];rw[M.gj L.reverse (λi (b:List aH)=>(L,Q,(L.length:Int) - 1 - (i:Int),d,b,())) (λs b=>if uH (jr s).1=true then .done (.done true) else .next (b++[s,s])) (λb=>.next (L,Q,d,b,())) (λi b=>b.length=2*i) [] ?_ rfl ?_ ?_]
  ·rw[Je,M.aE];by_cases hw:(L.reverse.any λs=>uH (jr s).1)=true
   ·rw[if_pos hw];rfl
   ·rw[if_neg hw,M.bL,aaG,List.nil_append];have Pg:∀ s∈L,uH (jr s).1=false:=λs hs=>by
     cases ad:uH (jr s).1 with
     | false=>rfl
     | true=>exact absurd (List.any_eq_true.2 ⟨s,List.mem_reverse.2 hs,ad⟩) hw
    have aN:∀ s,s∈(L.reverse.flatMap λs=>[s,s])<->s∈L:=λs=>by simp
    have Js:=aaH L.reverse;rw[List.length_reverse]at Js;generalize (L.reverse.flatMap λs=>[s,s])=B at *
    rw[M.dj Q (λi (_:Unit)=>(L,Q,(i:Int),d,B,())) (λs b=>if (!EG s)=true then .done (.done true) else .next b) (λ_=>.next (L,Q,d,B,())) () ?_ ?_ ?_]
    ·rw[po,M.aE];by_cases aj:(Q.any λs=>!EG s)=true
     ·rw[if_pos aj];rfl
     ·rw[if_neg aj,M.bL];have asT:∀ s∈L++Q,s.length<=10000:=λs hs=>(List.mem_append.1 hs).elim (an s) (zU s);have asU:∀ s∈B++Q,s.length<=10000:=λs hs=>(List.mem_append.1 hs).elim (λh=>an s ((aN s).1 h)) (zU s);have cR:=aai aw (l:=L++Q) (by simp;omega) asT;have q2:=aai aw (l:=B++Q) (by simp;omega) asU;rw[aqB]at cR q2;have dA:=IX (dK d) L;have dB:=IX (dK d) B;have va:cW (cO (cO (dK d) L).2 Q).2:=Z8 (Z8 j6 an) zU;have o8:(∀ a∈(cO (dK d) L).1,a=mv)->(∀ s∈L,Bm s)->_:=λeJ je=>asO j6 (arl aw) (L:=L) (B:=B) (λs hs=>⟨je s hs,an s hs⟩) aN eJ;have je:=aaI L (dK d) Pg;have iu:=IX (cO (dK d) L).2 Q;have n4:=IX (cO (dK d) B).2 Q;have eo:=bn (n:=(L.length:Int)+(Q.length:Int)) (by omega) (by omega);have ub:=bn (n:=2*(L.length:Int)+(Q.length:Int)) (by omega) (by omega);simp only[List.nil_append,cR,M.ik,M.fg,M.bg,b4,cy,eo,ub];rw[M.bp (gF (by simp only[iE];omega)),M.bp (gF (by simp only[iE];omega)),if_neg (by simp[dA,iu])];have hI:∀ i (G:i<(cO (dK d) L).1.length),((cO (dK d) L).1++(cO (cO (dK d) L).2 Q).1).getD i []=(cO (dK d) L).1[i]:=λi G=>by
       rw[List.getD_eq_getElem?_getD,List.getElem?_append_left G,List.getElem?_eq_getElem G];rfl
      rw[M.dj (cO (dK d) L).1 (λi (_:Unit)=>(L,Q,(cO (dK d) L).1++(cO (cO (dK d) L).2 Q).1,(i:Int),d,B,(cO (cO (dK d) L).2 Q).2,())) (λs b=>if decide (s≠mv)=true then .done (.done true) else .next b) (λ_=>.next (L,Q,(cO (dK d) L).1++(cO (cO (dK d) L).2 Q).1,d,B,(cO (cO (dK d) L).2 Q).2,())) () ?_ ?_ ?_]
      ·rw[po,M.aE];by_cases aU:((cO (dK d) L).1.any λs=>decide (s≠mv))=true
       ·rw[if_pos aU];rfl
       ·rw[if_neg aU,M.bL];have eJ:∀ a∈(cO (dK d) L).1,a=mv:=λa ao=>by
         refine Classical.byContradiction λdY=>aU (List.any_eq_true.2 ⟨a,ao,by simpa using dY⟩)
        obtain⟨dd,dN⟩:=o8 eJ (je eJ);rw[dN]at q2 n4;simp only[q2,M.ik,M.fg,M.bg];rw[M.bp (gF (by simp only[iE];omega)),arN va,M.ku,M.aE,if_neg (by simp[dB,n4,Js,cy,ub])];have asV:∀ i (G:i<(cO (dK d) B).1.length),((cO (dK d) B).1++(cO (cO (dK d) L).2 Q).1).getD i []=(cO (dK d) B).1[i]:=λi G=>by
         rw[List.getD_eq_getElem?_getD,List.getElem?_append_left G,List.getElem?_eq_getElem G];rfl
        generalize (cO (dK d) L).1=eO at *
        generalize (cO (dK d) B).1=Bn at *
        generalize (cO (cO (dK d) L).2 Q).1=dR at *
        rw[M.dj Bn (λi (_:Unit)=>(L,eO++dR,Bn++dR,(i:Int),())) (λs b=>.next b) (λ_=>.next (L,eO++dR,Bn++dR,())) () ?_ ?_ ?_]
        ·rw[dZ,M.aE,M.bL];have e1:List.drop L.length (List.take (eO++dR).length (eO++dR))=dR:=by rw[List.take_length,<-dA,List.drop_left]
         have e2:List.drop (2*L.length) (List.take (Bn++dR).length (Bn++dR))=dR:=by rw[List.take_length,<-Js,<-dB,List.drop_left]
         have e3:(2*(L.length:Int)).toNat=2*L.length:=by omega
         simp only[bI,cy,Int.toNat_natCast,e3,e1,e2];rw[aae (by omega),M.bp (by simp;omega),M.bp (by simp;omega)];simp[aah]
        ·rfl
        ·intro i G _;have cZ:i<(Bn++dR).length:=by simp;omega
         have hw:=bn (n:=(i:Int)+1) (by omega) (by omega);have bX:decide ((i:Int)<2*(L.length:Int))=true:=decide_eq_true (by omega);simp only[bI,cy,bX,if_true,cq cZ,M.bg,b4,hw,Int.toNat_natCast,asV i G,dd _ (List.getElem_mem G)];rfl
        ·simp[dB,Js,cy]
      ·rfl
      ·intro i G _;have CM:i<L.length:=by omega
       have cZ:i<((cO (dK d) L).1++(cO (cO (dK d) L).2 Q).1).length:=by simp;omega
       have hw:=bn (n:=(i:Int)+1) (by omega) (by omega);simp only[bI,cG CM,if_true,cq cZ,M.bg,b4,hw,Int.toNat_natCast,hI i G];by_cases aj:decide ((cO (dK d) L).1[i]≠mv)=true
       ·rw[if_pos aj,if_pos aj];simp only[M.aE];rfl
       ·rw[if_neg aj,if_neg aj];rfl
      ·simp[dA]
    ·rfl
    ·intro i G _;have hw:=bn (n:=(i:Int)+1) (by omega) (by omega);simp only[bI,cG G,if_true,c6 G,cq G,M.bg,b4,hw];rw[arG (zU _ (List.getElem_mem G)),M.aE];by_cases aj:(!EG Q[i])=true
     ·rw[if_pos aj,if_pos aj];simp only[M.aE];rfl
     ·rw[if_neg aj,if_neg aj];rfl
    ·simp
  ·simp
  ·intro i G b ad;have cZ:i<L.length:=by simpa using G
   have e1:(L.length:Int) - 1 - (i:Int)=((L.length - 1 - i:Nat):Int):=by omega
   have aD:L.length - 1 - i<L.length:=by omega
   have e2:L.reverse[i]=L[L.length - 1 - i]:=List.getElem_reverse ..;have hw:=bn (n:=((L.length - 1 - i:Nat):Int) - 1) (by omega) (by omega);have zo:decide (((L.length - 1 - i:Nat):Int)>=0)=true:=decide_eq_true (by omega);refine⟨?_,λa1 cQ=>?_⟩
   ·simp only[e1,bI,zo,if_true,c6 aD,cq aD,M.bg,b4,hw,e2];rw[asQ (an _ (List.getElem_mem aD)),M.aE];change (if uH (jr L[L.length - 1 - i]).1=true then _ else _)=_;by_cases aj:uH (jr L[L.length - 1 - i]).1=true
    ·rw[if_pos aj,if_pos aj];simp only[M.aE];rfl
    ·rw[if_neg aj,if_neg aj,M.bp (gF (by simp only[iE];omega))];have e3:((L.length - 1 - i:Nat):Int) - 1=(L.length:Int) - 1 - ((i+1:Nat):Int):=by omega
     rw[e3];rfl
   ·split at cQ
    ·cases cQ
    ·simp only[ab.next.injEq]at cQ;subst cQ;simp[ad];omega
  ·intro b ad;have:((L.length:Int) - 1 - ((L.reverse.length:Nat):Int))=-1:=by simp;omega
   simp only[this];simp
 ·rw[if_pos (by grind),M.aE]
end Go.Fer.W
namespace Go.Fer.n3
open Go.Proofs Go.Proofs.Tryz
open M (ab)
set_option maxRecDepth 100000
noncomputable section
abbrev L:ch:=.ew
abbrev S(a b:ch):ch:=.seq a b
abbrev D:ch:=S L L
abbrev C(a b:ch):ch:=.cond a b
abbrev B(a:ch):ch:=.block a
abbrev J(s:List (Nat×bK))(b:List (Nat×bO))(x y:ch):ch:=.join ⟨s,b⟩ x y
abbrev W(s:List (Nat×bK))(b:List (Nat×bO))(x:ch):ch:=.loop ⟨s,b⟩ x
abbrev bW(s:List (Nat×bK))(b:List (Nat×bO))(t:List (Nat×bK))(c:List (Nat×bO))(u:List (Nat×bK))(d:List (Nat×bO))(x y:ch):ch:=.range ⟨s,b⟩ ⟨t,c⟩ ⟨u,d⟩ x y
abbrev v2:bK:=.val t2
abbrev a2:bO:=.a8 t2
abbrev v4:bK:=.val t4
abbrev v9:bK:=.val t9
abbrev a9:bO:=.a8 t9
abbrev v22:bK:=.val t22
abbrev rF:bK:=.val Du
abbrev v24:bK:=.val G6
abbrev Qr:bO:=.fL tU
abbrev d_:bK:=.val t27
abbrev EO:bO:=.a8 t27
abbrev v28:bK:=.val t28
abbrev Bo:bK:=.val G7
abbrev pP:bK:=.val Ad
abbrev yH:bO:=.fL t32
abbrev nl:bK:=.val qh
abbrev v34:bK:=.val t34
abbrev aaJ:bO:=.fL MU
abbrev Jt:bO:=.fL sZ
abbrev pQ:bO:=.fL wB
abbrev Qs:bO:=.a8 Ac
abbrev hg:bK:=.val yO
abbrev Ju:bO:=.a8 xI
abbrev Qt:bO:=.fL xI
abbrev asW:bO:=.a8 vm
abbrev Bp:bO:=.a8 rh
abbrev asX:bO:=.fL rh
abbrev asY:bO:=.a8 xK
abbrev aaK:bO:=.fL xK
abbrev asZ:bK:=.val MW
abbrev EP:bO:=.fL qi
abbrev aaL:bK:=.val UF
abbrev Bq:bK:=.val Dv
abbrev aaM:bK:=.val iS
abbrev wy:bO:=.a8 iS
abbrev Qu:bK:=.val vn
abbrev aaN:bK:=.val UG
abbrev aaO:bK:=.val pk
abbrev ER:bO:=.a8 pk
abbrev as0:bK:=.val UH
abbrev aaP:bK:=.val MY
abbrev aaQ:bK:=.val MZ
abbrev gA:bO:=.a8 qj
abbrev yI:bO:=.fL qj
abbrev Qv:bK:=.val M0
abbrev kC:bK:=.val oy
abbrev as1:bK:=.val UN
abbrev aaR:bO:=.fL MV
abbrev Qw:bO:=.a8 Aa
abbrev aaS:bO:=.fL Aa
abbrev Qx:bK:=.val G5
abbrev aaT:bO:=.a8 xJ
abbrev as2:bO:=.a8 Ab
abbrev aaU:bO:=.fL Ab
abbrev as3:bK:=.val UO
abbrev Qy:bK:=.val M2
abbrev v228:bK:=.val t228
abbrev as4:bK:=.val UR
abbrev as5:bK:=.val US
abbrev as6:bK:=.val UT
abbrev Br:bK:=.val UU
abbrev as7:bK:=.val UW
abbrev as8:bK:=.val UX
abbrev Jv:bK:=.val Dx
abbrev na:List (Nat×bK):=[(6,.loc 17 0),(56,.hn [30000,30001,30002,30003,30004,30005,30006,30007,30008,30009]),(57,v2)]
abbrev nm:List (Nat×bK):=[(1,.loc 1 0)]
abbrev aaV:List (Nat×bK):=[(1,.loc 1 0),(2,.loc 2 0),(3,.loc 1 0),(38,v2),(39,v2)]
abbrev aaW:List (Nat×bK):=[(2,.loc 2 0),(7,.loc 22 0),(8,.loc 8 0),(9,.loc 9 0),(10,.own 10),(11,.loc 11 0),(24,v22),(25,v2),(26,v2)]
abbrev aaX:List (Nat×bK):=[(2,.loc 2 0),(3,.loc 3 0),(4,.own 4),(5,.own 5),(7,Qu),(8,v2),(9,v2),(23,v2),(29,Qv),(30,v2),(31,v2)]
abbrev sW:List (Nat×bK):=[(1,.loc 1 0),(3,v2)]
abbrev aaY:List (Nat×bK):=[(2,.loc 2 0),(7,.loc 30 0),(10,v2),(11,v2),(46,v2),(47,v2),(52,rF),(53,v2),(54,v2),(61,v2),(62,v2)]
abbrev as9:List (Nat×bK):=[(1,.loc 1 0),(2,.loc 2 0),(3,.loc 1 0),(5,.iL 22),(38,v2),(39,v2),(60,v2),(61,v2)]
abbrev aaZ:List (Nat×bK):=[(0,kC),(1,d_),(2,v2),(3,.gN),(9,v2),(29,v28),(30,v2),(31,v2),(1000000,.tr t27)]
abbrev aa0:List (Nat×bK):=[(0,kC),(1,.own 200001),(2,pP),(3,v2),(4,.fs 100002),(16,nl),(17,v2),(18,v2)]
abbrev Qz:List (Nat×bK):=[(1,.loc 1 0),(2,.loc 2 0)]
abbrev aa1:List (Nat×bK):=[(2,.loc 2 0),(3,.loc 3 0),(4,.own 4),(5,.own 5),(7,Qu),(8,v2),(9,v2),(23,v2)]
abbrev aa2:List (Nat×bK):=[(2,.loc 2 0),(7,.loc 30 0),(10,v2),(46,v2),(47,v2),(52,rF),(53,v2),(54,v2)]
abbrev aa3:List (Nat×bK):=[(0,.gN),(2,.dD vn),(10,aaQ),(11,v2),(1000000,.tr (.ay iS t2))]
abbrev aa4:List (Nat×bK):=[(2,v2),(6,.loc 6 0),(8,.loc 8 0),(9,v4),(17,aaP),(18,v2),(19,v2)]
abbrev aa5:List (Nat×bK):=[(4,.loc 4 0),(5,.loc 5 0),(10,.fs 24),(28,Qv),(29,v2),(30,v2)]
abbrev aa6:List (Nat×bK):=[(2,.loc 2 0),(3,.loc 3 0),(4,.own 4),(5,.own 5),(7,Qu),(23,v2)]
abbrev Bs:List (Nat×bK):=[(1,.loc 1 0),(5,v2)]
abbrev aa7:List (Nat×bK):=[(0,aaL),(1,v2),(2,v2),(3,v2),(9,v2),(18,d_),(19,v2),(20,v2)]
abbrev aa8:List (Nat×bK):=[(1,v2),(6,kC),(8,.own 8),(9,.own 50260),(29,v2),(30,v2)]
abbrev aa9:List (Nat×bK):=[(1,hg),(2,.loc 2 0),(5,v2),(6,v2),(7,v2),(8,v2),(10,v2)]
abbrev Jw:List (Nat×bK):=[(1,.loc 1 0),(3,v2),(4,v2)]
abbrev aa_:List (Nat×bK):=[(1,as0),(4,.loc 4 0),(5,v4),(13,Qv),(14,v2),(15,v2)]
abbrev aa':List (Nat×bK):=[(0,kC),(1,pP),(5,.own 50140),(6,v2),(16,v2),(17,v2)]
abbrev Jx:List (Nat×bK):=[(2,.loc 2 0),(3,.loc 3 0)]
abbrev QA:List (Nat×bK):=[(2,.loc 2 0),(3,.loc 3 0),(7,v2)]
abbrev js:List (Nat×bO):=[(17,.cells Dw [d_,.own 30000,.own 30001,.own 30002,.own 30003,.own 30004,.own 30005,.own 30006,.own 30007,.own 30008,.own 30009]),(30000,gA),(30001,gA),(30002,gA),(30003,gA),(30004,gA),(30005,gA),(30006,gA),(30007,gA),(30008,gA),(30009,gA),(100000,.cells ri [nl,v34,d_,nl,v2,v2,v2,v2,v2,v2,v2,v34,.own 100002]),(100002,ER)]
abbrev sX:List (Nat×bO):=[(12,yI),(17,.cells Dw [d_,.own 30000,.own 30001,.own 30002,.own 30003,.own 30004,.own 30005,.own 30006,.own 30007,.own 30008,.own 30009]),(30000,gA),(30001,gA),(30002,gA),(30003,gA),(30004,gA),(30005,gA),(30006,gA),(30007,gA),(30008,gA),(30009,gA),(100000,.cells ri [nl,v34,d_,nl,v2,v2,v2,v2,v2,v2,v2,v34,.own 100002]),(100002,ER)]
abbrev Jy:List (Nat×bO):=[(1,.cells t32 [.own 17,.own 22,v2,.own 27,.own 84,.own 87,.own 90,.own 93,v2]),(2,.cells t32 [.cV,.cV,v2,.cV,.cV,.cV,.cV,.cV,v2]),(17,Qw),(22,aaT),(27,Qs),(84,a2),(87,asY),(90,asW),(93,Bp)]
abbrev aba:List (Nat×bO):=[(1,.cells t32 [.own 17,.own 22,v2,.own 27,d_,v28,Bo,pP,v2]),(2,.cells t32 [.cV,.cV,v2,.cV,.cV,.cV,.cV,.cV,v2]),(17,Qw),(22,.fQ xJ (.own 50530)),(27,Qs),(50530,as2)]
abbrev wz:List (Nat×bO):=[(2,yH),(28,.mp rh t2),(30,.cells t222 [v22,rF,v2,v24,d_,v28,Bo,pP,v2,.cV,.fs 28])]
abbrev abb:List (Nat×bO):=[(1,.cells t32 [.own 17,.own 22,v2,.own 27,d_,v28,Bo,pP,v2]),(2,.cells t32 [.cV,.cV,v2,.cV,.cV,.cV,.cV,.cV,v2]),(17,Qw),(22,aaT),(27,Qs)]
abbrev abc:List (Nat×bO):=[(4,a9),(5,.cells wB [.cV,.cV,v2,.cV,.cV,.cV,.cV,.cV,v2,.cV,.cV,.cV,.cV,v2,v2,v2,v2,v2,v2,v2]),(50230,EP)]
abbrev Bt:List (Nat×bO):=[(2,Jt),(3,.gm t2),(4,a2),(5,a2)]
abbrev abd:List (Nat×bO):=[(2,yH),(28,.mp rh t2),(30,.cells t222 [v22,rF,v2,v24,d_,v28,Bo,pP,v2,.own 109,.fs 28]),(109,Ju)]
abbrev abe:List (Nat×bO):=[(28,.mp rh t2),(30,.cells t222 [v22,rF,v2,v24,d_,v28,Bo,pP,v2,.own 109,.fs 28]),(109,Ju)]
abbrev abf:List (Nat×bO):=[(100000,.cells ri [nl,v34,d_,nl,v2,v2,v2,v2,v2,v2,v2,v34,.own 100002]),(100002,ER)]
abbrev nn:List (Nat×bO):=[(1,Qr)]
abbrev n2:List (Nat×bO):=[(1,Jt)]
abbrev abg:List (Nat×bO):=[(2,.gm tU),(22,.cells xL [v22,rF,v2,v24,.own 61]),(61,EO)]
abbrev yJ:List (Nat×bO):=[(2,Qr),(3,Qr)]
abbrev qD:List (Nat×bO):=[(1,yH)]
abbrev QB:List (Nat×bO):=[(100002,.mp t2 t2),(200001,a2)]
abbrev ES:List (Nat×bO):=[(2,Jt),(3,Jt)]
abbrev ET:List (Nat×bO):=[(5,yH),(6,yH)]
abbrev e0:ch:=S L (C D L)
abbrev e10:ch:=C L L
abbrev e1:ch:=S L e10
abbrev e2:ch:=S L D
abbrev l0:ch:=S L e0
abbrev e3:ch:=S L (S e10 (S (B l0) L))
abbrev e4:ch:=S e1 (S (B e0) L)
abbrev eP:ch:=S L (S e10 (S (B D) L))
abbrev jV:ch:=S L (S L (S L (J Qz abb (S L (B (W aaV abb (S L (S e10 (J aaV aba (B (S L (S L (S (.nD 5 L) (S L (B (W as9 aba eP))))))) (.F8 22 L))))))) (S L (J Qz Jy (S L (B (W [(1,.loc 1 0),(2,.loc 2 0),(100,v2),(101,v2)] Jy eP))) (J Qz Jy (S L (B (W [(1,.loc 1 0),(2,.loc 2 0),(119,v2),(120,v2)] Jy eP))) D))))))
abbrev ko:ch:=S L (J [(0,d_),(1,v2)] [] e1 (S L (J [(0,d_),(6,v228)] [] e1 (S L (S L (J [(7,.own 30)] [(30,a2)] (B (W [(7,.own 30),(8,v2)] [(30,a2)] (S e1 (B L)))) D))))))
abbrev abh:ch:=S L (S L (J [(4,.fs 12)] [(12,.mp t2 iS)] (S L (B (W [(4,.fs 12),(13,v34),(14,v2),(15,v2)] [(12,.mp t2 iS)] (S L (S e10 (S (B (S L (S l0 L))) L)))))) (S L (J [(9,.own 9)] [(9,wy)] (S L (B (W [(4,.fs 12),(9,.own 9),(39,d_),(40,v2),(41,v2)] [(9,wy),(12,.i_ t2 iS)] eP))) D))))
abbrev e9:ch:=S L (S e0 D)
abbrev yK:ch:=S e1 (S (B l0) L)
abbrev Bu:ch:=S L (S L (S e0 e2))
abbrev yL:ch:=B (S L (S L e1))
abbrev e20:ch:=S L e2
abbrev uI:ch:=S L e20
abbrev EU:ch:=S e1 (S (B L) L)
abbrev abi:ch:=S L (J [] [] (S L (B (W [(0,d_),(3,v2)] [] e4))) D)
abbrev yM:ch:=B (S L e1)
abbrev abj:ch:=S L (B (W [(1,.loc 1 0),(4,v2)] qD e4))
abbrev abk:ch:=S L (S (S L (B (S L (C D e0)))) D)
abbrev iA0:=IOC.mk ⟨[(0,.loc 100000 0),(1,.val t27)],[(100000,.fL qi)]⟩ ⟨[(0,.val t9)],[(100000,.fL qi)]⟩ [none] 2
def as_:=mk asF func208 b8 e2 anr
def as':=mk as_ func148 H.b8 e2 H.akA
def ata:=mk as' func147 H.vw e2 H.akE
def atb:=mk ata func149 H.fcSlip e9 H.akG
def atc:=mk atb func67 H.vy (S L (S e0 (J nm n2 (S L (B (W sW n2 e4))) (J nm n2 (S L (B (W [(1,.loc 1 0),(4,v2)] n2 e4))) (J nm n2 (S L (B (W Bs n2 e4))) (J [] [] (S L (B (W [(1,.loc 1 0),(6,v2)] n2 yK))) D)))))) H.ala
def atd:=mk atc func68 H.Hu e2 H.akK
def ate:=mk atd func26 H.hO (S L (S e0 (J [] [] (S L (B (W sW n2 (S e1 (J sW n2 (B (S L (B (W Jw n2 e4)))) L))))) D))) H.alc
def atf:=mk ate func251 oK e2 anx
def atg:=mk atf func316 um abi anz
def ath:=mk atg func252 sI (S L (J nm [(1,aaU)] (S L (B (W sW [(1,aaU)] e4))) D)) anB
def ati:=mk ath func253 pE e2 ant
def atj:=mk ati func317 AV e2 anv
def atk:=mk atj func254 rs e2 anw
def atl:=mk atk func179 sJ (S L (S e0 (J nm nn (S L (B (W sW nn yK))) (J nm nn (S L (B (W Bs nn (S e1 (J Bs nn (B (S e0 (S L (B (W [(1,.loc 1 0),(5,v2),(6,v2)] nn e4))))) L))))) (J [] [] (S L (B (W [(1,.loc 1 0),(7,v2)] nn yK))) D))))) anD
def atm:=mk atl func104 hO (S L (S e0 (J [] [] (S L (B (W sW nn (S e1 (J sW nn (B (S L (B (W Jw nn yK)))) L))))) D))) anF
def atn:=mk atm func105 b8 e2 aow
def ato:=mk atn func180 Ig (S L (J [] [] (S L (B (W [(0,d_),(1,v2),(5,v2)] [] e4))) D)) aoA
def atp:=mk ato func106 Ii e9 aoK
def atq:=mk atp func107 Ij e2 aoL
def atr:=mk atq func48 pK (S L (S l0 (S e0 (J nm qD abj (J nm qD (S L (B (W Bs qD e4))) (J nm qD (S L (B (W [(1,.loc 1 0),(6,v2)] qD e4))) (J [] [] (S L (B (W [(1,.loc 1 0),(7,v2)] qD yK))) D))))))) aoM
def xT:=mk atr func15 W.sU e9 W.ars
def ats:=mk xT func110 vM (S L (S e0 (J nm nn (S L (B (W sW nn (S e1 (J sW nn (B (S e0 (S L (B (W Jw nn e4))))) L))))) (S e0 (J nm nn (S L (B (W Bs nn e4))) D))))) aos
def att:=mk ats func50 IK (S L (S e0 (J nm qD (S L (B (W sW qD e4))) (J nm qD abj (S e0 (S L (J Bs qD (S L (B (W [(1,.loc 1 0),(5,v2),(6,v2)] qD EU))) D))))))) ap_
def atu:=mk att func51 H.vM (S L (S e0 (S e0 (S L (J [(3,v2)] [] (S L (B (W Jw n2 EU))) D))))) H.amU
def atv:=mk atu func111 W.Jg (S L (S L (J [(3,.own 5)] [(5,a9)] (S L (B (W [(0,v9),(3,.own 5),(4,v2)] [(5,a9)] (S e1 (J [(0,v9),(3,.own 5),(4,v2)] [(5,a9)] (B e1) L))))) D))) W.arw
def atw:=mk atv func112 W.Jf (S L (S e0 (S L (J [(3,v2)] [] (S L (B (W [(0,v9),(3,v2),(4,v2)] [] (S e1 (S (B (S e0 L)) L))))) D)))) W.arv
def atx:=mk atw func113 W.Jh (S L uI) W.ary
def aty:=mk atx func52 W.Bk (S L (S L (J [(3,.own 3),(5,hg)] [(3,a2)] (S L (B (W [(3,.own 3),(5,hg),(6,v2)] [(3,a2)] (S e1 (S (B (S L (S e0 L))) L))))) (S L (J [] [] (S L (B (W [(3,.own 3),(5,hg),(8,hg),(9,d_),(10,d_),(11,v2)] [(3,a2)] e4))) D))))) W.arz
def so:=mk aty func14 W.yE (S L (S e0 (S L (J [(1,hg),(2,.loc 2 0),(5,v2),(6,v2),(7,v2),(8,v2)] [(2,pQ)] (S L (B (W [(1,hg),(2,.loc 2 0),(5,v2),(6,v2),(7,v2),(8,v2),(9,v2)] [(2,pQ)] EU))) (J [(2,.loc 2 0),(5,v2),(6,v2),(7,v2),(8,v2)] [(2,pQ)] (S L (B (W aa9 [(2,pQ)] (S e1 (J aa9 [(2,pQ)] (B (S e0 (S L (B (S L (C L (S L (C L (S L (C D e1)))))))))) L))))) D))))) W.arP
def atz:=mk so func276 (kQ jO) (S L (J [] [] (S L (B (W [(0,v24),(1,as3),(7,v2),(8,v2)] [] e3))) D)) (ss jO)
def atA:=mk atz func206 (iU jO) e2 (su jO)
def atB:=jI atA [] func207 (vV jO) 1 e2 (Ef jO)
def atC:=lQ atB [(207,1)] func144 (fcAllF jO) e2 (Eg jO)
def atD:=mk atC func145 b8 e2 anO
def atE:=mk atD func266 x' e2 anQ
def atF:=mk atE func267 oK e2 anP
def atG:=mk atF func265 H9 e2 anX
def atH:=mk atG func292 (kQ tI) (S L (J [] [] (S L (B (W [(0,d_),(1,aaN),(7,v2),(8,v2)] [] e3))) D)) (ss tI)
def atI:=mk atH func227 (iU tI) e2 (su tI)
def atJ:=jI atI [] func331 (vV tI) 1 e2 (Ef tI)
def atK:=lQ atJ [(331,1)] func269 (fcAllF tI) e2 (Eg tI)
def atL:=mk atK func270 um abi anT
def atM:=lQ atL [] func268 sI e2 anY
def atN:=mk atM func372 (kQ tSlot) (S L (J [] [] (S L (B (W [(0,Qx),(1,as6),(7,v2),(8,v2)] [] e3))) D)) (ss tSlot)
def atO:=mk atN func332 (iU tSlot) e2 (su tSlot)
def atP:=jI atO [] func333 (vV tSlot) 1 e2 (Ef tSlot)
def atQ:=lQ atP [(333,1)] func272 (fcAllF tSlot) e2 (Eg tSlot)
def atS:=jI atQ [] func271 AZ 1 e2 anZ
def atT:=mk atS func64 pE e2 anR
def atU:=mk atT func65 rs e2 anS
def atV:=jI atU [] func273 A0 1 e2 an0
def atW:=mk atV func373 (kQ ky) (S L (J [] [] (S L (B (W [(0,v22),(1,as7),(7,v2),(8,v2)] [] e3))) D)) (ss ky)
def atX:=mk atW func334 (iU ky) e2 (su ky)
def atY:=jI atX [] func335 (vV ky) 1 e2 (Ef ky)
def atZ:=lQ atY [(335,1)] func274 (fcAllF ky) e2 (Eg ky)
def at0:=mk atZ func374 (kQ kS) (S L (J [] [] (S L (B (W [(0,rF),(1,as8),(7,v2),(8,v2)] [] e3))) D)) (ss kS)
def at1:=mk at0 func336 (iU kS) e2 (su kS)
def at2:=jI at1 [] func337 (vV kS) 1 e2 (Ef kS)
def at3:=lQ at2 [(337,1)] func275 (fcAllF kS) e2 (Eg kS)
def at4:=lQ at3 [(271,1),(273,1)] func205 sJ (S L (S L uI)) an1
def at5:=mk at4 func141 hO (S L (S e0 (S L (J [] [] (S L (B (W [(3,.fs 12),(14,v24),(15,v2),(16,v2)] [(12,.mp rh t2)] (S L (S e10 (S (B (S L (S L (S l0 L)))) L)))))) D)))) an5
def at6:=mk at5 func164 b8 e2 aov
def at7:=mk at6 func220 fcHund e2 aox
def aua:=mk at7 func221 fcRising (S L (J [] [] (S L (B (W [(0,d_),(1,aaN),(7,d_),(8,v2),(9,v2)] [] e3))) D)) aoz
def aub:=jI aua [] func222 Ek 1 e2 aoD (hc:=λx h=>by obtain⟨w,p,au,_⟩:=h;exact sj ⟨⟨trivial,rj (congrArg (λo=>o.1) au)⟩,rj (congrArg (λo=>o.2) au)⟩)
def auc:=jI aub [(222,1)] func219 El 1 e2 aoE (hc:=λx h=>by obtain⟨_,w,au,_⟩:=h;exact sj ⟨trivial,rj au⟩)
def aud:=mk auc func224 fcHund e2 aoy
def aue:=lQ aud [] func223 Em e2 aoF
def auf:=jI aue [] func225 En 1 e2 aoG (hc:=λx h=>by obtain⟨w,au,_⟩:=h;exact sj ⟨trivial,rj au⟩)
def aug:=mk auf func226 Eo e2 aoH
def auh:=mk aug func293 (kQ mZ) (S L (J [] [] (S L (B (W [(0,v28),(1,as4),(7,v2),(8,v2)] [] e3))) D)) (ss mZ)
def aui:=mk auh func228 (iU mZ) e2 (su mZ)
def auj:=mk aui func294 (kQ tWi) (S L (J [] [] (S L (B (W [(0,Bo),(1,as1),(7,v2),(8,v2)] [] e3))) D)) (ss tWi)
def auk:=mk auj func229 (iU tWi) e2 (su tWi)
def aul:=mk auk func295 (kQ pI) (S L (J [] [] (S L (B (W [(0,pP),(1,as5),(7,v2),(8,v2)] [] e3))) D)) (ss pI)
def aum:=mk aul func230 (iU pI) e2 (su pI)
def aun:=lQ aum [(219,1),(225,1)] func171 O8 (S L (S L (S L uI))) aoI
def QC:=mk aun func100 pK (S L (S l0 (S e0 D))) aoJ
def abl:IOC:=⟨⟨[(0,.cV),(1,.val M1)],[]⟩,⟨[(0,.own 50000)],[(50000,.a8 t2)]⟩,[none],2,H.As⟩
theorem auo:IoSpec Tryz.prog noU 213 abl:=mkI QC [] trivial func213 (S L (S (S L (B (bW [(2,.loc 2 0)] [(2,.cells t27 [.own 50000]),(50000,a2)] [(2,.loc 100002 0),(7,v2)] [(100002,.cells t27 [.own 150000]),(150000,a2)] [] [(100002,.cells t27 [.own 150000]),(150000,a2)] L (B L)))) D)) H.ak6
def abm:IOC:=⟨⟨[(0,.val M1)],[]⟩,⟨[(0,.own 50040)],[(50040,.a8 t2)]⟩,[none],1,H.As⟩
theorem aup:IoSpec Tryz.prog noU 160 abm:=mkI QC [(213,.io abl)] ⟨auo,trivial⟩ func160 e2 H.ak7
def QD:=pt QC mi [(160,.io abm),(161,.io Qo)] ⟨aup,aaB,trivial⟩ func86 H.sv uI H.ak8
def abn:IOC:=⟨⟨[(0,.gN),(1,.dD G9),(1000000,.tr t2)],[]⟩,⟨[(1000000,.tr t2)],[]⟩,[],2,H.NV⟩
theorem auq:IoSpec Tryz.prog noU 277 abn:=mkI (S:=H.NV) QD [] trivial func277 (S L (B (W [(0,.gN),(5,.jW 5),(1000000,.tr t2)] [(5,.b9 t2 iS)] (S L (S e10 yM))))) (λx=>M.le_refl _)
theorem aur:wH Tryz.prog 277 ⟨[G9],t2,H.jK⟩:=MQ (c:=abn) auq mi (λx l L=>(l,x.getD [],(l,L,[],false),())) rfl (by decide) (by simp[fP])
 (λx l L i hx=>by
  obtain⟨T,hT⟩:=hx;obtain⟨m,ao,_⟩:=hT;subst ao;by_cases h0:i=0
  ·subst h0;exact .inr (.inr (.inl ⟨rfl,rfl⟩))
  ·by_cases h1:i=1
   ·subst h1;exact .inr (.inl ⟨by decide,by decide,_,_,rfl,rfl⟩)
   by_cases h2:i=TRS
   ·subst h2;exact .inr (.inr (.inr ⟨rfl,rfl⟩))
   ·refine .inl ?_;exact (if_neg h0).trans ((if_neg h1).trans (if_neg h2)))
 rfl (λτ=>⟨_,_,_,_,rfl⟩) (λx l hx=>by
  obtain⟨T,hT⟩:=hx;obtain⟨m,ao,_⟩:=hT;subst ao;have h:=H.al8 l m;refine⟨h.1,λτ hτ l' L' p hsl=>?_⟩;have e:aF.tr τ.1.1 t2 τ.1.2.1 τ.1.2.2.1 τ.1.2.2.2=.tr l' t2 L' p false:=hsl;injection e with e1 e2 e3 e4 eP
  rw[<-e4];exact h.2 τ hτ eP)
def aus:=pt QD (QD.u [] [(277,⟨[G9],t2,H.jK⟩)] ⟨aur,trivial⟩) [] trivial func210 H.xZ e2 H.ak'
def aut:=mk aus func154 H.Ax abh H.alk
def auu:=mk aut func85 H.b8 e2 H.akB
def auv:=mk auu func209 (H.kQ H.gX) (S L (J [] [] (S L (B (W [(0,v34),(1,Qy),(7,v2),(8,v2)] [] e3))) D)) H.akL
def auw:=mk auv func151 (H.iU H.gX) e2 H.akM
def auy:=mk auw func231 H.vw (S L (J nm [(1,aaJ)] (S L (B (W [(1,.loc 1 0),(13,.own 13),(14,v2),(15,v2)] [(1,aaJ),(13,a2)] e3))) D)) H.akF
def auz:=mk auy func76 H.vv e2 H.akD
def auA:=mk auz func233 H.fcSlip e20 H.akH
def auB:=jI auA [] func232 H.DT 1 e2 H.akI
def auC:=mk auB func234 H.Ap e2 H.akJ
def auD:=lQ auC [(232,1)] func172 H.vy (S L (S e0 (J nm n2 (S L (B (W [(1,.loc 1 0),(38,nl),(39,v2),(40,v2)] n2 e3))) (J nm n2 (S L (B (W [(1,.loc 1 0),(57,nl),(58,v2),(59,v2)] n2 e3))) e20)))) H.alb
def auE:=mk auD func101 H.hO (S L (S e0 (S l0 D))) H.aln
def auF:=mk auE func46 W.sU e9 W.arf
def QE:=pt auF mi [(256,.io aaD)] ⟨asE,trivial⟩ func184 H.IS (S L (S L (J [(0,Br),(3,v2)] [] (S L (B (W [(0,Br),(3,v2),(9,Br),(10,v2),(11,v2)] [] (S L (S e10 (J [(0,Br),(3,v2),(9,Br),(10,v2),(11,v2)] [] yL L)))))) (S L (J [(6,.own 50240)] [(50240,wy)] (S L (B (W [(6,.own 50240),(25,Br),(26,v2),(27,v2)] [(50240,wy)] eP))) D))))) H.aqh
def abo:IOC:=⟨⟨[(0,.val Dv)],[]⟩,⟨[(0,.own 50240)],[(50240,.a8 t3)]⟩,[none],1,H.IT⟩
theorem auG:IoSpec Tryz.prog noU 185 abo:=mkI QE [(257,.io aaC)] ⟨asD,trivial⟩ func185 (S L (S L (J [(0,Bq),(3,v2)] [] (S L (B (W [(0,Bq),(3,v2),(9,Bq),(10,v2),(11,v2)] [] (S L (S e10 (J [(0,Bq),(3,v2),(9,Bq),(10,v2),(11,v2)] [] yL L)))))) (S L (J [(6,.own 50240)] [(50240,a2)] (S L (B (W [(6,.own 50240),(25,Bq),(26,v2),(27,v2)] [(50240,a2)] eP))) D))))) H.aqi
def abp:IOC:=⟨⟨[(0,.own 200001)],[(200001,.a8 t3)]⟩,⟨[(0,.sub 200001)],[(200001,.a8 t3)]⟩,[none],1,H.IV⟩
theorem auH:IoSpec Tryz.prog noU 186 abp:=mkI QE [] trivial func186 (S L (S e0 (J [(0,.own 200001)] [(200001,a2)] (S L (B (W [(0,.own 200001),(3,v2)] [(200001,a2)] (S e1 (J [(0,.own 200001),(3,v2)] [(200001,a2)] (B (S L (C (S L (J [(0,.own 200001),(3,v2)] [(200001,a2)] (S L (B (W [(0,.own 200001),(3,v2),(4,.sub 200001),(5,v2)] [(200001,a2)] (S e1 (J [(0,.own 200001),(3,v2),(4,.sub 200001),(5,v2)] [(200001,a2)] (B e0) L))))) e2)) L))) L))))) D))) H.aqo
def auI:=mk QE func187 H.EA e9 H.aqw
def uJ:=pt auI mi [(161,.io Qo),(185,.io abo),(186,.io abp)] ⟨aaB,auG,auH,trivial⟩ func117 H.Be (S L (S l0 (S L (S L (S l0 (S L (S e0 (S L Bu)))))))) H.aqy
def auJ:IOC:=⟨⟨[(0,.val t22)],[]⟩,⟨[(0,.own 60)],[(60,.a8 Aa)]⟩,[none],1,W.qC⟩
theorem auK:IoSpec Tryz.prog noU 188 auJ:=mkI uJ [] trivial func188 e9 W.wo
abbrev QF:eN:=.ow (SC.ow (W.fz ky).dc)
theorem abq:eN.Ok Tryz.prog noU 188 QF:=yG (sh:=(W.fz ky).sh) auK (λx h=>⟨h,λτ hτ=>by have h:τ=_:=hτ;subst h;exact (M.gu).symm⟩)
def auL:IOC:=⟨⟨[(0,.val Du)],[]⟩,⟨[(0,.own 60)],[(60,.a8 xJ)]⟩,[none],1,W.qC⟩
theorem auM:IoSpec Tryz.prog noU 189 auL:=mkI uJ [] trivial func189 e9 W.wo
abbrev QG:eN:=.ow (SC.ow (W.fz kS).dc)
theorem abr:eN.Ok Tryz.prog noU 189 QG:=yG (sh:=(W.fz kS).sh) auM (λx h=>⟨h,λτ hτ=>by have h:τ=_:=hτ;subst h;exact (M.gu).symm⟩)
def auN:IOC:=⟨⟨[(0,.val G6)],[]⟩,⟨[(0,.own 60)],[(60,.a8 Ac)]⟩,[none],1,W.qC⟩
theorem auO:IoSpec Tryz.prog noU 190 auN:=mkI uJ [] trivial func190 e9 W.wo
abbrev QH:eN:=.ow (SC.ow (W.fz jO).dc)
theorem abt:eN.Ok Tryz.prog noU 190 QH:=yG (sh:=(W.fz jO).sh) auO (λx h=>⟨h,λτ hτ=>by have h:τ=_:=hτ;subst h;exact (M.gu).symm⟩)
def QI:IOC:=⟨⟨[(0,.val G5)],[]⟩,⟨[(0,.own 60)],[(60,.a8 Ab)]⟩,[none],1,W.qC⟩
theorem abu:IoSpec Tryz.prog noU 191 QI:=mkI uJ [] trivial func191 e9 W.wo
def abv:IOC:=⟨⟨[(0,.val t27)],[]⟩,⟨[(0,.own 60)],[(60,.a8 t3)]⟩,[none],1,W.I1⟩
theorem abw:IoSpec Tryz.prog noU 192 abv:=mkI uJ [] trivial func192 e9 W.aqY
abbrev QJ:eN:=.ow (SC.ow H.fcClone.dc)
theorem abx:eN.Ok Tryz.prog noU 192 QJ:=yG (sh:=H.fcClone.sh) abw (λx h=>⟨h,λτ hτ=>by have h:τ=_:=hτ;subst h;exact (M.gu).symm⟩)
def auP:IOC:=⟨⟨[(0,.val t28)],[]⟩,⟨[(0,.own 60)],[(60,.a8 xK)]⟩,[none],1,W.qC⟩
theorem auQ:IoSpec Tryz.prog noU 193 auP:=mkI uJ [] trivial func193 e9 W.wo
abbrev QK:eN:=.ow (SC.ow (W.fz mZ).dc)
theorem aby:eN.Ok Tryz.prog noU 193 QK:=yG (sh:=(W.fz mZ).sh) auQ (λx h=>⟨h,λτ hτ=>by have h:τ=_:=hτ;subst h;exact (M.gu).symm⟩)
def auR:IOC:=⟨⟨[(0,.val G7)],[]⟩,⟨[(0,.own 60)],[(60,.a8 vm)]⟩,[none],1,W.qC⟩
theorem auS:IoSpec Tryz.prog noU 194 auR:=mkI uJ [] trivial func194 e9 W.wo
abbrev Jz:eN:=.ow (SC.ow (W.fz tWi).dc)
theorem QL:eN.Ok Tryz.prog noU 194 Jz:=yG (sh:=(W.fz tWi).sh) auS (λx h=>⟨h,λτ hτ=>by have h:τ=_:=hτ;subst h;exact (M.gu).symm⟩)
def auT:IOC:=⟨⟨[(0,.val Ad)],[]⟩,⟨[(0,.own 60)],[(60,.a8 rh)]⟩,[none],1,W.qC⟩
theorem auU:IoSpec Tryz.prog noU 195 auT:=mkI uJ [] trivial func195 e9 W.wo
abbrev QM:eN:=.ow (SC.ow (W.fz pI).dc)
theorem abz:eN.Ok Tryz.prog noU 195 QM:=yG (sh:=(W.fz pI).sh) auU (λx h=>⟨h,λτ hτ=>by have h:τ=_:=hτ;subst h;exact (M.gu).symm⟩)
def abA:=pt uJ mi [(188,QF),(189,QG),(190,QH),(191,.io QI),(192,QJ),(193,QK),(194,Jz),(195,QM)] ⟨abq,abr,abt,abu,abx,aby,QL,abz,trivial⟩ func118 W.I4 jV W.aq1
def abB:IOC:=⟨⟨[(0,.val wB)],[]⟩,⟨[(0,.loc 17 0)],[(17,.fL qi)]⟩,[none],1,W.uf⟩
theorem auV:IoSpec Tryz.prog noU 57 abB:=mkI abA [] trivial func57 e20 W.Oi
def EV:=mk abA func58 W.I_ e2 W.arb
def JA:IOC:=⟨⟨[(0,.loc 100000 0),(1,.val t34),(2,.val t27)],[(100000,.fL qi)]⟩,⟨[(0,.val t9)],[(100000,.fL qi)]⟩,[none],3,W.Bh⟩
theorem QN:IoSpec Tryz.prog noU 196 JA:=mkI EV [] trivial func196 Bu W.aqF
def QO:IOC:=iA0 (W.shD 5 W.PJ)
theorem auW:IoSpec Tryz.prog noU 119 QO:=mkI EV [(196,.io JA)] ⟨QN,trivial⟩ func119 e2 W.aqG
def auX:IOC:=iA0 (W.shD 4 W.PK)
theorem auY:IoSpec Tryz.prog noU 120 auX:=mkI EV [(196,.io JA)] ⟨QN,trivial⟩ func120 e2 W.aqH
def auZ:IOC:=iA0 (W.shD 1 W.PL)
theorem au0:IoSpec Tryz.prog noU 121 auZ:=mkI EV [(196,.io JA)] ⟨QN,trivial⟩ func121 e2 W.Oj
def au1:=mk EV func339 H.Hv e2 H.akP
def q280:=mk au1 func280 H.fcCmp (S L (S L (S L (S (S L (C (S e0 D) L)) (S e0 (S e0 (S e0 D))))))) H.akQ
def au2:=mk q280 func279 H.lT e2 H.akR
def au3:=mk au2 func211 H8 (S L (J [] [] (S L (B (W [(0,d_),(1,v2),(7,v2),(8,v2)] [] e3))) D)) anV
def au4:=mk au3 func157 oF e2 anW
def EW:=jI au4 [] func156 H.AF 1 e2 H.Oj
abbrev yN:=Af (aiT EW) [(156,1)] []
def abC:IOC:=⟨⟨[(0,.val t34)],[]⟩,⟨[(0,.own 9),(1,.val t4)],[(9,.a8 iS)]⟩,[none,none],1,H.HC⟩
theorem au5:IoSpec Tryz.prog yN 154 abC:=mkI EW [] trivial func154 abh H.alm
def abD:IOC:=⟨⟨[(0,.own 200001),(1,.val M2)],[(200001,.a8 iS)]⟩,⟨[(0,.sub 200001)],[(200001,.a8 iS)]⟩,[none],2,H.HE⟩
theorem au6:IoSpec Tryz.prog yN 155 abD:=mkI EW [] trivial func155 (S L (S L (S e0 (J [(0,.own 200001),(5,v2)] [(200001,wy)] (S L (B (W [(0,.own 200001),(1,Qy),(5,v2),(6,v2)] [(200001,wy)] (S e1 (J [(0,.own 200001),(1,Qy),(5,v2),(6,v2)] [(200001,wy)] (B l0) L))))) e2)))) H.alo
def au7:=mk EW func192 H.fcClone e9 H.akN
def au8:=mk au7 func291 H.NZ (S L (J [(0,v228),(2,v2)] [] e0 (J [(0,v228),(2,v2)] [] e0 (J [(0,v228),(2,v2)] [] e0 D)))) H.akS
def Bv:=mk au8 func215 H.N0 (S L (S (C D L) D)) (H.akT (λ_=>M.fail))
def abE:IOC:=⟨⟨[(0,.own 200001),(1,.val t2),(2,.val t2),(3,.val Dx)],[(200001,.a8 qj)]⟩,⟨[],[(200001,.a8 qj)]⟩,[],4,H.Hx⟩
theorem au9:IoSpec Tryz.prog yN 375 abE:=mkI Bv [] trivial func375 (S L (B (W [(0,.own 200001),(1,v2),(2,v2),(3,Jv),(8,v2)] [(200001,gA)] (S e1 (J [(0,.own 200001),(1,v2),(2,v2),(3,Jv),(8,v2)] [(200001,gA)] (B (S L (B (W [(0,.own 200001),(1,v2),(2,v2),(3,Jv),(8,v2),(9,v2)] [(200001,gA)] EU)))) L))))) H.ak2
def abF:IOC:=⟨⟨[(0,.own 200001),(1,.val t2),(2,.val t2),(3,.val t2),(4,.val Dx)],[(200001,.a8 qj)]⟩,⟨[],[(200001,.a8 qj)]⟩,[],5,H.Hz⟩
theorem au_:IoSpec Tryz.prog yN 338 abF:=mkI Bv [(375,.io abE)] ⟨au9,trivial⟩ func338 (S L (S L (B (W [(0,.own 200001),(1,v2),(2,v2),(3,v2),(4,Jv),(10,v4),(11,v4)] [(200001,gA)] (B (S L (S e0 L))))))) H.ak3
def abG:IOC:=⟨⟨[(0,.own 200001),(1,.val Dx)],[(200001,.a8 qj)]⟩,⟨[],[(200001,.a8 qj)]⟩,[],2,H.Ar⟩
theorem au':IoSpec Tryz.prog yN 278 abG:=mkI Bv [(338,.io abF)] ⟨au_,trivial⟩ func278 D H.ak5
def abH:IOC:=⟨⟨[(0,.loc 100000 0),(1,.val t27)],[(100000,.cells ri [.val qh,.val t34,.val t27,.val qh,.val t2,.val t2,.val t2,.val t2,.val t2,.val t2,.val t2,.val t34,.own 100002]),(100002,.a8 pk)]⟩,⟨[(0,.val pk),(1,.val t4)],[(100000,.cells ri [.val qh,.val t34,.val t27,.val qh,.val t2,.val t2,.val t2,.val t2,.val t2,.val t2,.val t2,.val t34,.own 100002]),(100002,.a8 pk)]⟩,[none,none],2,H.uf⟩
theorem ava:IoSpec Tryz.prog yN 212 abH:=mkI Bv [(278,.io abG)] ⟨au',trivial⟩ func212 (S L (J [(0,.loc 100000 0),(1,d_),(6,.loc 17 0)] [(17,.cells Dw [d_,.own 30000,.own 30001,.own 30002,.own 30003,.own 30004,.own 30005,.own 30006,.own 30007,.own 30008,.own 30009]),(100000,.cells ri [nl,v34,d_,nl,v2,v2,v2,v2,v2,v2,v2,v34,.own 100002]),(100002,ER),(30000,gA),(30001,gA),(30002,gA),(30003,gA),(30004,gA),(30005,gA),(30006,gA),(30007,gA),(30008,gA),(30009,gA)] L (J [(6,.loc 17 0)] js (S L (B (W [(1,d_),(6,.loc 17 0),(21,v34),(22,v2),(23,v2)] js (S L (S e10 (J [(1,d_),(6,.loc 17 0),(21,v34),(22,v2),(23,v2)] js (B (S L (.split 8 4 10 L))) L)))))) (J [(6,.loc 17 0)] js (S L (B (.nI (.num 57 0 (S L (S e10 (J na js (B (S L (S L (S L (B (W [(6,.loc 17 0),(10,.own 30000),(56,.hn [30000,30001,30002,30003,30004,30005,30006,30007,30008,30009]),(57,v2),(62,.own 30000),(63,v2),(64,v2)] js (S L (S e10 (S (B (S L (S L (J [(6,.loc 17 0),(10,.own 30000),(11,v2),(12,.loc 12 0),(13,v2),(56,.hn [30000,30001,30002,30003,30004,30005,30006,30007,30008,30009]),(57,v2),(62,.own 30000),(63,v2),(64,v2)] sX e1 e0)))) L))))))))) L)))) (.nI (.num 57 1 (S L (S e10 (J na js (B (S L (S L (S L (B (W [(6,.loc 17 0),(10,.own 30001),(56,.hn [30000,30001,30002,30003,30004,30005,30006,30007,30008,30009]),(57,v2),(62,.own 30001),(63,v2),(64,v2)] js (S L (S e10 (S (B (S L (S L (J [(6,.loc 17 0),(10,.own 30001),(11,v2),(12,.loc 12 0),(13,v2),(56,.hn [30000,30001,30002,30003,30004,30005,30006,30007,30008,30009]),(57,v2),(62,.own 30001),(63,v2),(64,v2)] sX e1 e0)))) L))))))))) L)))) (.nI (.num 57 2 (S L (S e10 (J na js (B (S L (S L (S L (B (W [(6,.loc 17 0),(10,.own 30002),(56,.hn [30000,30001,30002,30003,30004,30005,30006,30007,30008,30009]),(57,v2),(62,.own 30002),(63,v2),(64,v2)] js (S L (S e10 (S (B (S L (S L (J [(6,.loc 17 0),(10,.own 30002),(11,v2),(12,.loc 12 0),(13,v2),(56,.hn [30000,30001,30002,30003,30004,30005,30006,30007,30008,30009]),(57,v2),(62,.own 30002),(63,v2),(64,v2)] sX e1 e0)))) L))))))))) L)))) (.nI (.num 57 3 (S L (S e10 (J na js (B (S L (S L (S L (B (W [(6,.loc 17 0),(10,.own 30003),(56,.hn [30000,30001,30002,30003,30004,30005,30006,30007,30008,30009]),(57,v2),(62,.own 30003),(63,v2),(64,v2)] js (S L (S e10 (S (B (S L (S L (J [(6,.loc 17 0),(10,.own 30003),(11,v2),(12,.loc 12 0),(13,v2),(56,.hn [30000,30001,30002,30003,30004,30005,30006,30007,30008,30009]),(57,v2),(62,.own 30003),(63,v2),(64,v2)] sX e1 e0)))) L))))))))) L)))) (.nI (.num 57 4 (S L (S e10 (J na js (B (S L (S L (S L (B (W [(6,.loc 17 0),(10,.own 30004),(56,.hn [30000,30001,30002,30003,30004,30005,30006,30007,30008,30009]),(57,v2),(62,.own 30004),(63,v2),(64,v2)] js (S L (S e10 (S (B (S L (S L (J [(6,.loc 17 0),(10,.own 30004),(11,v2),(12,.loc 12 0),(13,v2),(56,.hn [30000,30001,30002,30003,30004,30005,30006,30007,30008,30009]),(57,v2),(62,.own 30004),(63,v2),(64,v2)] sX e1 e0)))) L))))))))) L)))) (.nI (.num 57 5 (S L (S e10 (J na js (B (S L (S L (S L (B (W [(6,.loc 17 0),(10,.own 30005),(56,.hn [30000,30001,30002,30003,30004,30005,30006,30007,30008,30009]),(57,v2),(62,.own 30005),(63,v2),(64,v2)] js (S L (S e10 (S (B (S L (S L (J [(6,.loc 17 0),(10,.own 30005),(11,v2),(12,.loc 12 0),(13,v2),(56,.hn [30000,30001,30002,30003,30004,30005,30006,30007,30008,30009]),(57,v2),(62,.own 30005),(63,v2),(64,v2)] sX e1 e0)))) L))))))))) L)))) (.nI (.num 57 6 (S L (S e10 (J na js (B (S L (S L (S L (B (W [(6,.loc 17 0),(10,.own 30006),(56,.hn [30000,30001,30002,30003,30004,30005,30006,30007,30008,30009]),(57,v2),(62,.own 30006),(63,v2),(64,v2)] js (S L (S e10 (S (B (S L (S L (J [(6,.loc 17 0),(10,.own 30006),(11,v2),(12,.loc 12 0),(13,v2),(56,.hn [30000,30001,30002,30003,30004,30005,30006,30007,30008,30009]),(57,v2),(62,.own 30006),(63,v2),(64,v2)] sX e1 e0)))) L))))))))) L)))) (.nI (.num 57 7 (S L (S e10 (J na js (B (S L (S L (S L (B (W [(6,.loc 17 0),(10,.own 30007),(56,.hn [30000,30001,30002,30003,30004,30005,30006,30007,30008,30009]),(57,v2),(62,.own 30007),(63,v2),(64,v2)] js (S L (S e10 (S (B (S L (S L (J [(6,.loc 17 0),(10,.own 30007),(11,v2),(12,.loc 12 0),(13,v2),(56,.hn [30000,30001,30002,30003,30004,30005,30006,30007,30008,30009]),(57,v2),(62,.own 30007),(63,v2),(64,v2)] sX e1 e0)))) L))))))))) L)))) (.nI (.num 57 8 (S L (S e10 (J na js (B (S L (S L (S L (B (W [(6,.loc 17 0),(10,.own 30008),(56,.hn [30000,30001,30002,30003,30004,30005,30006,30007,30008,30009]),(57,v2),(62,.own 30008),(63,v2),(64,v2)] js (S L (S e10 (S (B (S L (S L (J [(6,.loc 17 0),(10,.own 30008),(11,v2),(12,.loc 12 0),(13,v2),(56,.hn [30000,30001,30002,30003,30004,30005,30006,30007,30008,30009]),(57,v2),(62,.own 30008),(63,v2),(64,v2)] sX e1 e0)))) L))))))))) L)))) (.nI (.num 57 9 (S L (S e10 (J na js (B (S L (S L (S L (B (W [(6,.loc 17 0),(10,.own 30009),(56,.hn [30000,30001,30002,30003,30004,30005,30006,30007,30008,30009]),(57,v2),(62,.own 30009),(63,v2),(64,v2)] js (S L (S e10 (S (B (S L (S L (J [(6,.loc 17 0),(10,.own 30009),(11,v2),(12,.loc 12 0),(13,v2),(56,.hn [30000,30001,30002,30003,30004,30005,30006,30007,30008,30009]),(57,v2),(62,.own 30009),(63,v2),(64,v2)] sX e1 e0)))) L))))))))) L)))) (.nI (.num 57 10 (S L (S e10 L))) L))))))))))))) D)))) H.Oi
def QP(f:Nat):IOC:=⟨⟨[(0,.loc 100000 0),(1,.val t27)],[(100000,.cells ri [.val qh,.val t34,.val t27,.val qh,.val t2,.val t2,.val t2,.val t2,.val t2,.val t2,.val t2,.val t34,.own 100002]),(100002,.a8 pk)]⟩,⟨[],[(100000,.cells ri [.val qh,.val t34,.val t27,.val qh,.val t2,.val t2,.val t2,.val t2,.val t2,.val t2,.val t2,.val t34,.own 100002]),(100002,.a8 pk)]⟩,[],2,H.x3 f⟩
theorem abI:∀f,IoSpec Tryz.prog yN 158 (QP f)
 |0=>M5 func158 H.alY
 |f+1=>mkI Bv [(158,.io (QP f)),(212,.io abH)] ⟨abI f,ava,trivial⟩ func158 (S L (S (S L (C (J [] abf (S L e1) L) L)) (S L (B (W [(0,.loc 100000 0),(1,d_),(4,v2),(7,v2)] abf EU))))) (H.al1 f)
def avb:=pt Bv (EW.u [(156,1)] [] trivial) [(154,.io abC),(155,.io abD),(158,.io (QP 5))] ⟨au5,au6,abI 5,trivial⟩ func74 H.vI (S L (S l0 (S L (S L (S L (J [(7,.loc 15 0)] [(15,.cells ri [nl,v34,d_,nl,v2,v2,v2,v2,v2,v2,v2,.sub 50200,.own 30000]),(50200,wy),(30000,ER)] e0 e9)))))) H.al5
def avc:=mk avb func77 H.AG (S L (J [(4,.loc 4 0),(5,v4)] [(4,Qt)] (S L (B (W aa_ [(4,Qt)] (S L (S e10 (J aa_ [(4,Qt)] (B (S L (S L (B (S L (C L e1)))))) L)))))) D)) H.al6
def avd:=jI avc [] func152 H.AL 1 e2 H.amo
def ave:=jI avd [(152,1)] func150 H.Ox 1 e2 H.amp (hc:=λx h=>by obtain⟨_,f,au,_⟩:=h;exact sj ⟨trivial,rj au⟩)
def q89:=mk ave func89 H.vF (S L (S L (J [(7,v2)] [] (S L (B (W [(1,v2),(2,v2),(7,v2),(14,nl),(15,v2),(16,v2)] [] eP))) D))) H.aly
def abJ:IOC:=⟨⟨[(0,.gN),(1,.dD pk),(2,.dD vn),(1000000,.tr (.ay iS t2))],[]⟩,⟨[(1000000,.tr (.ay iS t2))],[]⟩,[],3,(H.Hp H.vF.sh)⟩
theorem avf:IoSpec Tryz.prog noU 159 abJ:=mkI (S:=(H.Hp H.vF.sh)) q89 [] trivial func159 (S L (B (W aa3 [] (S L (S e10 (J aa3 [] (B (S L (S L (B (W [(0,.gN),(2,.dD vn),(5,aaP),(6,v2),(10,aaQ),(11,v2),(1000000,.tr (.ay iS t2))] [] (S e1 (S (B e1) L))))))) L)))))) (λx=>M.le_refl _)
theorem avg:wH Tryz.prog 159 ⟨[pk,vn],(.ay iS t2),H.sG⟩:=MQ (c:=abJ) avf mi (λx l L=>(l,x.1.getD none,x.2.getD none,(l,L,[],false),())) rfl (by decide) (by simp[fP])
 (λx l L i hx=>by
  obtain⟨T,hT⟩:=hx;obtain⟨t,b,h1,h2,hp,_⟩:=hT;obtain⟨wT,wS⟩:=x;change wT=some (some t) at h1;change wS=some (some b) at h2;subst h1;subst h2;by_cases h0:i=0
  ·subst h0;exact .inr (.inr (.inl ⟨rfl,rfl⟩))
  ·by_cases h1:i=1
   ·subst h1;exact .inr (.inl ⟨by decide,by decide,_,_,rfl,rfl⟩)
   by_cases h3:i=2
   ·subst h3;exact .inr (.inl ⟨by decide,by decide,_,_,rfl,rfl⟩)
   by_cases h2:i=TRS
   ·subst h2;exact .inr (.inr (.inr ⟨rfl,rfl⟩))
   ·refine .inl ?_;exact (if_neg h0).trans ((if_neg h1).trans ((if_neg h3).trans (if_neg h2))))
 rfl (λτ=>⟨_,_,_,_,rfl⟩) (λx l hx=>by
  obtain⟨T,hT⟩:=hx;obtain⟨t,b,h1,h2,hp,_⟩:=hT;obtain⟨wT,wS⟩:=x;change wT=some (some t) at h1;change wS=some (some b) at h2;subst h1;subst h2;have h:=H.al' l t b hp;refine⟨h.1,λτ hτ l' L' p hsl=>?_⟩;have e:aF.tr τ.1.1 (.ay iS t2) τ.1.2.1 τ.1.2.2.1 τ.1.2.2.2=.tr l' (.ay iS t2) L' p false:=hsl;injection e with e1 e2 e3 e4 eP
  rw[<-e4];exact h.2 τ hτ eP)
def avh:=pt q89 (q89.u [] [(159,⟨[pk,vn],(.ay iS t2),H.sG⟩)] ⟨avg,trivial⟩) [] trivial func79 H.AH e2 H.amd
def avi:=jI avh [] func153 H.Oy 1 (S L (S (S L (B (bW [(2,.dD t2),(3,.dD MX),(5,.loc 5 0),(6,.loc 6 0)] [(5,.cells t2 [v2]),(6,.cells t4 [v4])] [(2,.dD t2),(3,.dD MX),(5,.loc 100005 0),(6,.loc 100006 0),(12,aaM),(13,v2)] [(100005,.cells t2 [v2]),(100006,.cells t4 [v4])] [] [(100005,.cells t2 [v2]),(100006,.cells t4 [v4])] D (B e0)))) D)) H.amq (hc:=λx h=>by obtain⟨_,_,_,_,rfl,_⟩:=h;exact sj ⟨⟨⟨trivial,rfl⟩,rfl⟩,rfl⟩)
def avj:=lQ avi [(150,1),(153,1)] func70 H.AM (S L (S L (S e0 e9))) H.amr
def avk:=mk avj func71 H.x5 e2 H.ams
def avl:=lQ avk [] func34 H.HL e2 H.amt
def avm:=mk avl func199 W.yw (S L (S e0 (S L (J [(3,.own 3)] [(3,a9)] (S L (B (W [(3,.own 3),(9,d_),(10,v2),(11,v2)] [(3,a9)] eP))) D)))) W.aqC
def avn:=mk avm func198 W.qB abk W.aqD
def abK:=mk avn func197 W.yx e2 W.aqE
def avo:IOC:=iA0 (W.shD 1 W.PM)
theorem avp:IoSpec Tryz.prog noU 122 avo:=mkI abK [] trivial func122 e2 W.aqI
def avq:=mk abK func73 H.vG e9 H.alA
def avr:=jI avq [] func72 H.x6 1 e2 H.amu
def abL:=lQ avr [(72,1)] func35 H.HN e2 H.amw
def avt:IOC:=iA0 (W.shD 1 W.PN)
theorem avu:IoSpec Tryz.prog noU 123 avt:=mkI abL [] trivial func123 e2 W.aqJ
def avv:=jI abL [] func75 H.Oz 1 e2 H.amx
def avw:=jI avv [] func78 H.OA 1 (S L (S L (S (S L (B (bW [(2,.dD t2),(3,.dD sZ),(7,.loc 7 0)] [(7,.cells t2 [v2])] [(2,.dD t2),(3,.dD sZ),(7,.loc 100007 0),(13,aaM),(14,v2)] [(100007,.cells t2 [v2])] [] [(100007,.cells t2 [v2])] D (B e1)))) D))) H.amy (hc:=λx h=>by obtain⟨_,_,_,_,rfl,_⟩:=h;exact sj ⟨⟨⟨trivial,rfl⟩,rfl⟩,rfl⟩)
def abM:=lQ avw [(75,1),(78,1)] func36 H.HP Bu H.amB
def avx:IOC:=iA0 (W.shD 1 W.PO)
theorem avy:IoSpec Tryz.prog noU 124 avx:=mkI abM [] trivial func124 e2 W.aqK
def avz:=mk abM func81 H.xX e2 H.akC
def avA:=jI avz [] func80 H.AN 1 e2 H.XT
def avB:=mk avA func83 H.x7 (S L (S L (S L (J [(6,.loc 6 0),(8,.loc 8 0),(9,v4)] [(6,yI),(8,yI)] (S L (B (W aa4 [(6,yI),(8,yI)] (S L (S e10 (J aa4 [(6,yI),(8,yI)] yM L)))))) D)))) H.amD
def avC:=jI avB [] func82 H.OF 1 (S L (S L (J [(6,v2)] [] (S L (B (W [(0,aaO),(1,.dD t2),(2,.dD sZ),(6,v2),(10,v2)] [] (S L (S e10 (J [(0,aaO),(1,.dD t2),(2,.dD sZ),(6,v2),(10,v2)] [] yL L)))))) D))) H.amG (hc:=λx h=>by obtain⟨_,_,_,rfl,_⟩:=h;exact sj ⟨⟨trivial,rfl⟩,rfl⟩)
def abN:=lQ avC [(80,1),(82,1)] func37 H.HR Bu H.amI
def avD:IOC:=iA0 (W.shD 1 W.PQ)
theorem avE:IoSpec Tryz.prog noU 125 avD:=mkI abN [] trivial func125 e2 W.aqL
def QQ:=jI abN [] func84 H.OI 1 e2 H.amM (hc:=λx h=>by obtain⟨a,b,au⟩:=h;exact sj ⟨⟨trivial,rj (congrArg (λo=>o.1) au)⟩,rj (congrArg (λo=>o.2) au)⟩)
def abO:IOC:=⟨⟨[(0,.gN),(1,.dD G8),(1000000,.tr t2)],[]⟩,⟨[(1000000,.tr t2)],[]⟩,[],2,H.NU⟩
theorem avF:IoSpec Tryz.prog noU 162 abO:=mkI (S:=H.NU) QQ [] trivial func162 (S L (B (W [(0,.gN),(5,.jW 5),(1000000,.tr t2)] [(5,.b9 t2 t2)] (S L (S e10 yM))))) (λx=>M.le_refl _)
theorem avG:wH Tryz.prog 162 ⟨[G8],t2,H.jK⟩:=MQ (c:=abO) avF mi (λx l L=>(l,x.getD [],(l,L,[],false),())) rfl (by decide) (by simp[fP])
 (λx l L i hx=>by
  obtain⟨T,hT⟩:=hx;obtain⟨m,ao,_⟩:=hT;subst ao;by_cases h0:i=0
  ·subst h0;exact .inr (.inr (.inl ⟨rfl,rfl⟩))
  ·by_cases h1:i=1
   ·subst h1;exact .inr (.inl ⟨by decide,by decide,_,_,rfl,rfl⟩)
   by_cases h2:i=TRS
   ·subst h2;exact .inr (.inr (.inr ⟨rfl,rfl⟩))
   ·refine .inl ?_;exact (if_neg h0).trans ((if_neg h1).trans (if_neg h2)))
 rfl (λτ=>⟨_,_,_,_,rfl⟩) (λx l hx=>by
  obtain⟨T,hT⟩:=hx;obtain⟨m,ao,_⟩:=hT;subst ao;have h:=H.al7 l m;refine⟨h.1,λτ hτ l' L' p hsl=>?_⟩;have e:aF.tr τ.1.1 t2 τ.1.2.1 τ.1.2.2.1 τ.1.2.2.2=.tr l' t2 L' p false:=hsl;injection e with e1 e2 e3 e4 eP
  rw[<-e4];exact h.2 τ hτ eP)
def avH:=pt QQ (QQ.u [] [(162,⟨[G8],t2,H.jK⟩)] ⟨avG,trivial⟩) [] trivial func87 H.HA e2 H.ak_
def abP:=lQ avH [(84,1)] func38 H.HS (S L (S L (S e0 (S L (J [(10,.fs 24)] [(24,.mp t2 t2)] (S L (B (W aa5 [(4,.gm t2),(5,.gm t2),(24,.mp t2 t2)] (S L (S e10 (J aa5 [(4,.gm t2),(5,.gm t2),(24,.mp t2 t2)] yL L)))))) D))))) H.amN
def avI:IOC:=iA0 (W.shD 2 W.PS)
theorem avJ:IoSpec Tryz.prog noU 126 avI:=mkI abP [] trivial func126 (S L (S L (S e0 (S e0 D)))) W.aqO
def avK:=jI abP [] func88 H.AN 1 e2 H.amF
def abQ:=lQ avK [(88,1)] func39 H.HT (S L (S L (S e0 (J [(4,.own 4),(5,.own 5)] [(4,a2),(5,a2)] (S L (B (W aa6 Bt (S L (S e10 (J aa6 Bt (B (S L (S L (J aa1 Bt (S L (B (W aaX Bt (S L (S e10 (J aaX Bt yL L)))))) (J aa1 Bt e1 e1))))) L)))))) D)))) H.amS
def avL:IOC:=iA0 (W.shD 1 W.PU)
theorem avM:IoSpec Tryz.prog noU 127 avL:=mkI abQ [] trivial func127 (S L e9) W.aqQ
def avN:=mk abQ func143 fcFitsAt e20 an7
def avO:=jI avN [] func142 ya 1 e2 an8 (hc:=λx h=>by obtain⟨i,w,n,au,_⟩:=h;exact sj ⟨⟨⟨trivial,rj (congrArg (λo=>o.1) au)⟩,rj (congrArg (λo=>o.2.1) au)⟩,rj (congrArg (λo=>o.2.2) au)⟩)
def avP:=lQ avO [(142,1)] func63 A1 (S L (S l0 (S e0 (S L (J [(7,.loc 22 0)] [(22,.cells xL [v22,rF,v2,v24,.own 61]),(61,EO)] (S L (B (W [(2,.loc 2 0),(7,.loc 22 0),(24,v22),(25,v2),(26,v2)] abg (S L (S e10 (J [(2,.loc 2 0),(7,.loc 22 0),(24,v22),(25,v2),(26,v2)] abg (B (S L (S L (J [(2,.loc 2 0),(7,.loc 22 0),(10,.own 10),(24,v22),(25,v2),(26,v2)] [(2,.gm tU),(10,a2),(22,.cells xL [v22,rF,v2,v24,.own 61]),(61,EO)] (S L (B (W aaW [(2,.gm tU),(8,.gm t2),(9,aaS),(10,a2),(11,.cells t2 [v2]),(22,.cells xL [v22,rF,v2,v24,.own 61]),(61,EO)] (S e1 (J aaW [(2,.gm tU),(8,.gm t2),(9,aaS),(10,a2),(11,.gm t2),(22,.cells xL [v22,rF,v2,v24,.own 61]),(61,EO)] yM (S D L)))))) (S e0 L))))) L)))))) D))))) aob
def DK:=mk avP func24 x_ Bu aoj
def Bw:IOC:=⟨⟨[(0,.val t32)],[]⟩,⟨[(0,.val t22),(1,.val Du),(2,.val t2),(3,.own 28),(4,.own 11),(5,.own 16),(6,.own 20),(7,.own 24),(8,.val t2)],[(28,.a8 Ac),(11,.a8 t2),(16,.a8 xK),(20,.a8 vm),(24,.a8 rh)]⟩,[some 9],1,W.wq⟩
theorem EX:IoSpec Tryz.prog noU 118 Bw:=mkI DK [(188,QF),(189,QG),(190,QH),(191,.io QI),(192,QJ),(193,QK),(194,Jz),(195,QM)] ⟨abq,abr,abt,abu,abx,aby,QL,abz,trivial⟩ func118 jV W.sClo
def avQ:IOC:=iA0 (W.shD 4 W.yr)
theorem avR:IoSpec Tryz.prog noU 128 avQ:=mkI DK [(118,.io Bw)] ⟨EX,trivial⟩ func128 (S L (S L (S L (S L (S e0 (S l0 e2)))))) W.aq4
def avS:=mk DK func146 H6 abk aoc
def avT:=mk avS func66 Ic (S L (S L (J [(0,aaL),(1,v2),(9,v2)] [] (S L (B (W aa7 [] (S L (S e10 (J aa7 [] yM L)))))) D))) aoh
def rl:=mk avT func23 AY (S L e9) aol
def avU:IOC:=iA0 (W.shD 3 W.PV)
theorem avV:IoSpec Tryz.prog noU 129 avU:=mkI rl [] trivial func129 (S L e9) W.aqS
def EY:IOC:=⟨⟨[(0,.loc 100000 0),(1,.val t32)],[(100000,.fL qi)]⟩,⟨[(0,.val t9)],[(100000,.fL qi)]⟩,[none],2,W.wu⟩
theorem JB:IoSpec Tryz.prog noU 200 EY:=mkI rl [] trivial func200 (S L (S e0 e2)) W.aq2
def avW:IOC:=iA0 (W.shD 2 W.yt)
theorem avX:IoSpec Tryz.prog noU 130 avW:=mkI rl [(118,.io Bw),(200,.io EY)] ⟨EX,JB,trivial⟩ func130 Bu W.aq5
def avY:IOC:=iA0 (W.shD 3 W.PW)
theorem avZ:IoSpec Tryz.prog noU 131 avY:=mkI rl [(118,.io Bw),(200,.io EY)] ⟨EX,JB,trivial⟩ func131 uI W.aq6
def av0:IOC:=iA0 (W.shD 4 W.PX)
theorem av1:IoSpec Tryz.prog noU 132 av0:=mkI rl [(118,.io Bw),(200,.io EY)] ⟨EX,JB,trivial⟩ func132 uI W.aq7
def av2:IOC:=iA0 (W.shD 5 W.PY)
theorem av3:IoSpec Tryz.prog noU 133 av2:=mkI rl [(118,.io Bw),(200,.io EY)] ⟨EX,JB,trivial⟩ func133 uI W.aq8
def abR:IOC:=⟨⟨[(0,.own 200001),(1,.val t3),(2,.val t3)],[(200001,.a8 vm)]⟩,⟨[(0,.sub 200001)],[(200001,.a8 vm)]⟩,[none],3,(W.I2 W.I6)⟩
theorem av4:IoSpec Tryz.prog noU 201 abR:=mkI rl [] trivial func201 (S L (S L (S e0 uI))) (W.aqZ W.I6)
def av5:IOC:=iA0 (W.shD 1 W.yu)
theorem av6:IoSpec Tryz.prog noU 134 av5:=mkI rl [(194,Jz),(201,.io abR)] ⟨QL,av4,trivial⟩ func134 (S L (S e0 (S .F9 D))) W.aq9
def av7:=mk rl func217 sK (S L (S L (S L (S L (S L (S L (S L (S L uI)))))))) aoO
def av8:=mk av7 func165 sK (S L (S (C e2 L) e2)) (aoQ (λ_=>M.fail))
def av9:=mk av8 func163 Ip (S L (J [(0,nl),(1,v2)] [] e1 (S L (J [(0,nl),(6,v228)] [] e1 (S L (S L (J [(7,.own 30)] [(30,Ju)] (B (W [(7,.own 30),(8,v2)] [(30,Ju)] (S e1 (B L)))) D))))))) aoY
def av_:=mk av9 func90 A6 (S L (S l0 (S e0 (S L (J [(2,.loc 2 0),(7,.loc 30 0)] wz (S L (C l0 L)) (J [(2,.loc 2 0),(7,.loc 30 0)] wz (S L (B (W [(2,.loc 2 0),(7,.loc 30 0),(46,v2),(47,v2)] wz (S L (S e10 (J [(2,.loc 2 0),(7,.loc 30 0),(46,v2),(47,v2)] wz (B (S L (S L (B (W aa2 wz (S L (S e10 (J aa2 wz (B (S L (S L (B (W aaY wz (S L (S e10 (J aaY wz yL L)))))))) L)))))))) L)))))) (J [(2,.loc 2 0),(7,.loc 30 0)] abd (S L (B (W [(2,.loc 2 0),(7,.loc 30 0),(92,d_),(93,v2),(94,v2)] abd eP))) (J [(7,.loc 30 0)] abe (S L (B (W [(7,.loc 30 0),(114,pP),(115,v2),(116,v2)] abe eP))) D)))))))) apa
def abS:=mk av_ func91 O_ e2 ao1
def abT:IOC:=⟨⟨[(0,.val t27),(1,.val t3)],[]⟩,⟨[(0,.own 30)],[(30,.a8 t3)]⟩,[none],2,vW⟩
theorem awa:IoSpec Tryz.prog noU 92 abT:=mkI abS [] trivial func92 ko Y'
def q168:=mk abS func168 vY (S L (S (B (S L (C D (S L (C D e0))))) D)) ao3
def abU:=mk q168 func96 Iw (S L (S L (J [(6,.own 6)] [(6,Bp)] (S L (B (W [(0,kC),(6,.own 6),(14,d_),(15,v2),(16,v2)] [(6,Bp)] (S L (S e10 (J [(0,kC),(6,.own 6),(14,d_),(15,v2),(16,v2)] [(6,Bp)] (B (S L (S e1 (S L (S L (J [(0,kC),(6,.own 6),(10,.loc 10 0),(11,v2),(14,d_),(15,v2),(16,v2)] [(6,Bp),(10,aaK)] (S L (B (S L (C D e1)))) (S e0 (S L (B (W [(0,kC),(6,.own 6),(10,.loc 10 0),(11,v2),(14,d_),(15,v2),(16,v2),(58,d_),(59,v2),(60,v2)] [(6,Bp),(10,aaK)] eP)))))))))) L)))))) D))) apl
def abV:IOC:=⟨⟨[(0,.val t27),(1,.val t2)],[]⟩,⟨[(0,.own 30)],[(30,.a8 t2)]⟩,[none],2,vW⟩
theorem awb:IoSpec Tryz.prog noU 92 abV:=mkI abU [] trivial func92 ko Y'
def abW:=mk abU func169 fcGood e2 apx
def QR(f:Nat):IOC:=⟨⟨[(0,.val oy),(1,.own 200001),(2,.val Ad),(3,.val t2),(4,.fs 100002)],[(100002,.mp t2 t2),(200001,.a8 t2)]⟩,⟨[(0,.val t4)],[(100002,.mp t2 t2),(200001,.a8 t2)]⟩,[none],5,uA f⟩
theorem abX:∀f,IoSpec Tryz.prog noU 170 (QR f)
 |0=>M5 func170 apG
 |f+1=>mkI abW [(170,.io (QR f))] ⟨abX f,trivial⟩ func170 (S L (J [] QB (S L (B (W aa0 QB (S L (S e10 (J aa0 QB (B (S L (S e1 (S L (S L (C e2 L)))))) L)))))) D)) (apF f)
def awc:=pt abW mi [(92,.io abV),(170,.io (QR 201))] ⟨awb,abX 201,trivial⟩ func98 IA (S L (S L (S L (J [(6,v2)] [] (S L (B (W aa' [(50140,a2)] (S L (S e10 (J aa' [(50140,a2)] yM L)))))) D)))) apI
def awd:=mk awc func93 wb e20 apJ
def abY:=pt awd mi [(92,.io abT)] ⟨awa,trivial⟩ func40 II (S L (S L (S e0 (S L (S L (J [(8,.own 8)] [(8,a2)] (S L (B (W aa8 [(8,a2),(50260,a2)] (S L (S e10 (J aa8 [(8,a2),(50260,a2)] yL L)))))) D)))))) ap5
def awe:IOC:=iA0 (W.shD 1 W.PZ)
theorem awf:IoSpec Tryz.prog noU 135 awe:=mkI abY [] trivial func135 e20 W.aqU
def awg:=mk abY func181 O' e2 ao2
def awh:=mk awg func108 Iq (S L (J [(1,d_),(2,.loc 2 0)] [(2,yH)] (S L (B (W [(1,d_),(2,.loc 2 0),(7,d_),(8,v2),(9,v2)] [(2,yH)] e3))) D)) ao4
def awi:=mk awh func109 sN (S L (J [(4,v2)] [] (S L (B (W [(0,kC),(4,v2),(7,d_),(8,v2),(9,v2)] [] (S L (S e10 (J [(0,kC),(4,v2),(7,d_),(8,v2),(9,v2)] [] yM L)))))) D)) apn
def abZ:=mk awi func49 IJ (S L (S L (S e0 (S e0 D)))) ap7
def awj:IOC:=iA0 (W.shD 0 W.P0)
theorem awk:IoSpec Tryz.prog noU 136 awj:=mkI abZ [(192,.io abv)] ⟨abw,trivial⟩ func136 (S L (S L (J [(0,.loc 100000 0),(5,.own 50100)] [(50100,a2),(100000,EP)] (S L (B (W [(0,.loc 100000 0),(5,.own 50100),(12,v2),(13,v2)] [(50100,a2),(100000,EP)] eP))) e2))) W.aqV
def QS:=mk abZ func92 Il ko aoX
def JC(f:Nat):IOC:=⟨⟨[(0,.val oy),(1,.val t27),(2,.val t2),(3,.gN),(1000000,.tr t27)],[]⟩,⟨[(0,.val t4),(1000000,.tr t27)],[]⟩,[none],4,rB f⟩
theorem QT:∀f,IoSpec Tryz.prog noU 167 (JC f)
 |0=>M5 func167 apT
 |f+1=>mkI QS [(167,.io (JC f))] ⟨QT f,trivial⟩ func167 (S L (S L (S e0 (J [(0,kC),(1,d_),(2,v2),(3,.gN),(9,v2),(1000000,.tr t27)] [] (S L (B (W aaZ [] (S L (S e10 (J aaZ [] (B (S L (S e1 e0))) L)))))) D)))) (apS f)
def ab0:IOC:=⟨⟨[(0,.val oy),(1,.gN),(1000000,.tr t27)],[]⟩,⟨[(1000000,.tr t27)],[]⟩,[],2,(Hl (rB 10))⟩
theorem awl:IoSpec Tryz.prog noU 218 ab0:=mkI (S:=(Hl (rB 10))) QS [(167,.io (JC 10))] ⟨QT 10,trivial⟩ func218 L (λx=>M.le_refl _)
def JD:ITC:=⟨oy,t27,ym,IC⟩
theorem awm:CV Tryz.prog 218 JD:=Uu (c:=ab0) awl mi (ic:=JD) (λx l L=>(x,l,(l,L,[],false),())) rfl (by decide) (by simp[JD])
 (λx l L i=>by
  by_cases h0:i=0
  ·subst h0;exact .inr (.inl ⟨by decide,rfl⟩)
  ·by_cases h1:i=1
   ·subst h1;exact .inr (.inr (.inl ⟨rfl,rfl⟩))
   ·by_cases h2:i=TRS
    ·subst h2;exact .inr (.inr (.inr ⟨rfl,rfl⟩))
    ·refine .inl ?_;exact (if_neg h0).trans ((if_neg h1).trans (if_neg h2)))
 rfl (λτ=>⟨_,_,_,_,rfl⟩) (λx l hp=>by
  obtain⟨s,hs,hv⟩:=hp;subst hs;have h:=apU s hv l;refine⟨h.1,λτ hτ l' L' n hsl=>?_⟩;have e:aF.tr τ.1.1 t27 τ.1.2.1 τ.1.2.2.1 τ.1.2.2.2=.tr l' t27 L' n false:=hsl;injection e with e1 e2 e3 e4 eP
  exact e4.symm.trans ((h.2 τ hτ).2.2 eP))
def awn:=pt QS mi [(218,.b9 JD)] ⟨awm,trivial⟩ func166 PC (S L (S L (S (S L (B (bW [(1,.loc 1 0),(3,.loc 3 0)] [(1,.cells oy [kC]),(3,.cells t27 [d_])] [(1,.loc 100001 0),(3,.loc 100003 0),(15,d_)] [(100001,.cells oy [kC]),(100003,.cells t27 [d_])] [] [(100001,.cells oy [kC]),(100003,.cells t27 [d_])] L (B e1)))) D))) ap0
def awo:=mk awn func94 PE (S L e9) ap1
def QU:=mk awo func41 IF e2 ap2
def awp:IOC:=iA0 (W.shD 0 W.P1)
theorem awq:IoSpec Tryz.prog noU 137 awp:=mkI QU [] trivial func137 e20 W.aqW
def ab1:IOC:=⟨⟨[(0,.val oy),(1,.gN),(1000000,.tr t27)],[]⟩,⟨[(1000000,.tr t27)],[]⟩,[],2,(Hm (rB 10))⟩
theorem awr:IoSpec Tryz.prog noU 95 ab1:=mkI (S:=(Hm (rB 10))) QU [(167,.io (JC 10))] ⟨QT 10,trivial⟩ func95 L (λx=>M.le_refl _)
def JE:ITC:=⟨oy,t27,ym,Py⟩
theorem aws:CV Tryz.prog 95 JE:=Uu (c:=ab1) awr mi (ic:=JE) (λx l L=>(x,l,(l,L,[],false),())) rfl (by decide) (by simp[JE])
 (λx l L i=>by
  by_cases h0:i=0
  ·subst h0;exact .inr (.inl ⟨by decide,rfl⟩)
  ·by_cases h1:i=1
   ·subst h1;exact .inr (.inr (.inl ⟨rfl,rfl⟩))
   ·by_cases h2:i=TRS
    ·subst h2;exact .inr (.inr (.inr ⟨rfl,rfl⟩))
    ·refine .inl ?_;exact (if_neg h0).trans ((if_neg h1).trans (if_neg h2)))
 rfl (λτ=>⟨_,_,_,_,rfl⟩) (λx l hp=>by
  obtain⟨s,hs,hv⟩:=hp;subst hs;have h:=apV s hv l;refine⟨h.1,λτ hτ l' L' n hsl=>?_⟩;have e:aF.tr τ.1.1 t27 τ.1.2.1 τ.1.2.2.1 τ.1.2.2.2=.tr l' t27 L' n false:=hsl;injection e with e1 e2 e3 e4 eP
  exact e4.symm.trans ((h.2 τ hτ).2.2 eP))
def awt:=mk QU func97 Ps (S L (J [] [] (S L (B (W [(0,kC),(9,pP),(10,v2),(11,v2)] [] (S L (S e10 (J [(0,kC),(9,pP),(10,v2),(11,v2)] [] (B (S L (S L (J [(0,kC),(7,v4),(9,pP),(10,v2),(11,v2)] [] (S L (B (W [(0,kC),(6,.loc 6 0),(7,v4),(9,pP),(10,v2),(11,v2),(20,v2),(21,v2)] [(6,asX)] eP))) e0)))) L)))))) D)) apz
def QV:=pt awt mi [(95,.b9 JE)] ⟨aws,trivial⟩ func42 IH (S L (S L (S e0 (S L (S (S L (B (bW [(4,.loc 4 0),(6,.loc 6 0)] [(4,.cells oy [kC]),(6,.cells t2 [v2])] [(4,.loc 100004 0),(6,.loc 100006 0),(21,d_)] [(100004,.cells oy [kC]),(100006,.cells t2 [v2])] [] [(100004,.cells oy [kC]),(100006,.cells t2 [v2])] L (B (S L (S e1 (S L e1))))))) (S e0 D)))))) ap3
def awu:IOC:=iA0 (W.shD 0 W.P2)
theorem awv:IoSpec Tryz.prog noU 138 awu:=mkI QV [] trivial func138 e20 W.aqX
theorem aww:∀ k∈[119,120,121,122,123,124,125,126,127,128,129,130,131,132,133,134,135,136,137,138],IoSpec Tryz.prog noU k {QO with sh:=W.EF k}:=EN.mem (l:=[119,120,121,122,123,124,125,126,127,128,129,130,131,132,133,134,135,136,137,138]) ⟨auW,auY,au0,avp,avu,avy,avE,avJ,avM,avR,avV,avX,avZ,av1,av3,av6,awf,awk,awq,awv,trivial⟩
def ab2:IOC:=⟨⟨[(0,.loc 100000 0),(1,.val MW),(2,.val t9)],[(100000,.fL qi)]⟩,⟨[(0,.val t9)],[(100000,.fL qi)]⟩,[none],3,W.Ja⟩
theorem awx:IoSpec Tryz.prog noU 59 ab2:=mkI QV [(999999,.FR QO W.EF [119,120,121,122,123,124,125,126,127,128,129,130,131,132,133,134,135,136,137,138])] ⟨aww,trivial⟩ func59 (S L (S L (S L (S l0 (S L (J [(0,.loc 100000 0),(8,.loc 8 0),(11,.own 48)] [(8,aaR),(48,a2),(100000,EP)] (S L (B (W [(0,.loc 100000 0),(8,.loc 8 0),(11,.own 48),(50,hg),(51,v2),(52,v2)] [(8,aaR),(48,a2),(100000,EP)] (S L (S e10 (S (B (S L (S L (S e0 L)))) L)))))) D)))))) W.ard
def NK:=pt QV mi [(57,.io abB),(59,.io ab2)] ⟨auV,awx,trivial⟩ func20 W.uE (S L (S l0 (S e0 (S L (J [(4,.own 4),(5,.loc 5 0),(8,.loc 50230 0)] abc (S L (B (W [(4,.own 4),(5,.loc 5 0),(8,.loc 50230 0),(9,asZ),(25,hg),(26,v2),(27,v2)] abc eP))) D))))) W.arn
def awy:=mk NK func62 W.uF (S L (S e0 (J [] [] (S L (B (W [(0,d_),(1,d_),(5,v2)] [] e4))) D))) W.arJ
def awz:=mk awy func60 W.Jl (S L (S e0 (J Jx ES (S L (B (W [(2,.loc 2 0),(3,.loc 3 0),(5,v2)] ES e4))) (J Jx ES (S L (B (W [(2,.loc 2 0),(3,.loc 3 0),(6,v2)] ES e4))) (J [] [] (S L (B (W QA ES e4))) D))))) W.arK
def awA:=mk awz func61 W.Jm (S L (S e0 (J Jx yJ (S L (B (W [(2,.loc 2 0),(3,.loc 3 0),(5,v2)] yJ e4))) (J Jx yJ (S L (B (W [(2,.loc 2 0),(3,.loc 3 0),(6,v2)] yJ e4))) (J [] [] (S L (B (W QA yJ (S e1 (J QA yJ (B (S L (S e0 (S L (B (W [(2,.loc 2 0),(3,.loc 3 0),(7,v2),(8,Qx),(9,Qx),(10,v2)] yJ e4)))))) L))))) D))))) W.arL
def NL:=mk awA func22 W.EJ (S L (S L (S e0 (J [(5,.loc 5 0),(6,.loc 6 0)] ET (S L (B (W [(5,.loc 5 0),(6,.loc 6 0),(7,v2)] ET yK))) (J [(5,.loc 5 0),(6,.loc 6 0)] ET (S L (B (W [(5,.loc 5 0),(6,.loc 6 0),(10,v2)] ET yK))) (J [] [] (S L (B (W [(5,.loc 5 0),(6,.loc 6 0),(13,v2)] ET e4))) D)))))) W.arM
def awB:=mk NL func28 W.EL e2 W.arQ
def awC:=mk awB func30 W.yD (S L (S e0 (J [] [] (S L (B (W [(0,hg),(1,hg),(5,v2)] [] e4))) D))) W.arI
def awD:=mk awC func183 O6 e2 aot
def awE:=mk awD func115 IL e2 ap'
def awF:=mk awE func54 W.Jc e2 W.arp
def awG:=mk awF func29 W.EM e20 W.arU
def awH:=mk awG func31 W.yC e20 W.arD
def awI:=mk awH func32 W.EH (S L (S L (S (S L (B (J [(5,v4),(14,v4)] [] (S L (C L (S L (C L (S L (C L (S L (C L (S L (C L (S L (C L (S L (C L e1)))))))))))))) (C D L)))) D))) W.arF
theorem ach:hR Tryz.prog 6 (.ay wB (.ay yO yO)) t4 (λx=>OV W.yE.sh W.uE.sh W.EJ.sh W.EL.sh W.EM.sh W.yD.sh W.yC.sh W.EH.sh x):=He awI mi (sp:=[]) trivial func6 (ann:=(S L (S e0 (S L (J [(1,hg),(2,hg),(3,.loc 3 0),(7,.own 7)] [(3,pQ),(7,a9)] (S L (B (W [(1,hg),(2,hg),(3,.loc 3 0),(7,.own 7),(8,v2)] [(3,pQ),(7,a9)] (S e1 (S (B (S l0 L)) L))))) (J [(1,hg),(2,hg),(3,.loc 3 0),(7,.own 7)] [(3,pQ),(7,a9)] (S L (B (W [(1,hg),(2,hg),(3,.loc 3 0),(7,.own 7),(10,v2)] [(3,pQ),(7,a9)] e4))) (S L (S e0 (J [(1,hg),(2,hg),(3,.loc 3 0),(7,.own 7),(11,hg),(12,.loc 12 0)] [(3,pQ),(7,a9),(12,pQ)] (S L (B (W [(1,hg),(2,hg),(3,.loc 3 0),(7,.own 7),(11,hg),(12,.loc 12 0),(14,v2)] [(3,pQ),(7,a9),(12,pQ)] e4))) (S L (S e0 (J [(1,hg),(11,hg),(15,hg)] [] (S L (B (W [(1,hg),(11,hg),(15,hg),(18,v2)] [] e4))) D)))))))))))) (λx=>M.le_refl _) (by kernel_rfl) λx=>by kernel_rfl
end
end Go.Fer.n3
namespace Go.Fer.n3
open Go Go.Proofs
theorem ace{H:Type}{enc:TypeId×Value->H}{a:Assume}{C:Checked}{os:Os}{f:FuncId}{fn:Func}{s:ChangeSpec}{conds:List PathCond}{apart FQ handsOn again:Bool}{X:World->Array Value->Prop}
  (va:∀ (w w':World) (args:Array Value),w.heap=w'.heap->X w args->X w' args)
  (own:ownKnob C.prog.godebug=none) (started:os.Started) (awJ:C.prog.inits.idxOf? f=none) (s3:C.prog.funcs[f]?=some fn)
  (witness:∃ (w:World) (tape:Tape) (i:Input),w.os=os/\(w.forCall tape i).Shaped C.prog/\i.vars=[]/\Input.okWide C.prog (w.forCall tape i) .any w.heap.size f i/\
   ((s.pre enc C.prog fn conds apart (w.forCall tape i).memory i.args/\X (w.forCall tape i).memory i.args)/\sizedMet enc C.prog fn (OpenSpec.ofChange s) apart (w.forCall tape i).memory i.args)/\a.holds C.prog (lone (Frame.enter C.prog f i.args .normal) [] (w.forCall tape i)))
  (awK:∀ (W:World) (base:Nat) (args:Array Value) (a_ gs:List (DataW H)) (before:List MemPlace),(∀ (j:Nat) t v,fn.params[j]?=some t->args[j]?=some v->Value.okWide C.prog W .any base t v)->
   DataW.Whole enc C.prog fn.params.toList s.vars apart W args.toList a_ gs before->
   W.ShapedOpen C.prog->X W args->
   Calls C.prog f args W λe qd=>∃ v,e=.returned v/\s.post enc C.prog fn apart FQ handsOn again W args v qd) :
  ReturnsInHanded a C os f .any (λw args=>(s.pre enc C.prog fn conds apart w args/\X w args)/\sizedMet enc C.prog fn (OpenSpec.ofChange s) apart w args) (s.post enc C.prog fn apart FQ handsOn again):=by
 refine returnsInHanded_of_calls own started awJ witness ?_;intro w tape i _ nq _ ct gq ax';obtain⟨_,_,_,awL,awM,_,_,_,_,xH⟩:=ct;have e:awL=fn:=Option.some.inj (awM.symm.trans s3);subst e;obtain⟨⟨⟨a_,gs,before,hw,hc⟩,hx⟩,ba⟩:=gq;have CL:=DataW.Whole.of_heap (w':=w.forCall tape i) (by rfl) hw;refine (awK (w.forCall tape i) w.heap.size i.args a_ gs before xH CL nq (va (w.forCall tape i).memory (w.forCall tape i) i.args rfl hx)).mono λe qd ⟨v,he,hp⟩=>?_;subst he;exact ChangeSpec.post_blind hp
theorem JH{P:Program}{w:World}:∀ {l:List (String×DataW Unit)} {ps:List MemPlace},DataW.LaidVars P w l ps->∀ n d,(n,d)∈l->∃ g t cs bZ p,P.globalNamed n=some g/\(P.globals[g]?).map (·.type)=some t/\w.var? P n=some cs/\DataW.trod (λ_=>()) P w 0 (λ_=>true) false bZ t cs.toList=some (d,p)
 | [],_,_,_,_,ao=>by cases ao
 | (iO,uO)::r,ps,h,n,d,ao=>by
  obtain⟨g,t,cs,bZ,p,q,h1,h2,h3,aT,bx,_⟩:=h;rcases List.mem_cons.1 ao with e | e
  ·cases e;exact⟨g,t,cs,bZ,p,h1,h2,h3,aT⟩
  ·exact JH bx n d e
theorem acd{P:Program}{w:World}{n:String}{g:Nat}{t:TypeId}{d:DataW Unit}{bZ:Nat}{cs:Array Value}{p:List MemPlace}(aA:P.globalNamed n=some g)(hv:w.var? P n=some cs)(hu:∃ ms,P.underlying t=some (.interface ms))
  (h:DataW.trod (λ_=>()) P w 0 (λ_=>true) false bZ t cs.toList=some (d,p)):∃ v,w.cell? ⟨g,0,none⟩=some v/\(v=.nilIface\/∃ te pe,v=.iface te pe):=by
 obtain⟨ms,hu⟩:=hu;have hc:w.cell? ⟨g,0,none⟩=cs[0]?:=by
  unfold World.var? at hv;rw[aA]at hv;simp only[Option.bind_some]at hv;cases ah:w.heap[g]? with
  | none=>rw[ah]at hv;cases hv
  | some o=>
   rw[ah]at hv;cases o with
   | cells a T ep=>cases hv;simp[World.cell?,ah]
   | _=>cases hv
 have aI:cs[0]?=cs.toList[0]?:=by simp
 rw[hc,aI];generalize cs.toList=l at h;cases bZ with
 | zero=>simp[DataW.trod]at h
 | succ bZ=>
  match l with
  | []=>simp[DataW.trod,hu]at h
  | [.nilIface]=>exact⟨_,rfl,.inl rfl⟩
  | [.iface u v]=>exact⟨_,rfl,.inr ⟨u,v,rfl⟩⟩
  | _::_::_=>simp[DataW.trod,hu]at h
  | [x]=>cases x<;>first | exact⟨_,rfl,.inl rfl⟩ | exact⟨_,rfl,.inr ⟨_,_,rfl⟩⟩ | (simp[DataW.trod,hu]at h;done)
theorem awN:((List.range 8).all λb=>(((begin Tryz.prog (λ_ _=>0) default).world.heap[b]?).bind Obj.row?).isSome)=true:=by kernel_rfl
theorem acj{W : World}(h : W.ShapedOpen Tryz.prog)(h1 : ∃ v, W.cell? ⟨1, 0, none⟩ = some v /\ (v = .nilIface \/ ∃ te pe, v = .iface te pe))(h2 : ∃ v, W.cell? ⟨2, 0, none⟩ = some v /\ (v = .nilIface \/ ∃ te pe, v = .iface te pe))(aI : Lib.TabIs Tryz.prog W "internal/strconv.uint64pow10" .u64 Lib.pow10Tab) : nv Tryz.prog (qg W) W := λb ad => by
 have iZ:b<8:=Nat.lt_of_lt_of_le ad (of_decide_eq_true (by kernel_rfl));refine⟨?_,?_⟩
 ·have aa:=List.all_eq_true.1 awN b (List.mem_range.2 iZ);obtain⟨⟨zero,t⟩,ba⟩:=Option.isSome_iff_exists.1 aa;obtain⟨cs,cB,_⟩:=h.1 b zero t ad ba;exact (Array.getElem?_eq_some_iff.1 cB).1
 ·match b,ad,iZ with
  | 0,ad,_=>exact cell_of_shapedOpen_int (t:=3) (zero:=#[.int .i64 0]) h ad (by kernel_rfl) rfl (by kernel_rfl) (by kernel_rfl) Tryz.underlying3
  | 1,_,_=>exact h1
  | 2,_,_=>exact h2
  | 3,_,_=>trivial
  | 4,_,_=>trivial
  | 5,_,_=>
   show ∀ i,W.cell? ⟨5,i,none⟩=if i<20 then some (.int .u64 (10 ^ i)) else none
   unfold Lib.TabIs World.var? at aI;rw[show Tryz.prog.globalNamed "internal/strconv.uint64pow10" = some 5 by kernel_rfl]at aI;change (match W.heap[5]? with | some (.cells cs _ _)=>some cs | _=>none)=_ at aI;intro i;cases ah:W.heap[5]? with
   | none=>rw[ah]at aI;cases aI
   | some o=>
    rw[ah]at aI;cases o with
    | cells cs T ep=>
     simp only[Option.some.injEq]at aI;simp only[World.cell?,ah,aI];simp only[Option.isSome_none,Bool.false_eq_true,if_false,List.getElem?_toArray,List.getElem?_map,Lib.pow10Tab];split
     ·rename_i Jq;rw[List.getElem?_range Jq];simp
     ·rename_i Jq;rw[List.getElem?_eq_none (by simp;omega)];rfl
    | _=>cases aI
  | 6,_,_=>trivial
  | 7,_,_=>trivial
end Go.Fer.n3
