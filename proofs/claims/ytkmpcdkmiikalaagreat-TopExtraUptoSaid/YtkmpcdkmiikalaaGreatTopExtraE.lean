/- Part 5 of the proof of TopExtra: shallow programs of Go functions, and what they compute. No condition. -/
import Derived.Test.YtkmpcdkmiikalaaGreatTopExtraD
noncomputable section
namespace Go.Fer
open A (ab)
set_option linter.unusedVariables false
set_option linter.unusedSimpArgs false
theorem ai_ {k:Nat} (h:k<63):y' .u64 1 (k:Int)=((2 ^ k:Nat):Int):=by
 show IntKind.u64.wrap (1*2 ^ (min ((k:Int).toNat) 64))=_;have e:min ((k:Int).toNat) 64=k:=by omega
 rw [e,Int.one_mul];have aa:(2:Nat) ^ k<=2 ^ 62:=Nat.pow_le_pow_right (by omega) (by omega);have cF:(2:Nat) ^ 62=4611686018427387904:=by decide
 have bq:(2:Int) ^ k=((2 ^ k:Nat):Int):=by simp
 rw [bq];rw [cF] at aa;generalize 2 ^ k=p at aa;exact AF (by omega) (by omega)
theorem NW {n m b:Nat} (h:b<2 ^ n) (hm:n<=m):eC m b=eC n b:=by
 unfold eC;obtain ⟨d,rfl⟩:=Nat.exists_eq_add_of_le hm;rw [List.range_add,List.filter_append];have:(List.map (λx=>n+x) (List.range d)).filter (λi=>decide (b / 2 ^ i % 2=1))=[]:=by
  rw [List.filter_eq_nil_iff];intro i U;obtain ⟨j,_,rfl⟩:=List.mem_map.1 U;have aa:b / 2 ^ (n+j)=0:=by
   apply Nat.div_eq_of_lt;exact Nat.lt_of_lt_of_le h (Nat.pow_le_pow_right (by omega) (by omega))
  grind
 grind
def nT (w:aT) (b:Nat):Bool:=AJ w (eC w.1.length b)
def fz (w:aT) (k N:Nat):List Int:=((List.range N).filter λb=>decide ((eC w.1.length b).length=k)&&nT w b).map λ(b:Nat)=>(b:Int)
def kW (w:aT) (K:Nat):List Int:=(List.range K).flatMap λk=>fz w k (2 ^ w.1.length)
def ky (w:aT):List Int:=kW w (w.1.length+1)
theorem HE (w:aT) (k:Nat):kW w (k+1)=kW w k++fz w k (2 ^ w.1.length):=by
 unfold kW;rw [List.range_succ,List.flatMap_append];simp
theorem o7 (w:aT) (k b:Nat):fz w k (b+1)=fz w k b++if (decide ((eC w.1.length b).length=k)&&nT w b)=true then [(b:Int)] else []:=by
 unfold fz;rw [List.range_succ,List.filter_append,List.map_append];grind
theorem ai' (w:aT) (k:Nat) {b N:Nat} (h:b<=N):∃ t,fz w k N=fz w k b++t:=by
 obtain ⟨d,rfl⟩:=Nat.exists_eq_add_of_le h;exact ⟨_,by unfold fz;rw [List.range_add,List.filter_append,List.map_append]⟩
theorem aja (w:aT) {k K:Nat} (h:k<=K):∃ t,kW w K=kW w k++t:=by
 obtain ⟨d,rfl⟩:=Nat.exists_eq_add_of_le h;exact ⟨_,by unfold kW;rw [List.range_add,List.flatMap_append]⟩
theorem ajb {w:aT} {k b:Nat} (ak:k<w.1.length+1) (af:b<2 ^ w.1.length) (h:(decide ((eC w.1.length b).length=k)&&nT w b)=true) :
  ∃ T,(kW w k++fz w k b)++(b:Int)::T=ky w:=by
 obtain ⟨t,aR⟩:=aja w (show k+1<=w.1.length+1 from ak);obtain ⟨u,hu⟩:=ai' w k (show b+1<=2 ^ w.1.length from af);have e:ky w=(kW w k++fz w k b)++((b:Int)::(u++t)):=by
  unfold ky;rw [aR,HE,hu,o7,h];simp
 grind
theorem ajc (w:aT) (k N:Nat):(fz w k N).length<=N:=by
 unfold fz;grind
theorem ajd (w:aT) (l:Nat) (hw:hU w) :
  A.cp (Hc qW.sh DX.sh DW.sh (some (w,g8 w),l,(l,(λT=>T=ky w),[],false),())) λy=>y.1.1=l/\y.1.2.1=(λT=>T=ky w)/\(y.1.2.2.2=false->y.1.2.2.1=ky w):=by
 have ml:=oy hw.2;have yd:2 ^ w.1.length<=2 ^ 10:=Nat.pow_le_pow_right (by omega) ml.1;have yd:2 ^ w.1.length<=1024:=yd;have m7:=bF (n:=(w.1.length:Int)+1) (by omega) (by omega);have mO:(0:Int)<=(w.1.length:Int):=by omega
 unfold Hc;simp only [Option.isSome_some,Option.getD_some,A.bL,cc,b',m7];refine A.AL (w.1.length+1) (λk s=>s=(some (w,g8 w),l,(w.1.length:Int)+1,(k:Int),(l,(λT=>T=ky w),kW w k,false),())) rfl ?_ ?_
 ·rintro k ak s rfl;have jy:=bF (n:=(k:Int)+1) (by omega) (by omega);have cq:decide ((k:Int)<(w.1.length:Int)+1)=true:=by grind
  simp only [cq,if_true,Option.isSome_some,Option.getD_some,A.bL,A.ba mO,ai_ (k:=w.1.length) (by omega),A.gf];refine A.AL (p:=λr=>A.cp (ab.bx _ r) _) (2 ^ w.1.length) (λb s=>s=(some (w,g8 w),l,(k:Int),(w.1.length:Int)+1,(k:Int),((2 ^ w.1.length:Nat):Int),(b:Int),(l,(λT=>T=ky w),kW w k++fz w k b,false),())) ?_ ?_ ?_
  ·show _=_;simp [fz]
  ·rintro b af s rfl;have uf:=AF (n:=(b:Int)+1) (by omega) (by omega);have aje:decide ((b:Int)<((2 ^ w.1.length:Nat):Int))=true:=by
    grind
   have VI:(0:Int)<=(b:Int)/\(b:Int)<1024:=by
    omega
   have DY:eC 10 ((b:Int).toNat)=eC w.1.length b:=by
    rw [Int.toNat_natCast];exact NW af ml.1
   simp only [aje,if_true,aU.sh,A.cN,A.ba VI,DY];by_cases hc:(eC w.1.length b).length=k
   ·have cI:decide (((eC w.1.length b).length:Int)≠(k:Int))=false:=by grind
    simp only [cI,Bool.false_eq_true,if_false,Option.isSome_some,Option.getD_some,A.bL];rw [A.fv (List.range w.2.1.length) (λm (_:Unit)=>(some (w,g8 w),l,(k:Int),(b:Int),(w.1.length:Int)+1,(k:Int),((2 ^ w.1.length:Nat):Int),(b:Int),((w.2.1.length:Nat):Int),(m:Int),(l,(λT=>T=ky w),kW w k++fz w k b,false),()))
     (λ(m:Nat) u=>if decide (yc w (eC w.1.length b) (m:Int)≠1)=true then .done (.done (.next (some (w,g8 w),l,(k:Int),(w.1.length:Int)+1,(k:Int),((2 ^ w.1.length:Nat):Int),(b:Int),(l,(λT=>T=ky w),kW w k++fz w k b,false),()))) else .next u)
     (λ_=>.next (some (w,g8 w),l,(k:Int),(b:Int),(w.1.length:Int)+1,(k:Int),((2 ^ w.1.length:Nat):Int),(b:Int),(l,(λT=>T=ky w),kW w k++fz w k b,false),())) () ?_ ?_ ?_]
    ·rw [lS (q:=λ(m:Nat)=>decide (yc w (eC w.1.length b) (m:Int)=1)) _ _ (λm=>by simp)];have e:((List.range w.2.1.length).all λ(m:Nat)=>decide (yc w (eC w.1.length b) (m:Int)=1))=nT w b:=rfl;rw [e];by_cases al:nT w b=true
     ·have uv:(decide ((eC w.1.length b).length=k)&&nT w b)=true:=by grind
      have aL:=ajb ak af uv;simp only [al,if_true,A.aX,A.bX,true_and];rw [A.ba aL];simp only [A.gf];refine ⟨⟨true,trivial⟩,λy _=>?_⟩;cases y with
      | false=>
       simp only [Bool.not_false,if_true,A.aX,A.ez,A.jf];simp
      | true=>
       simp only [Bool.not_true,Bool.false_eq_true,if_false,A.aX,A.ez,A.bX,uf];show _=_;rw [o7,uv];simp
     ·have uv:(decide ((eC w.1.length b).length=k)&&nT w b)=false:=by grind
      simp only [al,Bool.false_eq_true,if_false,A.aX,A.bX,A.jf,A.ez,uf];show _=_;rw [o7,uv];simp
    ·rfl
    ·intro m hm u;have hm:m<w.2.1.length:=by grind
     have wv:=bF (n:=(m:Int)+1) (by omega) (by omega);have h2:=Vx w.1.length b;have ajf:NS (some (w,g8 w),eC w.1.length b,(m:Int)):=⟨w,⟨rfl,hw⟩,by grind,λi U=>lq.2 (aiI U),aiF hm⟩
     simp only [dn hm,if_true,List.getElem_range,aU.sh,A.cN,A.ba VI,DY,A.ba ajf,Option.getD_some,A.aX,b',wv];exact nO (mk:=λ_:Unit=>(some (w,g8 w),l,(k:Int),(b:Int),(w.1.length:Int)+1,(k:Int),((2 ^ w.1.length:Nat):Int),(b:Int),((w.2.1.length:Nat):Int),(m:Int)+1,(l,(λT=>T=ky w),kW w k++fz w k b,false),()))
    simp
   ·have cI:decide (((eC w.1.length b).length:Int)≠(k:Int))=true:=by grind
    have uv:(decide ((eC w.1.length b).length=k)&&nT w b)=false:=by grind
    simp only [cI,if_true,A.aX,A.bX,A.ez,b',uf];show _=_;rw [o7,uv];simp
  ·rintro s rfl;simp only [Int.lt_irrefl,decide_false,Bool.false_eq_true,if_false,A.aX,A.ez,A.bX,jy];show _=_;rw [HE];rfl
 ·rintro s rfl;have e:decide (((w.1.length+1:Nat):Int)<(w.1.length:Int)+1)=false:=by simp
  simp only [e,Bool.false_eq_true,if_false,A.aX,A.ez];exact ⟨trivial,trivial,λ_=>rfl⟩
end Go.Fer
namespace Go.Fer
open A (ab)
set_option linter.unusedVariables false
set_option linter.unusedSimpArgs false
def lv (x:Int):Int:=((eC 10 x.toNat).length:Int)
def ye:List Int->List Int
 | []=>[]
 | x::l=>x::l.takeWhile λy=>decide (lv y<=lv x)
def mV (w:aT):List Int:=ye (ky w)
theorem VJ {w:aT} {y:Int} (h:y∈ky w):∃ k b:Nat,k<=w.1.length/\b<2 ^ w.1.length/\y=(b:Int)/\(eC w.1.length b).length=k/\nT w b=true:=by
 simp only [ky,kW,fz,List.mem_flatMap,List.mem_range,List.mem_map,List.mem_filter,Bool.and_eq_true,decide_eq_true_eq] at h;obtain ⟨k,ak,b,⟨af,hc,al⟩,rfl⟩:=h;exact ⟨k,b,by omega,af,rfl,hc,al⟩
theorem VK {w:aT} (hw:hU w) {y:Int} (h:y∈ky w):0<=y/\y<1024:=by
 obtain ⟨k,b,_,af,rfl,_⟩:=VJ h;have ml:=oy hw.2;have yd:2 ^ w.1.length<=2 ^ 10:=Nat.pow_le_pow_right (by omega) ml.1;omega
theorem ajg {l:List Int} {y:Int} (h:y∈ye l):y∈l:=by
 cases l with
 | nil=>exact h
 | cons x l=>
  rcases List.mem_cons.1 h with rfl | h
  ·simp
  ·exact List.mem_cons_of_mem _ ((List.takeWhile_sublist _).mem h)
theorem ajh {l:List Int}:ye l=[]<->l=[]:=by cases l<;>simp [ye]
theorem aji (w:aT) (k:Nat):(kW w k).length<=k*2 ^ w.1.length:=by
 induction k with
 | zero=>simp [kW]
 | succ k aO=>
  rw [HE,List.length_append,Nat.succ_mul];have:=ajc w k (2 ^ w.1.length);omega
theorem ajj {w:aT} (hw:hU w):(ky w).length<=11264:=by
 have ml:=oy hw.2;have yd:2 ^ w.1.length<=2 ^ 10:=Nat.pow_le_pow_right (by omega) ml.1;have:=aji w (w.1.length+1);exact Nat.le_trans this (Nat.le_trans (Nat.mul_le_mul_left _ yd) (Nat.mul_le_mul_right _ (show w.1.length+1<=11 by omega)))
def rY (w:aT):List Int×Int:=if eo w true≠0 then ([],eo w true) else if mV w=[] then ([],3) else (mV w,0)
abbrev HF:aU:=⟨iG,.aG (.slice (.int .u64)) bp,fp,rY⟩
def HG (o:Option fo):Prop:=∃ w,Hx o w
def HH (o:Option fo):List Int:=ky (o.getD (([],[],0,[]),[])).1
theorem ajk {body:List Int×Unit->Int->A (dc×(List Int×Unit))} (l:List Int) (acc:List Int) (x:Int) (au:acc.head?=some x)
  (h:∀ acc:List Int,acc.head?=some x->acc.length<=100000->∀ y∈l,body (acc,()) y=if decide (lv y > lv x)=true then A.pure (dc.exit 0,(acc,())) else A.pure (dc.normal,(acc++[y],()))) (aw:acc.length+l.length<=100000) :
  ∃ e,(e=.normal\/e=.exit 0)/\ju body l (acc,())=A.pure (e,(acc++l.takeWhile (λy=>decide (lv y<=lv x)),())):=by
 induction l generalizing acc with
 | nil=>exact ⟨_,.inl rfl,by simp [ju]⟩
 | cons y l aO=>
  simp only [List.length_cons] at aw;unfold ju;rw [h acc au (by omega) y (by simp)];by_cases hc:lv y > lv x
  ·simp_all
  ·have aa:decide (lv y<=lv x)=true:=by grind
   simp only [hc,decide_false,Bool.false_eq_true,if_false,A.aX,List.takeWhile_cons,aa,if_true];obtain ⟨e,he,an⟩:=aO (acc++[y]) (by grind) (λacc M aa y aJ=>h acc M aa y (List.mem_cons_of_mem _ aJ)) (by grind);grind
theorem ajl {β gJ:Type} {body:List Int×Unit->Int->A (dc×(List Int×Unit))} {k:dc×(List Int×Unit)->A β} {aY:β->A gJ} {v:A gJ} (l:List Int) (acc:List Int) (x:Int) (au:acc.head?=some x) (aw:acc.length+l.length<=100000)
  (ak:∀ e,(e=.normal\/e=.exit 0)->A.bind (k (e,(acc++l.takeWhile (λy=>decide (lv y<=lv x)),()))) aY=v)
  (h:∀ acc:List Int,acc.head?=some x->acc.length<=100000->∀ y∈l,body (acc,()) y=if decide (lv y > lv x)=true then A.pure (dc.exit 0,(acc,())) else A.pure (dc.normal,(acc++[y],()))) :
  A.bind (A.bind (ju body l (acc,())) k) aY=v:=by
 obtain ⟨e,he,W⟩:=ajk l acc x au h aw;rw [W,A.aX];grind
theorem ajm (w:aT) (h:fp w):Nc qW.sh rX.sh HG HH w=A.pure (rY w):=by
 unfold Nc;have ar:fp (w,true).1:=h;simp only [aU.sh,A.cN,A.ba ar];unfold rY;by_cases ak:eo w true=0
 ·have hw:=x9 h ak;have hh:HG (some (w,g8 w)):=⟨w,rfl,hw⟩
  have dr:=ajj hw;have yf:HH (some (w,g8 w))=ky w:=rfl;simp only [Hy ak,ak,ne_eq,not_true,decide_false,Bool.false_eq_true,if_false,A.ba hh,yf];unfold mV;have mS:∀ y∈ky w,0<=y/\y<1024:=λy aJ=>VK hw aJ;revert mS dr;generalize ky w=l;intro dr mS;cases l with
  | nil=>
   simp only [ju,ye,A.aX,qy,A.bX];rfl
  | cons x l=>
   have au:=mS x (by simp);have Kn:bT (([]:List Int).length+(0+1)):=by unfold bT;simp
   unfold ju;simp only [List.length_nil,cc,Int.natCast_zero,gt_iff_lt,Int.lt_irrefl,decide_false,Bool.false_eq_true,false_implies,A.bL,true_and,and_true,Bool.false_and,if_false,ku,implies_true];rw [A.ba (by omega)];simp only [A.aX,List.nil_append];refine ajl l [x] x rfl (by grind) (λe he=>?_) (λacc DQ iy y aJ=>?_)
   ·rcases he with rfl | rfl
    ·simp [qy,A.aX,A.bX,ye]
    ·simp [qy,A.aX,A.bX,ye]
   ·obtain ⟨a,rfl⟩:∃ a,acc=x::a:=by cases acc with | nil=>grind | cons z a=>grind
    have aJ:=mS y (List.mem_cons_of_mem _ aJ);have h4:bT ((x::a).length+(0+1)):=by unfold bT;omega
    have lL:(0:Int)<(((x::a).length:Nat):Int):=by simp
    have aL:List.getD (x::a) (Int.toNat 0) 0=x:=rfl;simp only [cc,lL,gt_iff_lt,decide_true,true_implies,aL,aU.sh,A.mg,A.hS,au,aJ,and_self,A.bL,Int.le_refl,Bool.true_and,implies_true,ku,A.ba h4];show A.bind (if decide (lv x<lv y)=true then _ else _) _=_;simp
 ·simp [Hz ak,ak]
theorem ajn (x):A.bz (Nc qW.sh rX.sh HG HH x) (HF.sh x):=A.bU λh=>ajm x h
end Go.Fer
namespace Go.Fer
open A (ab)
set_option linter.unusedVariables false
set_option linter.unusedSimpArgs false
theorem ajo (w:aT):∀ N,((List.range N).foldl (DU w) []=[]/\∀ b<N,nT w b=false)\/
  ∃ k,fz w k N≠[]/\(List.range N).foldl (DU w) []=(fz w k N).map (λy=>eC w.1.length y.toNat)/\∀ b<N,nT w b=true->k<=(eC w.1.length b).length:=by
 intro N;induction N with
 | zero=>simp
 | succ N aO=>
  rw [List.range_succ,List.foldl_append];simp only [List.foldl_cons,List.foldl_nil];rcases aO with ⟨he,aI⟩ | ⟨k,cI,he,zu⟩
  ·rw [he];unfold DU;simp only [List.length_nil,Int.natCast_zero,gt_iff_lt,Int.lt_irrefl,decide_false,Bool.false_and,Bool.false_eq_true,if_false];cases al:nT w N with
   | false=>
    have jb:AJ w (eC w.1.length N)=false:=al;grind
   | true=>
    have jb:AJ w (eC w.1.length N)=true:=al;simp only [jb,if_true,List.nil_append];have hu:fz w (eC w.1.length N).length N=[]:=by
     unfold fz;simp_all
    refine .inr ⟨(eC w.1.length N).length,?_,?_,λb af be=>?_⟩
    ·rw [o7,al];simp
    ·rw [o7,al,hu];simp
    grind
  ·rw [he];have hlen:0<(fz w k N).length:=List.length_pos_iff.2 cI;have gW:AK ((fz w k N).map λy=>eC w.1.length y.toNat)=(k:Int):=by
    unfold AK;cases hu:fz w k N with
    | nil=>grind
    | cons x l=>
     have au:x∈fz w k N:=by grind
     simp only [fz,List.mem_map,List.mem_filter,Bool.and_eq_true,decide_eq_true_eq] at au;grind
   unfold DU;rw [gW];have ar:decide ((((fz w k N).map λy=>eC w.1.length y.toNat).length:Int) > 0)=true:=by grind
   simp only [ar,Bool.true_and];by_cases z9:(k:Int)<((eC w.1.length N).length:Int)
   ·have ajp:(decide ((eC w.1.length N).length=k)&&nT w N)=false:=by
     grind
    rw [if_pos (by grind)];refine .inr ⟨k,?_,?_,λb af be=>?_⟩
    ·rw [o7];grind
    ·rw [o7,ajp];simp
    grind
   ·rw [if_neg (by grind)];cases al:nT w N with
    | false=>
     have jb:AJ w (eC w.1.length N)=false:=al;simp only [jb,Bool.false_eq_true,if_false];refine .inr ⟨k,?_,?_,λb af be=>?_⟩
     ·rw [o7];grind
     ·rw [o7,al];simp
     grind
    | true=>
     have jb:AJ w (eC w.1.length N)=true:=al;simp only [jb,if_true];by_cases cq:((eC w.1.length N).length:Int)<(k:Int)
     ·rw [if_pos (by grind)];have hu:fz w (eC w.1.length N).length N=[]:=by
       unfold fz;rw [List.map_eq_nil_iff,List.filter_eq_nil_iff];grind
      refine .inr ⟨(eC w.1.length N).length,?_,?_,λb af be=>?_⟩
      ·rw [o7,al];simp
      ·rw [o7,al,hu];simp
      grind
     ·rw [if_neg (by grind)];have sL:(eC w.1.length N).length=k:=by omega
      refine .inr ⟨k,?_,?_,λb af be=>?_⟩
      ·rw [o7];simp [cI]
      ·rw [o7,sL,al];simp
      grind
theorem VL {w:aT} {k N:Nat} (aI:w.1.length<=10) (hk:N<=2 ^ w.1.length):∀ y∈fz w k N,lv y=(k:Int):=by
 intro y aJ;simp only [fz,List.mem_map,List.mem_filter,List.mem_range,Bool.and_eq_true,decide_eq_true_eq] at aJ;obtain ⟨b,⟨af,hc,_⟩,rfl⟩:=aJ;unfold lv;rw [Int.toNat_natCast,NW (Nat.lt_of_lt_of_le af hk) aI,hc]
theorem VM {w:aT} (hw:hU w):(wq w=[]/\mV w=[])\/∃ k,fz w k (2 ^ w.1.length)≠[]/\mV w=fz w k (2 ^ w.1.length)/\
  wq w=(fz w k (2 ^ w.1.length)).map (λy=>eC w.1.length y.toNat)/\∀ b<2 ^ w.1.length,nT w b=true->k<=(eC w.1.length b).length:=by
 have ml:=oy hw.2;rcases ajo w (2 ^ w.1.length) with ⟨he,aI⟩ | ⟨k,cI,he,zu⟩
 ·refine .inl ⟨he,?_⟩;unfold mV;rw [ajh];apply List.eq_nil_iff_forall_not_mem.2;intro y aJ;obtain ⟨k,b,_,af,rfl,_,al⟩:=VJ aJ;grind
 ·refine .inr ⟨k,cI,?_,he,zu⟩;have y9:k<=w.1.length:=by
   obtain ⟨x,au⟩:=List.exists_mem_of_ne_nil _ cI;simp only [fz,List.mem_map,List.mem_filter,List.mem_range,Bool.and_eq_true,decide_eq_true_eq] at au;obtain ⟨b,⟨_,hc,_⟩,_⟩:=au;rw [<-hc];exact Vx _ _
  have aW:kW w k=[]:=by
   unfold kW;rw [List.flatMap_eq_nil_iff];intro j aC;have aC:j<k:=by grind
   unfold fz;rw [List.map_eq_nil_iff,List.filter_eq_nil_iff];grind
  obtain ⟨d,aN⟩:=Nat.exists_eq_add_of_le (show k+1<=w.1.length+1 by omega);have yf:∃ t,ky w=fz w k (2 ^ w.1.length)++t/\∀ y∈t,lv y > (k:Int):=by
   refine ⟨(List.map (λx=>k+1+x) (List.range d)).flatMap λk=>fz w k (2 ^ w.1.length),?_,λy aJ=>?_⟩
   ·unfold ky;rw [aN];unfold kW;rw [List.range_add,List.flatMap_append];show kW w (k+1)++_=_;rw [HE,aW,List.nil_append]
   ·simp only [List.mem_flatMap,List.mem_map] at aJ;obtain ⟨j,⟨i,_,rfl⟩,aJ⟩:=aJ;rw [VL ml.1 (Nat.le_refl _) y aJ];omega
  obtain ⟨t,aR,z9⟩:=yf;unfold mV;rw [aR];have NX:=VL (w:=w) (k:=k) ml.1 (Nat.le_refl _);revert cI NX;generalize fz w k (2 ^ w.1.length)=u;intro cI NX;cases u with
  | nil=>grind
  | cons x u=>
   have au:=NX x (by simp);show x::(u++t).takeWhile _=_;rw [List.takeWhile_append_of_pos (λy aJ=>by grind)];cases t with
   | nil=>simp
   | cons z t=>
    simp_all
theorem ajq {w:aT} (hw:hU w) (h:mV w≠[]):∃ b:Nat,b<2 ^ w.1.length/\(mV w).getD 0 0=(b:Int)/\(wq w).getD 0 []=eC w.1.length b/\nT w b=true/\(wq w).length=(mV w).length:=by
 rcases VM hw with ⟨_,aa⟩ | ⟨k,cI,M,aa,_⟩
 ·grind
 ·rw [M,aa];cases hu:fz w k (2 ^ w.1.length) with
  | nil=>grind
  | cons x l=>
   have au:x∈fz w k (2 ^ w.1.length):=by grind
   simp only [fz,List.mem_map,List.mem_filter,List.mem_range,Bool.and_eq_true,decide_eq_true_eq] at au;obtain ⟨b,⟨af,hc,al⟩,rfl⟩:=au;exact ⟨b,af,rfl,by simp,al,by simp⟩
theorem ajr {w:aT} (h:fp w):DV w=(if (rY w).2≠0 then (0,(rY w).2) else (lv ((rY w).1.getD 0 0),0)):=by
 unfold DV rY;by_cases ak:eo w true=0
 ·have hw:=x9 h ak;have ml:=oy hw.2;simp only [ak,ne_eq,not_true,if_false];by_cases ax:mV w=[]
  ·have:wq w=[]:=by
    rcases VM hw with ⟨M,_⟩ | ⟨k,cI,M,_⟩
    ·exact M
    ·exact absurd (M ▸ ax) cI
   grind
  ·obtain ⟨b,af,M,aa,an,a8⟩:=ajq hw ax;have aw:0<(mV w).length:=List.length_pos_iff.2 ax;have rz:¬(((wq w).length:Int)=0):=by omega
   simp only [ax,if_false,not_true,M,AK,aa,rz];unfold lv;rw [Int.toNat_natCast,NW af ml.1]
 grind
theorem ajs {w:aT} (hw:hU w) {y:Int} (h:y∈mV w):0<=y/\y<1024:=VK hw (ajg h)
theorem ajt {w:aT} (h:(rY w).2=0):eo w true=0/\mV w≠[]/\(rY w).1=mV w:=by
 unfold rY at h ⊢;grind
abbrev HI:aU:=⟨iG,.aG bp bp,fp,DV⟩
theorem aju (w:aT) (h:fp w):M9 HF.sh qW.sh w=A.pure (DV w):=by
 unfold M9;simp only [aU.sh,A.cN,A.ba h];rw [ajr h];by_cases ax:(rY w).2=0
 ·obtain ⟨ak,cI,M⟩:=ajt ax;have hw:=x9 h ak;have aw:0<(mV w).length:=List.length_pos_iff.2 cI;have aA:=ajs hw (y:=(mV w).getD 0 0) (by grind);have W:(0:Int)<=0/\0<Int.ofNat (mV w).length:=⟨Int.le_refl _,by grind⟩
  simp only [ax,ne_eq,not_true,decide_false,Bool.false_eq_true,if_false,M,A.ba W];show A.ah _ _=_;rw [A.ba (by exact aA)];rfl
 grind
theorem ajv (x):A.bz (M9 HF.sh qW.sh x) (HI.sh x):=A.bU λh=>aju x h
end Go.Fer
namespace Go.Fer
open A (ab)
set_option linter.unusedVariables false
set_option linter.unusedSimpArgs false
def NY (x:Int×Int):Int:=IntKind.wrap .u64
 (Add.add (IntKind.wrap .u64 (Add.add (IntKind.wrap .u64 (gL .u64 x.1 32*gL .u64 x.2 32)) (gL .u64 (IntKind.wrap .u64 (Add.add (IntKind.wrap
 .u64 (gL .u64 x.1 32*hO .u64 x.2 4294967295)) (gL .u64 (IntKind.wrap .u64 (hO .u64 x.1 4294967295*hO .u64 x.2 4294967295)) 32))) 32)))
 (gL .u64 (IntKind.wrap .u64 (Add.add (hO .u64 (IntKind.wrap .u64 (Add.add (IntKind.wrap .u64 (gL .u64 x.1 32*hO .u64 x.2 4294967295)) (gL
 .u64 (IntKind.wrap .u64 (hO .u64 x.1 4294967295*hO .u64 x.2 4294967295)) 32))) 4294967295) (IntKind.wrap .u64 (hO .u64 x.1 4294967295*gL
 .u64 x.2 32)))) 32))
def HJ:Nat->Bool
 | 0=>true
 | n+1=>decide (NY (1,(n:Int))=0)&&HJ n
theorem VN:∀ (N n:Nat),HJ N=true->n<N->NY (1,(n:Int))=0
 | 0,n,_,h=>by omega
 | N+1,n,hc,h=>by
  simp only [HJ,Bool.and_eq_true,decide_eq_true_eq] at hc;by_cases e:n=N
  ·grind
  ·exact VN N n hc.2 (by omega)
def DZ (x:List Int×Int×Unit):A (List Int×Unit):=A.eT (x.1=[-1]/\0<=x.2.1/\x.2.1<=10) (List.replicate x.2.1.toNat (-1),())
def dy (work:List Int) (s:Int):List Int:=((List.range work.length).filter λj=>decide (work.getD j 0=s)).map λ(j:Nat)=>(j:Int)
theorem HK (work:List Int) (s:Int):(dy work s).length<=work.length:=by
 unfold dy;grind
theorem uK {work:List Int} {s j:Int}:j∈dy work s<->0<=j/\j<(work.length:Int)/\work.getD j.toNat 0=s:=by
 simp only [dy,List.mem_map,List.mem_filter,List.mem_range,decide_eq_true_eq];grind
abbrev ajw:ai:=.aG (.slice hl) (.aG hl hl)
abbrev VO:ai:=.bQ (.st ajw)
abbrev NZ:aU:=⟨.aG VO bp,hl,λx=>∃ t,x.1=some t/\t.2.2.length<=10,λx=>dy ((x.1.getD ([],[],[])).2.2) x.2⟩
theorem ajx (x):A.bz (Ur x) (NZ.sh x):=A.bU λh=>by
 obtain ⟨o,s⟩:=x;obtain ⟨t,ax,aw⟩:=h;change o=some t at ax;subst ax;unfold Ur;simp only [Option.isSome_some,Option.getD_some,A.bL];rw [A.hT (List.range t.2.2.length) (λi (l:List Int)=>(s,t.2.2,Int.ofNat t.2.2.length,(i:Int),l,())) (λ(i:Nat) l=>.next (if decide (t.2.2.getD i 0=s)=true then l++[(i:Int)] else l)) (λl=>.next (l,())) (λi l=>l.length<=i) [] ?_ ?_ ?_ ?_]
 ·rw [g7,DT];simp only [A.aX,A.bX,List.nil_append];rfl
 ·rfl
 ·simp
 ·intro i U l h4;have U:i<t.2.2.length:=by grind
  have hn:=bF (n:=(i:Int)+1) (by omega) (by omega);have h3:bT (l.length+(0+1)):=by unfold bT;omega
  refine ⟨?_,λbg dq=>?_⟩
  ·simp only [cc,dn U,if_true,dd U,A.bL,List.getElem_range,Int.toNat_natCast];by_cases hc:decide (t.2.2.getD i 0=s)=true
   ·simp only [hc,if_true,ku,A.ba h3,A.aX,A.bX,b',hn];rfl
   ·simp only [hc,Bool.false_eq_true,if_false,A.aX,A.bX,b',hn];rfl
  grind
 simp
def AO (x:Int×List (List Int)×List Int×List Int×Unit):A (List Int×List (List Int)×List Int×List Int×Unit):=A.eT (x.2.2.2.1.length<=10) (dy x.2.2.2.1 x.1,x.2)
theorem ajy (x):A.bz (UF x) (AO x):=A.bU λh=>by
 obtain ⟨s,fit,aB,work,u⟩:=x;change work.length<=10 at h;unfold UF;simp only [A.bL];rw [A.hT (List.range work.length) (λi (l:List Int)=>(s,Int.ofNat work.length,(i:Int),l,fit,aB,work,())) (λ(i:Nat) l=>.next (if decide (work.getD i 0=s)=true then l++[(i:Int)] else l)) (λl=>.next (l,fit,aB,work,())) (λi l=>l.length<=i) [] ?_ ?_ ?_ ?_]
 ·rw [g7,DT];simp only [A.aX,A.bX,List.nil_append];rfl
 ·rfl
 ·simp
 ·intro i U l h4;have U:i<work.length:=by grind
  have hn:=bF (n:=(i:Int)+1) (by omega) (by omega);have h3:bT (l.length+(0+1)):=by unfold bT;omega
  refine ⟨?_,λbg dq=>?_⟩
  ·simp only [cc,dn U,if_true,dd U,A.bL,List.getElem_range,Int.toNat_natCast];by_cases hc:decide (work.getD i 0=s)=true
   ·simp only [hc,if_true,ku,A.ba h3,A.aX,A.bX,b',hn];rfl
   ·simp only [hc,Bool.false_eq_true,if_false,A.aX,A.bX,b',hn];rfl
  grind
 simp
end Go.Fer
namespace Go.Fer
open A (ab)
set_option linter.unusedVariables false
set_option linter.unusedSimpArgs false
theorem D0 {ao β aQ:Type} {f:ao->β->ab β aQ} {fin:β->aQ} (I:Nat->β->Prop) (Q:aQ->Prop) (l:List ao) (b:β) (aW:I 0 b)
  (aA:∀ i (h:i<l.length) b,I i b->match f l[i] b with | .next bg=>I (i+1) bg | .done r=>Q r) (ax:∀ b,I l.length b->Q (fin b)):Q (gO f fin l b):=by
 have key:∀ (k:Nat) (r:List ao) (b:β),k<=l.length->r=l.drop k->I k b->Q (gO f fin r b):=by
  intro k r;induction r generalizing k with
  | nil=>
   intro b ak W fs;have:k=l.length:=by have:=congrArg List.length W;grind
   subst this;exact ax b fs
  | cons x r aO=>
   intro b ak W fs;have cq:k<l.length:=by
    grind
   rw [List.drop_eq_getElem_cons cq] at W;injection W with au W
   have M:=aA k cq b fs;rw [<-au] at M;simp only [gO];grind
 grind
def br (m:List (Int×Int)) (k:Int):Int:=(mm m k).getD 0
theorem VP (m:List (Int×Int)) (k:Int):Option.getD (Option.map (λx=>x.2) (List.find? (λp=>decide (k=p.1)) m)) 0=br m k:=rfl
theorem nU (k v k':Int) (m:List (Int×Int)):br (cC m k v) k'=if k'=k then v else br m k':=by
 unfold br;rw [Vj];grind
def jh (n:Nat) (m:List (Int×Int)):Nat:=(List.range n).countP λ(s:Nat)=>decide (br m (s:Int)=0)
theorem VQ {p q:Nat->Bool} {s:Nat} (h:∀ x,x≠s->p x=q x) (ar:p s=true) (bt:q s=false):∀ (l:List Nat),l.Nodup->s∈l->l.countP p=l.countP q+1
 | [],_,aA=>by cases aA
 | x::l,aI,aA=>by
  rw [List.nodup_cons] at aI;rw [List.countP_cons,List.countP_cons];by_cases e:x=s
  ·subst e;have:l.countP p=l.countP q:=List.countP_congr λy aJ=>by
    grind
   grind
  ·have:=VQ h ar bt l aI.2 (by grind);grind
theorem N0 {n:Nat} {m:List (Int×Int)} {s v:Int} (aW:0<=s) (aI:s<(n:Int)) (hm:br m s=0) (aj:v≠0):jh n m=jh n (cC m s v)+1:=by
 unfold jh;refine VQ (s:=s.toNat) (λx au=>?_) ?_ ?_ _ List.nodup_range (by grind)
 ·rw [nU,if_neg (by omega)]
 ·grind
 ·rw [nU,if_pos (by omega)];grind
theorem HL {n:Nat} {a b:List (Int×Int)} (h:∀ k,0<=br a k/\br a k<=br b k):jh n b<=jh n a:=by
 unfold jh;refine List.countP_mono_left λx _ au=>?_;grind
abbrev cB:=List Int×List (Int×Int)
def pZ (rec:Int->cB->Bool×cB) (j:Int) (st:cB):ab cB (Bool×cB):=if (rec j st).1=true then .done (true,(rec j st).2) else .next (rec j st).2
def qX (rec:Int->cB->Bool×cB) (h:List Int) (st:cB):Bool×cB:=gO (pZ rec) (λst=>(false,st)) h st
def rZ (aB:List Int) (rec:Int->cB->Bool×cB) (dB:Int) (s:Int) (st:cB):ab cB (Bool×cB):=
 if decide (br st.2 s+1 > 1)=true then .next (st.1,cC st.2 s (br st.2 s+1))
 else if decide (((dy st.1 s).length:Int)<aB.getD s.toNat 0)=true then .done (true,(st.1.set dB.toNat s,cC st.2 s (br st.2 s+1)))
 else if (qX rec (dy st.1 s) (st.1,cC st.2 s (br st.2 s+1))).1=true then .done (true,((qX rec (dy st.1 s) (st.1,cC st.2 s (br st.2 s+1))).2.1.set dB.toNat s,(qX rec (dy st.1 s) (st.1,cC st.2 s (br st.2 s+1))).2.2))
 else .next (qX rec (dy st.1 s) (st.1,cC st.2 s (br st.2 s+1))).2
def yg (aB:List Int) (rec:Int->cB->Bool×cB) (dB:Int) (l:List Int) (st:cB):Bool×cB:=gO (rZ aB rec dB) (λst=>(false,st)) l st
def jQ (fit:List (List Int)) (aB:List Int):Nat->Int->cB->Bool×cB
 | 0=>λ_ st=>(false,st)
 | f+1=>λdB st=>yg aB (jQ fit aB f) dB (fit.getD dB.toNat []) st
structure s3 (n:Nat) (fit:List (List Int)) (aB:List Int):Prop where
 VR:n<=10
 b8:fit.length<=10
 sl:aB.length=n
 VS:∀ l∈fit,l.Nodup/\∀ s∈l,0<=s/\s<(n:Int)
def o8 (n J f:Nat) (st:cB):Prop:=st.1.length=J/\(∀ k,0<=br st.2 k/\br st.2 k+10*(jh n st.2:Int)+(f:Int)<=1000)/\jh n st.2<f
def D1 (n J:Nat) (st r:cB):Prop:=r.1.length=J/\∀ k,br st.2 k<=br r.2 k/\br r.2 k+10*(jh n r.2:Int)<=br st.2 k+10*(jh n st.2:Int)+1
def HM (n J f:Nat) (st:cB):Prop:=st.1.length=J/\(∀ k,0<=br st.2 k/\br st.2 k+10*(jh n st.2:Int)+(f:Int)+10<=1000)/\jh n st.2<f
def qY (n J:Nat) (p0:cB) (i:Nat) (st:cB):Prop:=st.1.length=J/\∀ k,br p0.2 k<=br st.2 k/\br st.2 k+10*(jh n st.2:Int)<=br p0.2 k+10*(jh n p0.2:Int)+(i:Int)
theorem N1 {n J:Nat} {st:cB} (h:st.1.length=J):qY n J st 0 st:=⟨h,λk=>⟨Int.le_refl _,by omega⟩⟩
theorem N2 {n J f i:Nat} {p0 st:cB} (M:HM n J f p0) (h:qY n J p0 i st) (U:i<=10):o8 n J f st:=by
 have hu:=HL (n:=n) (a:=p0.2) (b:=st.2) λk=>⟨(M.2.1 k).1,(h.2 k).1⟩
 refine ⟨h.1,λk=>?_,by have:=M.2.2;omega⟩;have a:=M.2.1 k;have b:=h.2 k;omega
theorem VT {n J i k:Nat} {p0 st:cB} (h:qY n J p0 i st) (km:i<=k):qY n J p0 k st:=⟨h.1,λq=>⟨(h.2 q).1,by have:=(h.2 q).2;omega⟩⟩
theorem N3 {n J i:Nat} {p0 st r:cB} (h:qY n J p0 i st) (W:D1 n J st r):qY n J p0 (i+1) r:=by
 refine ⟨W.1,λk=>?_⟩;have a:=h.2 k;have b:=W.2 k;omega
def D2 (n J f:Nat) (rec:Int->cB->Bool×cB):Prop:=∀ j st,0<=j->j<(J:Int)->o8 n J f st->D1 n J st (rec j st).2
theorem N4 {n J f:Nat} {rec:Int->cB->Bool×cB} (nV:D2 n J f rec) {st:cB} (M:HM n J f st) (h:List Int) (aw:h.length<=10) (aC:∀ j∈h,0<=j/\j<(J:Int)):qY n J st 10 (qX rec h st).2:=by
 unfold qX;refine D0 (λi gw=>qY n J st i gw) (λr:Bool×cB=>qY n J st 10 r.2) h st (N1 M.1) (λi U b af=>?_) λb af=>?_
 ·have hm:=aC h[i] (List.getElem_mem U);have ar:=nV h[i] b hm.1 hm.2 (N2 M af (by omega));have:=N3 af ar;unfold pZ;split
  ·grind
  ·rename_i heq;split at heq
   ·cases heq;exact VT this (by omega)
   grind
 ·exact VT af (by omega)
def uL (n J:Nat) (oz:cB) (l:List Int) (i:Nat) (st:cB):Prop:=st.1.length=J/\∀ k,br oz.2 k<=br st.2 k/\br st.2 k+10*(jh n st.2:Int)<=br oz.2 k+10*(jh n oz.2:Int)+(if k∈l.take i then 1 else 0)
theorem VU {l:List Int} (aI:l.Nodup) {i:Nat} (U:i<l.length):l[i] ∉ l.take i:=by
 intro h;obtain ⟨k,ak,e⟩:=List.mem_take_iff_getElem.1 h;have:=(List.getElem_inj aI).1 e;omega
theorem VV {l:List Int} {i:Nat} (U:i<l.length) {k:Int}:k∈l.take (i+1)<->k∈l.take i\/k=l[i]:=by
 rw [List.take_add_one,List.getElem?_eq_getElem U,List.mem_append];simp
theorem HN {n J f:Nat} {oz st:cB} {l:List Int} {i:Nat} (aW:o8 n J (f+1) oz) (h:uL n J oz l i st) (k:Int):0<=br st.2 k/\br st.2 k+10*(jh n st.2:Int)+(f:Int)<=1000:=by
 have a:=aW.2.1 k;have b:=h.2 k;omega
theorem N5 {n J f:Nat} {oz st:cB} {l:List Int} {i:Nat} (aI:l.Nodup) (U:i<l.length) (aW:o8 n J (f+1) oz) (h:uL n J oz l i st) (ar:br st.2 l[i]+1 > 1):uL n J oz l (i+1) (st.1,cC st.2 l[i] (br st.2 l[i]+1)):=by
 refine ⟨h.1,λk=>?_⟩;have hu:jh n (cC st.2 l[i] (br st.2 l[i]+1))=jh n st.2:=by
  unfold jh;refine List.countP_congr λx au=>?_;rw [nU];grind
 have a:=h.2 k;have uk:=VU aI U;simp only [nU,hu,VV U];grind
theorem N6 {n J f:Nat} {oz st:cB} {l:List Int} {i:Nat} (aI:l.Nodup) (U:i<l.length) (W:0<=l[i]/\l[i]<(n:Int)) (aW:o8 n J (f+1) oz) (h:uL n J oz l i st) (ar:¬br st.2 l[i]+1 > 1) :
  HM n J f (st.1,cC st.2 l[i] (br st.2 l[i]+1))/\∀ r,qY n J (st.1,cC st.2 l[i] (br st.2 l[i]+1)) 10 r->uL n J oz l (i+1) r:=by
 have kt:=(HN aW h l[i]).1;have bm:br st.2 l[i]=0:=by omega
 have hu:=N0 (n:=n) (m:=st.2) (v:=br st.2 l[i]+1) W.1 W.2 bm (by omega);have atj:=HL (n:=n) (a:=oz.2) (b:=st.2) λk=>⟨(aW.2.1 k).1,(h.2 k).1⟩
 have uk:=VU aI U;refine ⟨⟨h.1,λk=>?_,?_⟩,λr W=>⟨W.1,λk=>?_⟩⟩
 ·have a:=HN aW h k;have b:=aW.2.1 k;have c:=h.2 k;simp only [nU];omega
 ·have:=aW.2.2;grind
 ·have c:=h.2 k;have d:=W.2 k;simp only [nU] at d;simp only [VV U];grind
theorem ajz {n J f:Nat} {aB:List Int} {rec:Int->cB->Bool×cB} (nV:D2 n J f rec) (yh:J<=10) {dB:Int} {l:List Int} (aw:l.Nodup/\∀ s∈l,0<=s/\s<(n:Int)) {st:cB} (aW:o8 n J (f+1) st):D1 n J st (yg aB rec dB l st).2:=by
 unfold yg;have fin:∀ i gw,uL n J st l i gw->D1 n J st gw:=λi gw h=>⟨h.1,λk=>by have:=h.2 k;omega⟩
 refine D0 (λi gw=>uL n J st l i gw) (λr:Bool×cB=>D1 n J st r.2) l st ⟨aW.1,λk=>⟨Int.le_refl _,by simp⟩⟩ (λi U b af=>?_) λb af=>fin _ _ af;unfold rZ;by_cases M:br b.2 l[i]+1 > 1
 ·simp only [M,decide_true,if_true];exact N5 aw.1 U aW af M
 ·obtain ⟨r0,nx⟩:=N6 aw.1 U (aw.2 _ (List.getElem_mem U)) aW af M;simp only [M,decide_false,Bool.false_eq_true,if_false];by_cases aa:decide (((dy b.1 l[i]).length:Int)<aB.getD l[i].toNat 0)=true
  ·simp only [aa,if_true];have an:=nx _ ⟨r0.1,λk=>⟨Int.le_refl _,by omega⟩⟩;have a8:=fin _ _ an;exact ⟨by simpa using a8.1,a8.2⟩
  ·simp only [aa,Bool.false_eq_true,if_false];have ar:=N4 nV r0 (dy b.1 l[i]) (by have:=HK b.1 l[i];have:=af.1;omega) (λj aC=>by have:=uK.1 aC;have:=af.1;omega);have an:=nx _ ar;by_cases bV:(qX rec (dy b.1 l[i]) (b.1,cC b.2 l[i] (br b.2 l[i]+1))).1=true
   ·simp only [bV,if_true];have a8:=fin _ _ an;exact ⟨by simpa using a8.1,a8.2⟩
   grind
theorem HO {n:Nat} {fit:List (List Int)} {aB:List Int} (hc:s3 n fit aB) (j:Int):(fit.getD j.toNat []).Nodup/\∀ s∈fit.getD j.toNat [],0<=s/\s<(n:Int):=by
 by_cases h:j.toNat<fit.length
 ·have:fit.getD j.toNat []∈fit:=by grind
  exact hc.VS _ this
 grind
theorem AP {n:Nat} {fit:List (List Int)} {aB:List Int} (hc:s3 n fit aB):∀ f,D2 n fit.length f (jQ fit aB f)
 | 0=>λj st _ _ h=>absurd h.2.2 (by omega)
 | f+1=>λj st _ _ h=>ajz (AP hc f) hc.b8 (HO hc j) h
end Go.Fer
namespace Go.Fer
open A (ab)
set_option linter.unusedVariables false
set_option linter.unusedSimpArgs false
def ab.o9 {β aQ eg:Type} (g:aQ->eg):ab β aQ->ab β eg
 | .next b=>.next b
 | .done r=>.done (g r)
def o_ {ao β aQ:Type} (f:ao->β->ab β aQ):List ao->β->ab β aQ
 | [],b=>.next b
 | x::l,b=>match f x b with
  | .next bg=>o_ f l bg
  | .done r=>.done r
def ab.fin {β aQ:Type} (n:β->aQ):ab β aQ->aQ
 | .next b=>n b
 | .done r=>r
theorem wx {ao β aQ:Type} {f:ao->β->ab β aQ} {n:β->aQ}:∀ (l:List ao) (b:β),gO f n l b=ab.fin n (o_ f l b)
 | [],b=>rfl
 | x::l,b=>by
  simp only [gO,o_];cases f x b with
  | next bg=>exact wx l bg
  | done r=>rfl
theorem HP {ao β aQ eg:Type} {f:ao->β->ab β aQ} {g:aQ->eg}:∀ (l:List ao) (b:β),o_ (λx b=>ab.o9 g (f x b)) l b=ab.o9 g (o_ f l b)
 | [],b=>rfl
 | x::l,b=>by
  simp only [o_];cases f x b with
  | next bg=>exact HP l bg
  | done r=>rfl
theorem VW {rec:Int->cB->Bool×cB}:∀ (l:List Int) (st:cB) r,o_ (pZ rec) l st=.done r->r.1=true
 | [],st,r,h=>by cases h
 | j::l,st,r,h=>by
  simp only [o_] at h;cases al:pZ rec j st with
  | next bg=>rw [al] at h;exact VW l bg r h
  | done po=>
   rw [al] at h;cases h;unfold pZ at al;grind
abbrev HQ:=Int×List (List Int)×List Int×List Int×List (Int×Int)×Unit
abbrev VX:=Bool×List (List Int)×List Int×List Int×List (Int×Int)×Unit
def yi (fit:List (List Int)) (aB:List Int) (r:Bool×cB):VX:=(r.1,fit,aB,r.2.1,r.2.2,())
def N7 (f:Nat) (x:HQ):Prop:=∃ n,s3 n x.2.1 x.2.2.1/\0<=x.1/\x.1<(x.2.1.length:Int)/\o8 n x.2.1.length f (x.2.2.2.1,x.2.2.2.2.1)
def s4 (f:Nat) (x:HQ):A VX:=A.eT (N7 f x) (yi x.2.1 x.2.2.1 (jQ x.2.1 x.2.2.1 f x.1 (x.2.2.2.1,x.2.2.2.2.1)))
theorem ajA {n f:Nat} {fit:List (List Int)} {aB:List Int} (hc:s3 n fit aB) {dB:Int} (aC:0<=dB/\dB<(fit.length:Int)) {st:cB} (aW:o8 n fit.length (f+1) st) :
  No AO (s4 f) (dB,fit,aB,st.1,st.2,())=A.pure (yi fit aB (jQ fit aB (f+1) dB st)):=by
 have gW:=hc.b8;have nV:=AP hc f;have aw:=HO hc dB;have ajB:(fit.getD dB.toNat []).length<=10:=by
  have:=DS n _ aw.1 aw.2;have:=hc.VR;omega
 unfold No;simp only [cc,A.bL,A.ba aC,VP];show _=A.pure (yi fit aB (yg aB (jQ fit aB f) dB (fit.getD dB.toNat []) st));generalize fit.getD dB.toNat []=l at aw ajB;rw [A.hT l (λi (b:cB)=>(dB,l,(l.length:Int),(i:Int),fit,aB,b.1,b.2,())) (λs b=>ab.o9 (λr=>.done (yi fit aB r)) (rZ aB (jQ fit aB f) dB s b)) (λb=>.next (fit,aB,b.1,b.2,())) (λi b=>uL n fit.length st l i b) st ?_ ?_ ?_ ?_]
 ·unfold yg;rw [wx,wx,HP];cases o_ (rZ aB (jQ fit aB f) dB) l st<;>(simp only [ab.o9,ab.fin,A.aX,A.bX,A.jf];try rfl)
 ·rfl
 ·exact ⟨aW.1,λk=>⟨Int.le_refl _,by simp⟩⟩
 ·intro i U b af;have aA:=aw.2 _ (List.getElem_mem U);have hn:=bF (n:=(i:Int)+1) (by omega) (by omega);have mS:=HN aW af l[i];have wv:=bF (n:=br b.2 l[i]+1) (by omega) (by omega);have h2:b.1.length<=10:=by have:=af.1;omega
  have JY:br (cC b.2 l[i] (br b.2 l[i]+1)) l[i]=br b.2 l[i]+1:=by rw [nU,if_pos rfl]
  have hA:0<=l[i]/\l[i]<(aB.length:Int):=by rw [hc.sl];exact aA
  have ajC:0<=dB/\dB<(b.1.length:Int):=by rw [af.1];exact aC
  simp only [cc,dn U,if_true,en U,dd U,A.bL,b',wv,JY];by_cases M:br b.2 l[i]+1 > 1
  ·have aL:rZ aB (jQ fit aB f) dB l[i] b=.next (b.1,cC b.2 l[i] (br b.2 l[i]+1)):=by
    unfold rZ;grind
   rw [aL];refine ⟨?_,λbg dq=>?_⟩
   ·simp only [M,decide_true,if_true,A.aX,A.bX,hn];rfl
   ·cases dq;exact N5 aw.1 U aW af M
  ·obtain ⟨r0,nx⟩:=N6 aw.1 U aA aW af M;simp only [M,decide_false,Bool.false_eq_true,if_false];show A.bind (A.bind (AO (l[i],fit,aB,b.1,())) _) _=_/\_;unfold AO;simp only [A.cN,A.ba h2,A.ba hA];by_cases aa:decide (((dy b.1 l[i]).length:Int)<aB.getD l[i].toNat 0)=true
   ·have aL:rZ aB (jQ fit aB f) dB l[i] b=.done (true,(b.1.set dB.toNat l[i],cC b.2 l[i] (br b.2 l[i]+1))):=by
     unfold rZ;grind
    rw [aL];refine ⟨?_,λbg dq=>by cases dq⟩;simp only [aa,if_true,A.ba ajC,A.aX,A.jf];rfl
   ·simp only [aa,Bool.false_eq_true,if_false];have VY:(dy b.1 l[i]).length<=10:=by have:=HK b.1 l[i];omega
    have VZ:∀ j∈dy b.1 l[i],0<=j/\j<(fit.length:Int):=λj gU=>by have:=uK.1 gU;have:=af.1;omega
    have oh:=N4 nV r0 (dy b.1 l[i]) VY VZ;have aL:rZ aB (jQ fit aB f) dB l[i] b=match o_ (pZ (jQ fit aB f)) (dy b.1 l[i]) (b.1,cC b.2 l[i] (br b.2 l[i]+1)) with | .next c=>.next c | .done r=>.done (true,(r.2.1.set dB.toNat l[i],r.2.2)):=by
     unfold rZ qX;simp only [M,decide_false,Bool.false_eq_true,if_false,aa,wx];cases ar:o_ (pZ (jQ fit aB f)) (dy b.1 l[i]) (b.1,cC b.2 l[i] (br b.2 l[i]+1)) with
     | next c=>rfl
     | done r=>
      have:=VW _ _ _ ar;simp only [ab.fin,this,if_true]
    refine ⟨?_,λbg dq=>?_⟩
    ·rw [A.hT (dy b.1 l[i]) (λk (c:cB)=>(dB,l[i],l,(l.length:Int),(i:Int),((dy b.1 l[i]).length:Int),(k:Int),dy b.1 l[i],fit,aB,c.1,c.2,()))
      (λj c=>ab.o9 (λr=>.done (.done (.done (yi fit aB (true,(r.2.1.set dB.toNat l[i],r.2.2)))))) (pZ (jQ fit aB f) j c))
      (λc=>.next (dB,l,(l.length:Int),(i:Int),fit,aB,c.1,c.2,())) (λk c=>qY n fit.length (b.1,cC b.2 l[i] (br b.2 l[i]+1)) k c) (b.1,cC b.2 l[i] (br b.2 l[i]+1)) ?_ ?_ ?_ ?_]
     ·rw [aL,wx,HP];cases o_ (pZ (jQ fit aB f)) (dy b.1 l[i]) (b.1,cC b.2 l[i] (br b.2 l[i]+1)) with
      | next c=>
       simp only [ab.o9,ab.fin,A.aX,A.bX,hn];rfl
      | done r=>
       simp only [ab.o9,ab.fin,A.aX,A.jf];rfl
     ·rfl
     ·exact N1 r0.1
     ·intro k ak c V0;have jy:=bF (n:=(k:Int)+1) (by omega) (by omega);have z_:=VZ _ (List.getElem_mem ak);have lR:=N2 r0 V0 (by omega);have rC:=nV _ c z_.1 z_.2 lR;have atk:=N3 V0 rC;have hh:N7 f ((dy b.1 l[i])[k],fit,aB,c.1,c.2,()):=⟨n,hc,z_.1,z_.2,lR⟩
      have ajD:0<=dB/\dB<((jQ fit aB f (dy b.1 l[i])[k] c).2.1.length:Int):=by rw [rC.1];exact aC
      refine ⟨?_,λbg dq=>?_⟩
      ·simp only [dn ak,if_true,en ak,dd ak,A.bL];show A.bind (s4 f ((dy b.1 l[i])[k],fit,aB,c.1,c.2,())) _=_;unfold s4;simp only [A.cN,A.ba hh,yi];unfold pZ;by_cases W:(jQ fit aB f (dy b.1 l[i])[k] c).1=true
       ·simp only [W,if_true,A.ba ajD,A.aX];rfl
       ·simp only [W,Bool.false_eq_true,if_false,b',jy];rfl
      ·unfold pZ at dq;split at dq
       ·cases dq
       ·cases dq;omega
     simp
    ·have ar:=nx _ oh;rw [aL] at dq;unfold qX at ar;rw [wx] at ar;revert dq ar;cases o_ (pZ (jQ fit aB f)) (dy b.1 l[i]) (b.1,cC b.2 l[i] (br b.2 l[i]+1)) with
     | next c=>intro dq ar;cases dq;exact ar
     | done r=>intro dq;cases dq
 simp
theorem ajE (f:Nat) (x:HQ):A.bz (No AO (s4 f) x) (s4 (f+1) x):=A.bU λh=>by
 obtain ⟨dB,fit,aB,work,asked,u⟩:=x;obtain ⟨n,hc,M,aa,an⟩:=h;exact ajA hc ⟨M,aa⟩ an
theorem ajF (x:HQ):¬(s4 0 x).dU:=λ⟨n,hc,M,aa,an⟩=>absurd an.2.2 (by omega)
end Go.Fer
namespace Go.Fer
open A (ab)
set_option linter.unusedVariables false
set_option linter.unusedSimpArgs false
abbrev uM:aU:=⟨bp,dm,λ_=>True,λx=>decide (0<=x)&&decide (x<=10)⟩
theorem ajG (x):A.bz (Uv cA.sh x) (uM.sh x):=A.bU λ_=>by
 unfold Uv;simp only [aU.sh,A.cN,A.bL]
abbrev uN:aU:=⟨.aG (.st (.aG bp bp)) (.bQ iG),dm,λx=>∃ w,x.2=some w/\fp w,λx=>fN (x.2.getD ([],[],0,[])) x.1.1 x.1.2⟩
theorem ajH (x):A.bz (Uw qO.sh x) (uN.sh x):=A.bU λh=>by
 obtain ⟨n,o⟩:=x;obtain ⟨w,ax,M⟩:=h;change o=some w at ax;subst ax;unfold Uw;simp only [aU.sh,A.cN,Option.getD_some];simp_all
abbrev nW:ai:=.st (.aG bp bp)
abbrev ajI:ai:=.slice nW
def AQ (w:aT) (j:Int×Int):List Int:=((List.range w.1.length).filter λ(i:Nat)=>decide (pX w (i:Int) j.1 j.2=1)).map λ(i:Nat)=>(i:Int)
def jA (w:aT) (bO:List (Int×Int)):List (List Int):=bO.map (AQ w)
def uO (w:aT) (aB:List Int) (bO:List (Int×Int)):List Int:=
 (List.range bO.length).foldl (λwork (j:Nat)=>(jQ (jA w bO) aB 11 (j:Int) (work,[])).2.1) (List.replicate bO.length (-1))
def nl (w:aT) (aB:List Int) (bO:List (Int×Int)):Bool:=
 decide (aB.length=w.1.length)&&aB.all (λn=>decide (0<=n)&&decide (n<=10))&&decide (bO.length<=10)&&bO.all λj=>fN w j.1 j.2
abbrev ajJ:=List (List Int)×List Int×List Int
def yj (w:aT) (aB:List Int) (bO:List (Int×Int)):Option ajJ×Int:=
 if eo w (nl w aB bO)≠0 then (none,eo w (nl w aB bO)) else (some (jA w bO,aB,uO w aB bO),0)
theorem ajK (p:Nat->Bool) (n:Nat):(((List.range n).filter p).map λ(i:Nat)=>(i:Int)).Nodup:=by
 exact List.Pairwise.map _ (λa b (h:a≠b)=>by omega) (List.nodup_range.filter p)
theorem HR {w:aT} {aB:List Int} {bO:List (Int×Int)}:nl w aB bO=true<->aB.length=w.1.length/\(∀ n∈aB,0<=n/\n<=10)/\bO.length<=10/\∀ j∈bO,fN w j.1 j.2=true:=by
 simp only [nl,Bool.and_eq_true,decide_eq_true_eq,List.all_eq_true,and_assoc]
theorem N8 {w:aT} (hw:hU w) {aB:List Int} {bO:List (Int×Int)} (h:nl w aB bO=true):s3 w.1.length (jA w bO) aB:=by
 have ml:=oy hw.2;have aR:=HR.1 h;refine ⟨ml.1,by simp [jA];omega,aR.1,λl aw=>?_⟩;obtain ⟨j,_,rfl⟩:=List.mem_map.1 aw;refine ⟨ajK _ _,λs aA=>?_⟩;simp only [AQ,List.mem_map,List.mem_filter,List.mem_range] at aA;omega
theorem N9 {n J:Nat} {work:List Int} (aI:n<=10) (h:work.length=J):o8 n J 11 (work,[]):=by
 have hu:jh n []<=n:=by
  unfold jh;exact Nat.le_trans List.countP_le_length (by simp)
 have hm:∀ k,br [] k=0:=λk=>rfl;refine ⟨h,λk=>?_,by grind⟩;grind
theorem ajL (w:aT) (aB:List Int) (bO:List (Int×Int)) (h:fp w) (aA:aB.length<2 ^ 63) (aC:bO.length<2 ^ 63) :
  Nd rX.sh AE.sh (gZ bp).sh (gZ nW).sh DZ (s4 11) uN.sh uM.sh (w,aB,bO)=A.pure (yj w aB bO):=by
 unfold Nd;have LN:∀ y∈aB,∃ b,uM.sh y=A.pure b:=λy _=>⟨_,A.eZ trivial _⟩
 have xR:∀ y∈bO,uN.sh (y,some w)=A.pure (fN w y.1 y.2):=λy _=>A.eZ ⟨w,rfl,h⟩ _;have ajM:(gZ bp).pre (aB,uM.sh):=⟨aA,LN⟩
 have z8:(gZ nW).pre (bO,λiF=>uN.sh (iF,some w)):=⟨aC,λy aJ=>⟨_,xR y aJ⟩⟩
 have aK:(gZ bp).g (aB,uM.sh)=aB.all (λn=>decide (0<=n)&&decide (n<=10)):=uI λy _=>A.hS;have bq:(gZ nW).g (bO,λiF=>uN.sh (iF,some w))=bO.all λj=>fN w j.1 j.2:=uI λy aJ=>by simp_all
 show A.bind (cJ _ (A.eT ((gZ bp).pre (aB,uM.sh)) ((gZ bp).g (aB,uM.sh))) _) _=_;rw [A.eZ ajM,aK];simp only [A.sT,A.aX];show A.bind (cJ _ (A.eT ((gZ nW).pre (bO,λiF=>uN.sh (iF,some w))) ((gZ nW).g (bO,λiF=>uN.sh (iF,some w)))) _) _=_;rw [A.eZ z8,bq];simp only [A.sT,A.aX,v'];have af:(decide (Int.ofNat aB.length=Int.ofNat w.1.length)&&aB.all (λn=>decide (0<=n)&&decide (n<=10))&&decide (Int.ofNat bO.length<=10)&&bO.all λj=>fN w j.1 j.2)=nl w aB bO:=by
  unfold nl;grind
 rw [af];have uP:rX.pre (w,nl w aB bO):=h;simp only [aU.sh,A.cN];rw [A.ba (by exact h)];unfold yj;by_cases ak:eo w (nl w aB bO)=0
 ·have hw:=x9 h ak;have ml:=oy hw.2;have ub:=(x8 ak).2.1;have aR:=HR.1 ub;have s5:=N8 hw ub;simp only [Hy ak,ak,ne_eq,not_true,decide_false,Bool.false_eq_true,if_false];have atl:([-1]:List Int)=[-1]/\0<=(bO.length:Int)/\(bO.length:Int)<=10:=⟨rfl,by omega,by omega⟩
  unfold DZ;simp only [cc,A.cN];rw [A.ba (by grind)];simp only [Int.toNat_natCast];rw [A.hT bO (λi (fit:List (List Int))=>(bO,some (w,g8 w),bO,(bO.length:Int),(i:Int),w,aB,fit,List.replicate bO.length (-1),())) (λj fit=>.next (fit++[AQ w j])) (λfit=>.next (bO,aB,fit,List.replicate bO.length (-1),())) (λi fit=>fit.length<=i) [] ?_ ?_ ?_ ?_]
  ·rw [g7,x1];simp only [A.aX,A.bX,List.nil_append];show A.bind (A.loop _ ((bO.length:Int),0,jA w bO,aB,List.replicate bO.length (-1),())) _=_;have yk:(jA w bO).length=bO.length:=by simp [jA]
   rw [A.hT (List.range bO.length) (λi (work:List Int)=>((bO.length:Int),(i:Int),jA w bO,aB,work,())) (λ(j:Nat) work=>.next (jQ (jA w bO) aB 11 (j:Int) (work,[])).2.1) (λwork=>.next (jA w bO,aB,work,())) (λi work=>work.length=bO.length) (List.replicate bO.length (-1)) ?_ ?_ ?_ ?_]
   ·rw [g7];simp only [A.aX,A.bX];rfl
   ·rfl
   ·simp
   ·intro j aC work jy;have aC:j<bO.length:=by grind
    have DR:=bF (n:=(j:Int)+1) (by omega) (by omega);have lR:o8 w.1.length (jA w bO).length 11 (work,[]):=N9 ml.1 (by omega);have hh:N7 11 ((j:Int),jA w bO,aB,work,[],()):=⟨w.1.length,s5,by omega,by grind,lR⟩
    have oh:=AP s5 11 (j:Int) (work,[]) (by omega) (by omega) lR;refine ⟨?_,λbg dq=>?_⟩
    ·unfold s4;simp only [dn aC,if_true,List.getElem_range,A.cN];rw [A.ba (by omega)];simp only [yi,b',DR];rfl
    ·cases dq;rw [List.getElem_range,oh.1,yk]
   simp
  ·rfl
  ·simp
  ·intro i U fit qZ;have hn:=bF (n:=(i:Int)+1) (by omega) (by omega);have dr:=aR.2.2.2 bO[i] (List.getElem_mem U);have ajN:bT (fit.length+(0+1)):=by unfold bT;omega
   refine ⟨?_,λbg dq=>?_⟩
   ·simp only [dn U,if_true,en U,dd U,A.bL];rw [A.hT (List.range w.1.length) (λs (l:List Int)=>(bO,some (w,g8 w),bO,(bO.length:Int),(i:Int),(w.1.length:Int),(s:Int),w,bO[i],l,aB,fit,List.replicate bO.length (-1),())) (λ(s:Nat) l=>.next (if decide (pX w (s:Int) bO[i].1 bO[i].2=1)=true then l++[(s:Int)] else l)) (λl=>.next (bO,some (w,g8 w),bO,(bO.length:Int),(i:Int),w,l,aB,fit,List.replicate bO.length (-1),())) (λs l=>l.length<=s) [] ?_ ?_ ?_ ?_]
    ·rw [g7,DT];simp only [A.aX,A.bX,List.nil_append,ku,A.ba ajN,b',hn];rfl
    ·rfl
    ·simp
    ·intro s aA l aw;have aA:s<w.1.length:=by grind
     have V1:=bF (n:=(s:Int)+1) (by omega) (by omega);have h4:bT (l.length+(0+1)):=by unfold bT;omega
     have ajO:e3 w (s:Int)=true:=lq.2 ⟨by omega,by omega⟩;have ajP:∃ w',Hx (some (w,g8 w)) w'/\e3 w' (s:Int)=true/\fN w' bO[i].1 bO[i].2=true:=⟨w,⟨rfl,hw⟩,ajO,dr⟩
     refine ⟨?_,λbg dq=>?_⟩
     ·simp only [dn aA,if_true,List.getElem_range,A.ba ajP,Option.getD_some];by_cases hc:decide (pX w (s:Int) bO[i].1 bO[i].2=1)=true
      ·simp only [hc,if_true,A.ba h4,A.aX,A.bX,V1,ku,b'];rfl
      ·simp only [hc,Bool.false_eq_true,if_false,A.aX,A.bX,V1,b'];rfl
     grind
    simp
   grind
  simp
 ·simp [Hz ak,ak]
abbrev V2 (x:aT×List Int×List (Int×Int)):Prop:=fp x.1/\x.2.1.length<2 ^ 63/\x.2.2.length<2 ^ 63
abbrev V3:ai:=.aG iG (.aG hl ajI)
abbrev N_:aU:=⟨V3,.aG VO bp,V2,λx=>yj x.1 x.2.1 x.2.2⟩
theorem ajQ (x):A.bz (Nd rX.sh AE.sh (gZ bp).sh (gZ nW).sh DZ (s4 11) uN.sh uM.sh x) (N_.sh x):=A.bU λh=>ajL x.1 x.2.1 x.2.2 h.1 h.2.1 h.2.2
theorem ajR (w:aT) (hw:hU w) {aB:List Int} {bO:List (Int×Int)} (h:nl w aB bO=true):(uO w aB bO).length=bO.length:=by
 have ml:=oy hw.2;have s5:=N8 hw h;have yk:(jA w bO).length=bO.length:=by simp [jA]
 unfold uO;have key:∀ (l:List Nat) (work:List Int),(∀ j∈l,j<bO.length)->work.length=bO.length->(l.foldl (λwork (j:Nat)=>(jQ (jA w bO) aB 11 (j:Int) (work,[])).2.1) work).length=bO.length:=by
  intro l;induction l with
  | nil=>simp
  | cons j l aO=>
   intro work aw jy;have aC:=aw j (by simp);have lR:o8 w.1.length (jA w bO).length 11 (work,[]):=N9 ml.1 (by omega);have oh:=AP s5 11 (j:Int) (work,[]) (by omega) (by omega) lR;exact aO _ (λy aJ=>aw y (List.mem_cons_of_mem _ aJ)) (by rw [oh.1,yk])
 grind
theorem ajS {w:aT} {aB:List Int} {bO:List (Int×Int)} (h:eo w (nl w aB bO)=0):yj w aB bO=(some (jA w bO,aB,uO w aB bO),0):=by simp [yj,h]
theorem ajT {w:aT} {aB:List Int} {bO:List (Int×Int)} (h:eo w (nl w aB bO)≠0):yj w aB bO=(none,eo w (nl w aB bO)):=by simp [yj,h]
def D3 (w:aT) (aB:List Int) (bO:List (Int×Int)):Int×Int:=
 if eo w (nl w aB bO)≠0 then (0,eo w (nl w aB bO)) else ((bO.length:Int) - ((dy (uO w aB bO) (-1)).length:Int),0)
abbrev HS:aU:=⟨V3,.aG bp bp,V2,λx=>D3 x.1 x.2.1 x.2.2⟩
theorem ajU (x):A.bz (Uq N_.sh NZ.sh x) (HS.sh x):=A.bU λh=>by
 obtain ⟨w,aB,bO⟩:=x;have ar:=h;unfold Uq;simp only [aU.sh,A.cN,A.ba ar];unfold D3;by_cases ak:eo w (nl w aB bO)=0
 ·have hw:=x9 h.1 ak;have ub:=(x8 ak).2.1;have aR:=HR.1 ub;have l8:=ajR w hw ub;have VY:=HK (uO w aB bO) (-1);simp only [ajS ak,ak,ne_eq,not_true,decide_false,Bool.false_eq_true,if_false,Option.getD_some,cc];rw [A.ba (by grind)];have ajV:=bF (n:=(bO.length:Int) - ((dy (uO w aB bO) (-1)).length:Int)) (by omega) (by omega);rw [ajV]
 ·simp [ajT ak,ak]
end Go.Fer
namespace Go.Fer
open A (ab)
set_option linter.unusedVariables false
set_option linter.unusedSimpArgs false
def yl (w:aT):Prop:=w.1.length<=2000000/\w.2.1.length<=2000000/\w.2.2.2.length<=2000000/\∀ m∈w.2.1,m.length<=2000000/\∀ s∈m,s.2.1.length<=2000000
theorem yl.mI {w:aT} (h:yl w):fp w:=⟨by have:=h.1;omega,by have:=h.2.1;omega,by have:=h.2.2.1;omega,λm hm=>⟨by have:=(h.2.2.2 m hm).1;omega,λs aA=>by have:=(h.2.2.2 m hm).2 s aA;omega⟩⟩
abbrev N':aU:=⟨iG,iG,yl,λw=>w⟩
theorem ajW (w:aT) (h:yl w):MT w=A.pure w:=by
 obtain ⟨M,aa,an,a8⟩:=h;unfold MT;have b4:bT (0+w.1.length):=by unfold bT;omega
 have ct:bT (0+w.2.2.2.length):=by unfold bT;omega
 simp only [ku,A.ba b4,A.ba ct,List.nil_append];rw [A.hT w.2.1 (λi (bP:List (List (Int×List Int×Int×Int)))=>((i:Int),w,0,w.2.2.1,w.1,w.2.2.2,bP,())) (λm bP=>.next (bP++[m])) (λbP=>.next (0,w.2.2.1,w.1,w.2.2.2,bP,())) (λi bP=>bP.length<=i) [] ?_ ?_ ?_ ?_]
 ·rw [g7,x1 (g:=λm=>m)];simp
 ·rfl
 ·simp
 ·intro i U bP uu;have hm:=a8 w.2.1[i] (List.getElem_mem U);have hn:=bF (n:=(i:Int)+1) (by omega) (by omega);have fc:bT (0+w.2.1[i].length):=by have:=hm.1;unfold bT;omega
  have iM:bT (bP.length+(0+1)):=by unfold bT;omega
  refine ⟨?_,λbg dq=>?_⟩
  ·simp only [cc,dn U,if_true,dd U,A.bL,en U,A.ba fc];rw [A.fv w.2.1[i] (λk (_:Unit)=>((i:Int),(k:Int),w,0,w.2.2.1,w.1,w.2.2.2,w.2.1[i],bP,())) (λs u=>.next u) (λ_=>.next ((i:Int),w,0,w.2.2.1,w.1,w.2.2.2,w.2.1[i],bP,())) () ?_ ?_ ?_]
   ·rw [g7];simp_all
   ·rfl
   ·intro k ak u;have aA:=hm.2 _ (List.getElem_mem ak);have Hk:=hm.1;have jy:=bF (n:=(k:Int)+1) (by omega) (by omega);have l7:bT (0+(w.2.1[i])[k].2.1.length):=by unfold bT;omega
    have sr:(w.2.1[i]).set k ((w.2.1[i])[k].1,(w.2.1[i])[k].2.1,(w.2.1[i])[k].2.2)=w.2.1[i]:=List.set_getElem_self ak;simp_all
   simp
  grind
 simp
theorem ajX (x):A.bz (MT x) (N'.sh x):=A.bU λh=>ajW x h
end Go.Fer
namespace Go.Fer
open A (ab)
set_option linter.unusedVariables false
set_option linter.unusedSimpArgs false
def uQ (m:List (Int×List Int×Int×Int)):Bool:=decide ((m.length:Int) > 20)||m.any λs=>decide ((s.2.1.length:Int) > 20)
def wy (w:aT):Bool:=
 if (decide ((w.1.length:Int) > 40)||decide ((w.2.1.length:Int) > 40)||decide ((w.2.2.2.length:Int) > 60))=true then true
 else if w.2.1.any uQ=true then true
 else if eH w≠0 then false
 else if (w.1.any λs=>decide (IntKind.i64.wrap (s.2.2.2 - s.2.2.1)>=50))=true then true
 else decide ((w.1.length:Int) > 6)||decide ((w.2.1.length:Int) > 4)||decide ((w.2.2.2.length:Int) > 10)
theorem ajY {w:aT} (h:wy w=false):yl w:=by
 unfold wy at h;split at h
 ·cases h
 ·rename_i M;split at h
  ·cases h
  ·rename_i aa;simp only [Bool.or_eq_true,decide_eq_true_eq,not_or] at M;refine ⟨by omega,by omega,by omega,λm hm=>?_⟩;have ax:uQ m=false:=by
    grind
   unfold uQ at ax;grind
abbrev Oa:aU:=⟨iG,dm,fp,wy⟩
theorem ajZ (w:aT) (h:fp w):Np mT.sh w=A.pure (wy w):=by
 unfold Np wy;simp only [cc];by_cases M:(decide ((w.1.length:Int) > 40)||decide ((w.2.1.length:Int) > 40)||decide ((w.2.2.2.length:Int) > 60))=true
 ·grind
 ·rw [if_neg M,if_neg M];have aw:=h;obtain ⟨db,dR,lK,lU⟩:=h;rw [A.fv w.2.1 (λi (_:Unit)=>((i:Int),w,())) (λm u=>if uQ m=true then .done (.done true) else .next u) (λ_=>.next (w,())) () ?_ ?_ ?_]
  ·rw [uA];by_cases aa:w.2.1.any uQ=true
   ·simp only [aa,if_true,A.aX,A.jf]
   ·simp only [aa,Bool.false_eq_true,if_false,A.aX,A.bX,aU.sh,A.cN,A.ba aw];by_cases an:eH w=0
    ·simp only [an,ne_eq,not_true,decide_false,Bool.false_eq_true,if_false];rw [A.fv w.1 (λi (_:Unit)=>((i:Int),w,())) (λs u=>if decide (IntKind.i64.wrap (s.2.2.2 - s.2.2.1)>=50)=true then .done (.done true) else .next u) (λ_=>.next (w,())) () ?_ ?_ ?_]
     ·rw [uA];by_cases a8:(w.1.any λs=>decide (IntKind.i64.wrap (s.2.2.2 - s.2.2.1)>=50))=true
      ·simp_all
      ·simp only [a8,Bool.false_eq_true,if_false,A.aX,A.bX]
     ·rfl
     ·intro i U u;have hn:=bF (n:=(i:Int)+1) (by omega) (by omega);simp only [cc,dn U,if_true,dd U,A.bL,en U,A.aX,b',hn];exact nO (mk:=λ_:Unit=>((i:Int)+1,w,()))
     simp
    grind
  ·rfl
  ·intro i U u;have hn:=bF (n:=(i:Int)+1) (by omega) (by omega);have hm:=lU _ (List.getElem_mem U);simp only [cc,dn U,if_true,dd U,A.bL,en U,A.aX];by_cases bV:decide ((w.2.1[i].length:Int) > 20)=true
   ·have ax:uQ w.2.1[i]=true:=by unfold uQ;grind
    simp_all
   ·have ax:uQ w.2.1[i]=w.2.1[i].any λs=>decide ((s.2.1.length:Int) > 20):=by unfold uQ;grind
    rw [if_neg bV];rw [A.fv w.2.1[i] (λk (_:Unit)=>((i:Int),(k:Int),w,())) (λs u=>if decide ((s.2.1.length:Int) > 20)=true then .done (.done (.done (.done true))) else .next u) (λ_=>.next ((i:Int),w,())) () ?_ ?_ ?_]
    ·rw [uA,ax];by_cases d_:(w.2.1[i].any λs=>decide ((s.2.1.length:Int) > 20))=true
     ·simp_all
     ·simp only [d_,Bool.false_eq_true,if_false,A.aX,A.bX,b',hn];rfl
    ·rfl
    ·intro k ak u;have jy:=bF (n:=(k:Int)+1) (by omega) (by omega);simp only [dd U,A.bL,en U,dn ak,if_true,dd ak,en ak,A.aX,b',jy];exact nO (mk:=λ_:Unit=>((i:Int),(k:Int)+1,w,()))
    simp_all
  simp
theorem aj0 (x):A.bz (Np mT.sh x) (Oa.sh x):=A.bU λh=>ajZ x h
def ym:aT:=([(1,2,300,310),(1,3,305,305),(2,1,50,60),(1,2,320,330)],[[(1,[2,3],300,306),(2,[1],40,58)],[(1,[2],310,326)]],5,[(0,1,0,0)])
abbrev s6:aU:=⟨.da,iG,λ_=>True,λ_=>ym⟩
theorem aj1 (x):A.bz (ag9 x) (s6.sh x):=A.bU λ_=>rfl
theorem V4:fp ym:=by
 refine ⟨by decide,by decide,by decide,?_⟩;intro m hm;simp only [ym,List.mem_cons,List.not_mem_nil,or_false] at hm;grind
theorem aj2:DV ym=(3,0):=by decide +kernel
end Go.Fer
namespace Go.Fer
open A (ab)
set_option linter.unusedVariables false
set_option linter.unusedSimpArgs false
abbrev s7:ai:=.st (.aG bp (.aG bp (.aG bp (.aG bp hl))))
abbrev uR:ai:=.st (.aG hl (.aG rR (.aG bp (.aG bp bp))))
abbrev yn:ai:=.st (.aG bp (.aG bp bp))
abbrev nX:ai:=.st (.aG iG (.aG hl (.aG (.slice s7) (.aG (.slice uR) (.aG (.slice yn) bp)))))
def gH (s:a3):Prop:=fp s.1/\s.2.1.length<2 ^ 63/\s.2.2.1.length<2 ^ 63/\s.2.2.2.1.length<2 ^ 63/\s.2.2.2.2.1.length<2 ^ 63/\(∀ p∈s.2.2.1,p.2.2.2.2.length<2 ^ 63)/\∀ x∈s.2.2.2.1,x.1.length<2 ^ 63
def c5 (n a4 U:Int):Bool:=decide (a4<=n)&&decide (n<=U)
def kz (n:Int):Bool:=c5 n 0 99
def kA (p:Int->Bool) (l:List Int):Bool:=(List.range l.length).all λi=>p (l.getD i 0)&&!(decide (0<i)&&decide (l.getD i 0<=l.getD (i - 1) 0))
def D4 (w:aT) (m:Int) (n:Int):Bool:=decide (0<=n)&&decide (n<((ff w m).length:Int))
def p1 (w:aT) (p:eu):Bool:=kz p.1&&kz p.2.1&&kz p.2.2.1&&kb w p.2.2.2.1&&kA (D4 w p.2.2.2.1) p.2.2.2.2
def p2 (x:e2):Bool:=c5 (x.1.length:Int) 1 8&&kA kz x.1&&kz x.2.1.1&&kz x.2.1.2&&decide (x.2.1.1<=x.2.1.2)&&kz x.2.2.1&&kz x.2.2.2.1&&c5 x.2.2.2.2 0 100000
def nm (w:aT) (d:e_):Bool:=kz d.1&&e3 w d.2.1&&c5 d.2.2 1 10
def o' (s:a3):Bool:=decide ((s.2.1.length:Int)=(s.1.1.length:Int))&&(s.2.1.all λn=>c5 n 0 10)&&decide ((s.2.2.1.length:Int)<=8)&&s.2.2.1.all (p1 s.1)&&decide ((s.2.2.2.1.length:Int)<=6)&&s.2.2.2.1.all p2&&decide ((s.2.2.2.2.1.length:Int)<=8)&&s.2.2.2.2.1.all (nm s.1)&&kz s.2.2.2.2.2
def kc (s:a3):Int:=if eH s.1≠0 then eH s.1 else if o' s=true then 0 else 80
theorem aj3 (x):A.bz (ahw x) (cA.sh x):=A.bU λ_=>rfl
theorem aj4 (x):A.bz (ahr x) (cA.sh x):=A.bU λ_=>rfl
abbrev r1:aU:=⟨bp,dm,λ_=>True,kz⟩
theorem aj5 (x):A.bz (UY cA.sh x) (r1.sh x):=A.bU λ_=>by
 unfold UY;simp [aU.sh,cA,kz,c5]
theorem aj6 (x):A.bz (U2 cA.sh x) (r1.sh x):=A.bU λ_=>by
 unfold U2;simp [aU.sh,cA,kz,c5]
abbrev HT:aU:=⟨.aG hl (.fn bp .bool),dm,λx=>x.1.length<2 ^ 63/\∀ y∈x.1,∃ b,x.2 y=A.pure b,λx=>kA (λy=>(x.2 y).val false) x.1⟩
theorem aj7 (x):A.bz (UZ x) (HT.sh x):=A.bU λh=>by
 obtain ⟨l,f⟩:=x;obtain ⟨M,aa⟩:=h;change l.length<2 ^ 63 at M;change ∀ y∈l,∃ b,f y=A.pure b at aa;unfold UZ;rw [A.fv (List.range l.length) (λi (_:Unit)=>(l,f,l,(l.length:Int),(i:Int),())) (λi b=>if (!((f (l.getD i 0)).val false&&!(decide (0<i)&&decide (l.getD i 0<=l.getD (i - 1) 0))))=true then .done (.done false) else .next b) (λ_=>.next ()) () ?_ ?_ ?_]
 ·rw [lS (q:=λi=>(f (l.getD i 0)).val false&&!(decide (0<i)&&decide (l.getD i 0<=l.getD (i - 1) 0))) _ _ (λ_=>rfl)];show _=A.pure (kA (λy=>(f y).val false) l);unfold kA;cases (List.range l.length).all λi=>(f (l.getD i 0)).val false&&!(decide (0<i)&&decide (l.getD i 0<=l.getD (i - 1) 0))<;>simp
 ·rfl
 ·intro i U b;have U:i<l.length:=by grind
  have hw:=bF (n:=(i:Int)+1) (by omega) (by omega);have kT:=bF (n:=(i:Int) - 1) (by omega) (by omega);have bq:((i:Int) - 1).toNat=i - 1:=by omega
  obtain ⟨c,hc⟩:=aa _ (List.getElem_mem U);have ke:l.getD i 0=l[i]:=by grind
  have D5:(decide ((i:Int) > 0))=decide (0<i):=by simp
  simp only [cc,dn U,if_true,List.getElem_range,en U,dd U,A.bL,ke,hc,A.nN,A.aX,b',hw,kT,bq,D5];rw [A.ba (by grind)];cases c<;>cases (decide (0<i)&&decide (l[i]<=l.getD (i - 1) 0))<;>rfl
 simp
abbrev HU:aU:=⟨.aG hl bp,dm,λx=>x.1.length<2 ^ 63,λx=>kA (λn=>c5 n 0 x.2) x.1⟩
theorem aj8 (x):A.bz (U5 x) (HU.sh x):=A.bU λh=>by
 obtain ⟨l,m⟩:=x;change l.length<2 ^ 63 at h;unfold U5;rw [A.fv (List.range l.length) (λi (_:Unit)=>(l,m,(i:Int),())) (λi b=>if (!(c5 (l.getD i 0) 0 m&&!(decide (0<i)&&decide (l.getD i 0<=l.getD (i - 1) 0))))=true then .done (.done false) else .next b) (λ_=>.next ()) () ?_ ?_ ?_]
 ·rw [lS (q:=λi=>c5 (l.getD i 0) 0 m&&!(decide (0<i)&&decide (l.getD i 0<=l.getD (i - 1) 0))) _ _ (λ_=>rfl)];show _=A.pure (kA (λn=>c5 n 0 m) l);unfold kA;cases (List.range l.length).all λi=>c5 (l.getD i 0) 0 m&&!(decide (0<i)&&decide (l.getD i 0<=l.getD (i - 1) 0))<;>simp
 ·rfl
 ·intro i U b;have U:i<l.length:=by grind
  have hw:=bF (n:=(i:Int)+1) (by omega) (by omega);have kT:=bF (n:=(i:Int) - 1) (by omega) (by omega);have bq:((i:Int) - 1).toNat=i - 1:=by omega
  have ke:l.getD i 0=l[i]:=by grind
  have D5:(decide ((i:Int) > 0))=decide (0<i):=by simp
  simp only [cc,dn U,if_true,List.getElem_range,en U,dd U,A.bL,ke,A.aX,b',hw,kT,bq,D5];have sS:0<i->(0:Int)<=(i:Int) - 1/\(i:Int) - 1<(l.length:Int):=by omega
  generalize l.getD (i - 1) 0=B;generalize l[i]=aM;by_cases jq:aM<0<;>by_cases tU:aM > m<;>by_cases aW:0<i<;>by_cases a6:aM<=B<;>simp_all [c5,ab.h',A.ba]<;>(grind)<;>(grind)
 simp
end Go.Fer
namespace Go.Fer
open A (ab)
set_option linter.unusedVariables false
set_option linter.unusedSimpArgs false
theorem Ob {p q:Int->Bool} {l:List Int} (h:∀ y∈l,p y=q y):kA p l=kA q l:=by
 unfold kA;grind
theorem aj9 (n:Int) (k:Nat):c5 n 0 ((k:Int) - 1)=(decide (0<=n)&&decide (n<(k:Int))):=by
 unfold c5;grind
theorem aj_ (a b:Int):decide (a > b)=!decide (a<=b):=by grind
abbrev D6:aU:=⟨.aG bp (.aG (.bQ iG) (.bQ s7)),dm,λx=>∃ w p,x.2=(some w,some p)/\fp w/\kb w p.2.2.2.1=true,λx=>D4 (x.2.1.getD ([],[],0,[])) (x.2.2.getD (0,0,0,0,[])).2.2.2.1 x.1⟩
theorem aj' (x):A.bz (U0 cA.sh x) (D6.sh x):=A.bU λh=>by
 obtain ⟨n,o⟩:=x;obtain ⟨w,p,ax,hw,hm⟩:=h;change o=_ at ax;subst ax;unfold U0;have r:=uE.1 hm;have aw:=Hj hw p.2.2.2.1;have gx:=bF (n:=((ff w p.2.2.2.1).length:Int) - 1) (by omega) (by omega);unfold ff at gx;simp only [aU.sh,cA,Option.getD_some,cc,r,and_self,A.bL,gx,A.cN,rS];rfl
abbrev D7:aU:=⟨.aG s7 (.bQ iG),dm,λx=>x.1.2.2.2.2.length<2 ^ 63/\∃ w,x.2=some w/\fp w,λx=>!p1 (x.2.getD ([],[],0,[])) x.1⟩
theorem aka (x):A.bz (UX cA.sh r1.sh HT.sh D6.sh x) (D7.sh x):=A.bU λh=>by
 obtain ⟨p,o⟩:=x;obtain ⟨ar,w,ax,hw⟩:=h;change o=_ at ax;change p.2.2.2.2.length<2 ^ 63 at ar;subst ax;unfold UX;have aw:=hw.2.1;have gx:=bF (n:=((w.2.1.length:Int)) - 1) (by omega) (by omega);have aK:(decide (0<=p.2.2.2.1)&&decide (p.2.2.2.1<(w.2.1.length:Int)))=kb w p.2.2.2.1:=rfl;simp only [aU.sh,cA,Option.getD_some,cc,A.bL,gx,A.cN,A.je,rS,implies_true,qL,aK];have key:kb w p.2.2.2.1=true->(kA (λy=>(A.eT (D6.pre (y,some w,some p)) (D6.g (y,some w,some p))).val false) p.2.2.2.2)=kA (D4 w p.2.2.2.1) p.2.2.2.2:=λhm=>Ob λy aJ=>A.hS;rw [A.ba]
 ·show A.pure _=A.pure _;congr 1;show _=!p1 w p;unfold p1;simp
 ·intro du;have hm:kb w p.2.2.2.1=true:=by
   grind
  exact ⟨ar,λy aJ=>⟨_,A.eZ ⟨w,p,rfl,hw,hm⟩ _⟩⟩
abbrev D8:aU:=⟨uR,dm,λx=>x.1.length<2 ^ 63,λx=>!p2 x⟩
theorem akb (x):A.bz (U1 cA.sh r1.sh HT.sh r1.sh x) (D8.sh x):=A.bU λh=>by
 unfold U1;have key:(kA (λy=>(A.eT (r1.pre y) (r1.g y)).val false) x.1)=kA kz x.1:=Ob λy aJ=>A.hS;simp only [aU.sh,cA,cc,A.bL,A.cN,A.je,implies_true,qL];rw [A.ba]
 ·show A.pure _=A.pure (!p2 x);congr 1;unfold p2;rw [key];have e:decide (x.2.1.1 > x.2.1.2)=!decide (x.2.1.1<=x.2.1.2):=by grind
  rw [e];show _=!(c5 (x.1.length:Int) 1 8&&_&&_&&_&&_&&_&&_&&_);unfold c5;simp
 ·exact λ_=>⟨h,λy aJ=>⟨_,A.eZ trivial _⟩⟩
abbrev D9:aU:=⟨.aG yn (.bQ iG),dm,λx=>∃ w,x.2=some w/\fp w,λx=>!nm (x.2.getD ([],[],0,[])) x.1⟩
theorem akc (x):A.bz (U3 cA.sh r1.sh x) (D9.sh x):=A.bU λh=>by
 obtain ⟨d,o⟩:=x;obtain ⟨w,ax,hw⟩:=h;change o=_ at ax;subst ax;unfold U3;have aw:=hw.1;have gx:=bF (n:=((w.1.length:Int)) - 1) (by omega) (by omega);simp only [aU.sh,cA,Option.getD_some,cc,A.bL,gx,A.cN,A.je,rS,implies_true,qL];show A.pure _=A.pure (!nm w d);congr 1;unfold nm e3 c5;simp
abbrev D_:aU:=⟨bp,dm,λ_=>True,λn=>!c5 n 0 10⟩
theorem akd (x):A.bz (U4 cA.sh x) (D_.sh x):=A.bU λ_=>by
 unfold U4;simp [aU.sh,cA,c5]
theorem HV {ao:Type} {p q:ao->Bool} {l:List ao} (h:∀ x∈l,p x=!q x):l.any p=!l.all q:=by
 grind
abbrev Oc:aU:=⟨nX,dm,gH,o'⟩
theorem ake (x):A.bz (UP r1.sh (jz bp).sh (jz s7).sh (jz uR).sh (jz yn).sh D7.sh D9.sh D8.sh D_.sh x) (Oc.sh x):=A.bU λh=>by
 obtain ⟨M,aa,an,a8,bV,d_,hL⟩:=h;unfold UP;simp only [aU.sh,cc,A.bL,A.cN,A.je,implies_true];have aS:(x.2.1.any λy=>(A.eT (D_.pre y) (D_.g y)).val false)=!x.2.1.all λn=>c5 n 0 10:=HV λy _=>A.hS;have aY:(x.2.2.1.any λy=>(A.eT (D7.pre (y,some x.1)) (D7.g (y,some x.1))).val false)=!x.2.2.1.all (p1 x.1):=HV λy _=>A.hS;have bK:(x.2.2.2.1.any λy=>(A.eT (D8.pre y) (D8.g y)).val false)=!x.2.2.2.1.all p2:=HV λy _=>A.hS;have fe:(x.2.2.2.2.1.any λy=>(A.eT (D9.pre (y,some x.1)) (D9.g (y,some x.1))).val false)=!x.2.2.2.2.1.all (nm x.1):=HV λy _=>A.hS;rw [A.ba,A.ba,A.ba,A.ba]
 ·show A.pure _=A.pure (o' x);congr 1;unfold o';grind
 ·exact λ_=>⟨bV,λy aJ=>⟨_,A.eZ ⟨_,rfl,M⟩ _⟩⟩
 ·exact λ_=>⟨a8,λy aJ=>⟨_,A.eZ (hL y aJ) _⟩⟩
 ·exact λ_=>⟨an,λy aJ=>⟨_,A.eZ ⟨d_ y aJ,_,rfl,M⟩ _⟩⟩
 ·exact λ_=>⟨aa,λy aJ=>⟨_,A.eZ trivial _⟩⟩
abbrev uS:aU:=⟨nX,bp,gH,kc⟩
theorem akf (x):A.bz (UI mT.sh Oc.sh x) (uS.sh x):=A.bU λh=>by
 unfold UI;simp only [aU.sh,A.cN,A.ba h.1];show _=A.pure (kc x);unfold kc;by_cases hc:eH x.1=0
 ·simp only [hc,ne_eq,not_true,decide_false,Bool.false_eq_true,if_false,A.ba h];grind
 grind
abbrev HW:aU:=⟨.aG nX s7,dm,λx=>gH x.1/\x.2.2.2.2.2.length<2 ^ 63,λx=>p1 x.1.1 x.2⟩
theorem akg (x):A.bz (UQ cA.sh HU.sh x) (HW.sh x):=A.bU λh=>by
 obtain ⟨s,p⟩:=x;obtain ⟨aA,ar⟩:=h;change gH s at aA;change p.2.2.2.2.length<2 ^ 63 at ar;unfold UQ;have aw:=aA.1.2.1;have h3:=Hj aA.1 p.2.2.2.1;have gx:=bF (n:=((s.1.2.1.length:Int)) - 1) (by omega) (by omega);have x7:=bF (n:=((ff s.1 p.2.2.2.1).length:Int) - 1) (by omega) (by omega);unfold ff at x7;have aK:(decide (0<=p.2.2.2.1)&&decide (p.2.2.2.1<(s.1.2.1.length:Int)))=kb s.1 p.2.2.2.1:=rfl;simp only [aU.sh,cA,cc,A.bL,gx,x7,A.cN,A.je,rS,implies_true,qL,aK,A.mg,A.hS];show _=A.pure (p1 s.1 p);unfold p1;have Ea:kA (λn=>c5 n 0 (((List.getD s.1.2.1 (Int.toNat p.2.2.2.1) []).length:Int) - 1)) p.2.2.2.2=kA (D4 s.1 p.2.2.2.1) p.2.2.2.2:=Ob λy _=>aj9 y _;rw [Ea];cases hm:kb s.1 p.2.2.2.1
 ·simp
 ·have r:=uE.1 hm;rw [A.ba r,A.ba (by exact ar)];unfold kz c5;grind
abbrev HX:aU:=⟨uR,dm,λx=>x.1.length<2 ^ 63,p2⟩
theorem akh (x):A.bz (UR cA.sh HU.sh x) (HX.sh x):=A.bU λh=>by
 unfold UR;simp only [aU.sh,cA,cc,A.bL,A.cN,A.je,implies_true];rw [A.ba (by omega)];show A.pure _=A.pure (p2 x);congr 1;unfold p2;have Ea:kA (λn=>c5 n 0 99) x.1=kA kz x.1:=rfl;rw [Ea];unfold kz c5;grind
theorem aki (x):A.bz (UJ mT.sh cA.sh HW.sh HX.sh x) (uS.sh x):=A.bU λh=>by
 have aA:=h;obtain ⟨M,aa,an,a8,bV,d_,hL⟩:=h;unfold UJ;simp only [aU.sh,A.cN,A.ba M];show _=A.pure (kc x);unfold kc;by_cases hc:eH x.1=0
 ·simp only [hc,ne_eq,not_true,decide_false,Bool.false_eq_true,if_false,cA,A.je,A.cN,implies_true,A.bL,cc,qL,decide_not];have e:(!decide ((x.2.1.length:Int)=(x.1.1.length:Int))||decide ((x.2.2.1.length:Int) > 8)||decide ((x.2.2.2.1.length:Int) > 6)||decide ((x.2.2.2.2.1.length:Int) > 8)||!(decide (0<=x.2.2.2.2.2)&&decide (x.2.2.2.2.2<=99)))=!(decide ((x.2.1.length:Int)=(x.1.1.length:Int))&&decide ((x.2.2.1.length:Int)<=8)&&decide ((x.2.2.2.1.length:Int)<=6)&&decide ((x.2.2.2.2.1.length:Int)<=8)&&kz x.2.2.2.2.2):=by
   simp only [aj_,kz,c5,Bool.not_and]
  rw [e];by_cases du:(decide ((x.2.1.length:Int)=(x.1.1.length:Int))&&decide ((x.2.2.1.length:Int)<=8)&&decide ((x.2.2.2.1.length:Int)<=6)&&decide ((x.2.2.2.2.1.length:Int)<=8)&&kz x.2.2.2.2.2)=true
  ·rw [if_neg (by grind)]
   ·rw [A.fv x.2.1 (λi (_:Unit)=>((i:Int),x,())) (λn b=>if (!c5 n 0 10)=true then .done (.done (80:Int)) else .next b) (λ_=>.next (x,())) () ?_ ?_ ?_]
    ·rw [lS (q:=λn=>c5 n 0 10) _ _ (λ_=>rfl)];cases jq:x.2.1.all λn=>c5 n 0 10 with
     | false=>simp [o',jq]
     | true=>
      simp only [A.aX,if_true,A.bX];rw [A.fv x.2.2.1 (λi (_:Unit)=>((i:Int),x,())) (λp b=>if (!p1 x.1 p)=true then .done (.done (80:Int)) else .next b) (λ_=>.next (x,())) () ?_ ?_ ?_]
      ·rw [lS (q:=p1 x.1) _ _ (λ_=>rfl)];cases a6:x.2.2.1.all (p1 x.1) with
       | false=>simp [o',a6]
       | true=>
        simp only [A.aX,if_true,A.bX];rw [A.fv x.2.2.2.1 (λi (_:Unit)=>((i:Int),x,())) (λp b=>if (!p2 p)=true then .done (.done (80:Int)) else .next b) (λ_=>.next (x,())) () ?_ ?_ ?_]
        ·rw [lS (q:=p2) _ _ (λ_=>rfl)];cases fO:x.2.2.2.1.all p2 with
         | false=>simp [o',fO]
         | true=>
          simp only [A.aX,if_true,A.bX];rw [A.fv x.2.2.2.2.1 (λi (_:Unit)=>((i:Int),x,())) (λp b=>if (!nm x.1 p)=true then .done (.done (80:Int)) else .next b) (λ_=>.next ()) () ?_ ?_ ?_]
          ·rw [lS (q:=nm x.1) _ _ (λ_=>rfl)];simp only [Bool.and_eq_true] at du;cases pW:x.2.2.2.2.1.all (nm x.1)<;>simp [o',jq,a6,fO,pW,du]
          ·rfl
          ·intro i U b;have hw:=bF (n:=(i:Int)+1) (by omega) (by omega);have aw:=M.1;have gx:=bF (n:=((x.1.1.length:Int)) - 1) (by omega) (by omega);simp only [cc,dn U,if_true,en U,dd U,A.bL,A.aX,b',hw,gx,qL,rS];have e:(!(decide (0<=(x.2.2.2.2.1[i]).1)&&decide ((x.2.2.2.2.1[i]).1<=99))||!(decide (0<=(x.2.2.2.2.1[i]).2.1)&&decide ((x.2.2.2.2.1[i]).2.1<(x.1.1.length:Int)))||!(decide (1<=(x.2.2.2.2.1[i]).2.2)&&decide ((x.2.2.2.2.1[i]).2.2<=10)))=!nm x.1 x.2.2.2.2.1[i]:=by
            unfold nm kz e3 c5;simp
           rw [e];exact nO (mk:=λ_:Unit=>((i:Int)+1,x,()))
          simp
        ·rfl
        ·intro i U b;have hw:=bF (n:=(i:Int)+1) (by omega) (by omega);simp only [cc,dn U,if_true,en U,dd U,A.bL,A.aX,b',hw,A.ba (show HX.pre x.2.2.2.1[i] from hL _ (List.getElem_mem U))];exact nO (mk:=λ_:Unit=>((i:Int)+1,x,()))
        simp
      ·rfl
      ·intro i U b;have hw:=bF (n:=(i:Int)+1) (by omega) (by omega);simp only [cc,dn U,if_true,en U,dd U,A.bL,A.aX,b',hw,A.mg,A.hS,A.ba (show HW.pre (x,x.2.2.1[i]) from ⟨aA,d_ _ (List.getElem_mem U)⟩)];exact nO (mk:=λ_:Unit=>((i:Int)+1,x,()))
      simp
    ·rfl
    ·intro i U b;have hw:=bF (n:=(i:Int)+1) (by omega) (by omega);simp only [cc,dn U,if_true,en U,dd U,A.bL,A.aX,b',hw];exact nO (mk:=λ_:Unit=>((i:Int)+1,x,()))
    simp
  ·rw [if_pos (by grind)]
   ·have:o' x=false:=by
     unfold o';grind
    grind
 grind
end Go.Fer
namespace Go.Fer
open A (ab)
set_option linter.unusedVariables false
set_option linter.unusedSimpArgs false
theorem akj:HJ 201=true:=by decide +kernel
abbrev r2:aU:=⟨.aG (.int .u64) (.int .u64),.aG (.int .u64) (.int .u64),λx=>x.1=1/\0<=x.2/\x.2<=200,λx=>(0,x.2)⟩
theorem akk (x):A.bz (Up x) (r2.sh x):=A.bU λh=>by
 obtain ⟨a,b⟩:=x;obtain ⟨M,aa,an⟩:=h;change a=1 at M;change 0<=b at aa;change b<=200 at an;subst M;have aW:=VN 201 b.toNat akj (by omega);rw [Int.toNat_of_nonneg aa] at aW;have hw:=AF (n:=1*b) (by omega) (by omega);have akl:((0:Int)<=32)=True:=by simp
 unfold Up;simp only [akl,A.bL];show A.pure (NY (1,b),IntKind.wrap .u64 (1*b))=_;grind
theorem akm (akn) (x):A.bz (Un akn r2.sh x) (r2.sh x):=A.bU λh=>by
 unfold Un;simp only [aU.sh,A.cN];simp_all
section
variable {ao β:Type}
theorem ako (a d:ao) (m J:Nat) (M:1<=m) (aa:m<J) :
  List.take m (List.replicate m a++List.replicate (J - m) d)++List.take (J - m) (List.take m (List.replicate m a++List.replicate (J - m) d))++
   List.drop (m+(List.take (J - m) (List.take m (List.replicate m a++List.replicate (J - m) d))).length) (List.replicate m a++List.replicate (J - m) d)
  =List.replicate (m+min (J - m) m) a++List.replicate (J - (m+min (J - m) m)) d:=by
 have aK:List.take m (List.replicate m a++List.replicate (J - m) d)=List.replicate m a:=by
  simp
 rw [aK,List.take_replicate,List.replicate_append_replicate,List.length_replicate,List.drop_append,List.length_replicate];have bq:List.drop (m+min (J - m) m) (List.replicate m a)=[]:=by simp
 grind
def V5 (d:ao) (fin:List ao->A β) (uC:Int×Int->A (Int×Int)) (x:List ao) (n:Int):A β:=
 A.bind (if decide (n<0)=true then A.ah False (A.ah False (A.pure (ab.next (x,n,())))) else A.pure (ab.next (x,n,())))
 (ab.bx λ(G:List ao×Int×Unit)=>A.bind (uC (IntKind.wrap .u64 (Int.ofNat (List.length G.1)),IntKind.wrap .u64 G.2.1)) λy
 =>A.bind (if (decide (y.1 > 0)||decide (y.2 > 9223372036854775807))=true then A.ah False (A.ah False (A.pure (ab.next (G.1,y.2,())))) else
 A.pure (ab.next (G.1,y.2,()))) (ab.bx λ(G:List ao×Int×Unit)=>A.ah (0<=IntKind.wrap .i64 G.2.1/\IntKind.wrap .i64 G.2.1=
 IntKind.wrap .i64 G.2.1/\bT (Int.toNat (IntKind.wrap .i64 G.2.1))) (A.ah True (A.bind (A.loop (λ(G:Int×List ao×Unit)=>if decide (G.1
 < Int.ofNat (List.length G.2.1))=true then A.ah (0<=G.1/\G.1<=Int.ofNat (List.length G.2.1)/\Int.ofNat (List.length G.2.1)<=Int.ofNat
 (List.length G.2.1)) (A.ah ((0:Int)<=0/\0<=G.1/\G.1<=Int.ofNat (List.length G.2.1)) (A.ah True (A.pure (ab.next (IntKind.wrap .i64
 (Add.add G.1 (Int.ofNat (if Int.toNat (Int.ofNat (List.length G.2.1)) - Int.toNat G.1<=List.length (List.take (Int.toNat G.1) G.2.1) then Int.toNat
 (Int.ofNat (List.length G.2.1)) - Int.toNat G.1 else List.length (List.take (Int.toNat G.1) G.2.1)))),List.take (Int.toNat G.1) G.2.1++List.take
 (Int.toNat (Int.ofNat (List.length G.2.1)) - Int.toNat G.1) (List.take (Int.toNat G.1) G.2.1)++List.drop (Add.add (Int.toNat G.1) (List.length
 (List.take (Int.toNat (Int.ofNat (List.length G.2.1)) - Int.toNat G.1) (List.take (Int.toNat G.1) G.2.1)))) G.2.1,()))))) else A.bind (A.pure
 (ab.next (G.2.1,()))) λr=>A.pure (ab.done r)) (Int.ofNat (if List.length (List.replicate (Int.toNat (IntKind.wrap .i64 G.2.1)) d) - 0<=
 List.length G.1 then List.length (List.replicate (Int.toNat (IntKind.wrap .i64 G.2.1)) d) - 0 else List.length G.1),[]++List.take (List.length
 (List.replicate (Int.toNat (IntKind.wrap .i64 G.2.1)) d) - 0) G.1++List.drop (Add.add 0 (List.length (List.take (List.length (List.replicate
 (Int.toNat (IntKind.wrap .i64 G.2.1)) d) - 0) G.1))) (List.replicate (Int.toNat (IntKind.wrap .i64 G.2.1)) d),())) (ab.bx λ(G:List ao×
 Unit)=>fin G.1)))))
theorem Od (d a:ao) (LG:List ao->β) (n:Int) (aa:0<=n) (an:n<=200):A.cp (V5 d (λl=>A.pure (LG l)) r2.sh [a] n) λy=>y=LG (List.replicate n.toNat a):=by
 obtain ⟨J,rfl⟩:=Int.eq_ofNat_of_zero_le aa;have uT:decide ((J:Int)<0)=false:=by simp
 have m7:IntKind.u64.wrap (Int.ofNat ([a]:List ao).length)=1:=AF (by simp) (by simp);have akp:=AF (n:=(J:Int)) (by omega) (by omega);have hn:=bF (n:=(J:Int)) (by omega) (by omega);have ar:r2.pre (1,(J:Int)):=⟨rfl,aa,an⟩
 have akq:decide ((J:Int) > 9223372036854775807)=false:=by grind
 have h4:bT J:=by unfold bT;omega
 have W:0<=(J:Int)/\True/\bT (Int.toNat (J:Int)):=⟨aa,trivial,by grind⟩
 unfold V5;simp only [uT,Bool.false_eq_true,if_false,A.aX,A.bX,m7,akp,aU.sh,A.cN];rw [A.ba (by grind)];simp only [gt_iff_lt,Int.lt_irrefl,decide_false,Bool.false_or,Bool.false_eq_true,if_false,A.aX,A.bX,hn];have akr:decide ((9223372036854775807:Int)<(J:Int))=false:=akq;simp only [akr,Bool.false_eq_true,if_false,A.aX,A.bX,hn];rw [A.ba W];simp only [A.bL,A.gf,Int.toNat_natCast,List.length_replicate,Nat.sub_zero,List.nil_append,List.length_singleton,cc,ku,Nat.zero_add];refine A.EV (λs=>∃ m:Nat,(1<=m\/J=0)/\m<=J/\s=((m:Int),List.replicate m a++List.replicate (J - m) d,())) (λs=>J - s.1.toNat) ?_ _ ?_
 ·rintro s ⟨m,hm,atm,rfl⟩;have hlen:(List.replicate m a++List.replicate (J - m) d).length=J:=by grind
  simp only [hlen];by_cases cq:m<J
  ·have g5:0<=(m:Int)/\(m:Int)<=(J:Int)/\(J:Int)<=(J:Int):=by omega
   have cV:(0:Int)<=0/\0<=(m:Int)/\(m:Int)<=(J:Int):=by omega
   have j_:1<=m:=by omega
   have yk:(List.take m (List.replicate m a++List.replicate (J - m) d)).length=m:=by simp
   simp only [dn cq,if_true,A.ba g5,A.ba cV,A.bL,Int.toNat_natCast,yk,b'];rw [A.ez,ako a d m J j_ cq];have aks:(if J - m<=m then J - m else m)=min (J - m) m:=by rfl
   rw [aks];have kT:=bF (n:=(m:Int)+((min (J - m) m:Nat):Int)) (by omega) (by omega);refine ⟨⟨m+min (J - m) m,.inl (by omega),by omega,?_⟩,?_⟩
   ·rw [kT];simp
   ·simp only [kT];omega
  ·have:m=J:=by omega
   subst this;simp only [Int.lt_irrefl,decide_false,Bool.false_eq_true,if_false,A.aX,A.ez,A.bX,Nat.sub_self,List.replicate_zero,List.append_nil]
 ·by_cases yh:J=0
  ·grind
  ·refine ⟨1,.inl (Nat.le_refl _),by omega,?_⟩;grind
end
abbrev HY:aU:=⟨.aG hl bp,hl,λx=>x.1=[-1]/\0<=x.2/\x.2<=200,λx=>List.replicate x.2.toNat (-1)⟩
theorem akt (x):A.bz (ahj r2.sh x) (HY.sh x):=A.x0 λh=>by
 obtain ⟨l,n⟩:=x;obtain ⟨M,aa,an⟩:=h;change l=[-1] at M;subst M;exact Od (0:Int) (-1) (λl=>l) n aa an
def Eb (x:List Int×Int×Unit):A (List Int×Unit):=A.eT (x.1=[-1]/\0<=x.2.1/\x.2.1<=200) (List.replicate x.2.1.toNat (-1),())
theorem V6 (x):A.bz (ahz r2.sh x) (Eb x):=A.x0 λh=>by
 obtain ⟨l,n,u⟩:=x;obtain ⟨M,aa,an⟩:=h;change l=[-1] at M;subst M;exact Od (0:Int) (-1) (λl=>(l,())) n aa an
abbrev HZ:ai:=.st (.aG bp bp)
abbrev H0:aU:=⟨.aG (.slice HZ) bp,.slice HZ,λx=>x.1.length=1/\0<=x.2/\x.2<=200,λx=>List.replicate x.2.toNat (x.1.getD 0 (0,0))⟩
theorem aku (x):A.bz (ahv r2.sh x) (H0.sh x):=A.x0 λh=>by
 obtain ⟨l,n⟩:=x;obtain ⟨M,aa,an⟩:=h;change l.length=1 at M;obtain ⟨a,rfl⟩:=List.length_eq_one_iff.1 M;exact Od ((0,0):Int×Int) a (λl=>l) n aa an
end Go.Fer
namespace Go.Fer
open A (ab)
set_option linter.unusedVariables false
set_option linter.unusedSimpArgs false
def AR (s:a3) (n:Int):Bool:=decide (0<=n)&&decide (n<(s.2.2.2.1.length:Int))
def uU (s:a3) (n:Int):Bool:=decide (0<=n)&&decide (n<(s.2.2.1.length:Int))
theorem V7 {s:a3} {n:Int}:AR s n=true<->0<=n/\n<(s.2.2.2.1.length:Int):=by simp [AR]
theorem H2 {s:a3} {n:Int}:uU s n=true<->0<=n/\n<(s.2.2.1.length:Int):=by simp [uU]
abbrev Oe:aU:=⟨.aG nX bp,dm,λx=>gH x.1,λx=>AR x.1 x.2⟩
abbrev Of:aU:=⟨.aG nX bp,dm,λx=>gH x.1,λx=>uU x.1 x.2⟩
theorem akv (x):A.bz (UN cA.sh x) (Oe.sh x):=A.bU λh=>by
 have aw:=h.2.2.2.1;have hw:=bF (n:=(x.1.2.2.2.1.length:Int) - 1) (by omega) (by omega);unfold UN;simp [aU.sh,cA,hw,AR,rS]
theorem akw (x):A.bz (US cA.sh x) (Of.sh x):=A.bU λh=>by
 have aw:=h.2.2.1;have hw:=bF (n:=(x.1.2.2.1.length:Int) - 1) (by omega) (by omega);unfold US;simp [aU.sh,cA,hw,uU,rS]
def jR (x:e2) (p:eu):Int:=if (!x.1.contains p.1||!c5 p.2.1 x.2.1.1 x.2.1.2)=true then 0 else if p.2.2.1=x.2.2.1 then 1 else if p.2.2.1=0 then 2 else 0
abbrev uV:aU:=⟨.aG uR s7,bp,λx=>x.1.1.length<2 ^ 63,λx=>jR x.1 x.2⟩
theorem akx (x):A.bz (UT cA.sh mj.sh x) (uV.sh x):=A.bU λh=>by
 unfold UT;simp only [aU.sh,cA,mj,A.cN,A.je,implies_true,A.bL,qL];rw [A.ba (by exact h)];show _=A.pure (jR x.1 x.2);unfold jR c5;grind
def Ec (s:a3) (w p:Int):Int×Int:=if kc s≠0 then (0,kc s) else if (!AR s w||!uU s p)=true then (0,1) else (jR (s.2.2.2.1.getD w.toNat ([],(0,0),0,0,0)) (s.2.2.1.getD p.toNat (0,0,0,0,[])),0)
abbrev H3:aU:=⟨.aG nX (.aG bp bp),.aG bp bp,λx=>gH x.1,λx=>Ec x.1 x.2.1 x.2.2⟩
theorem aky {s:a3} (h:gH s) (n:Int):(s.2.2.2.1.getD n.toNat ([],(0,0),0,0,0)).1.length<2 ^ 63:=by
 rw [List.getD_eq_getElem?_getD];cases dx:s.2.2.2.1[n.toNat]? with
 | none=>simp
 | some x=>exact h.2.2.2.2.2.2 x (List.mem_of_getElem? dx)
theorem akz (x):A.bz (UL uS.sh Oe.sh Of.sh uV.sh x) (H3.sh x):=A.bU λh=>by
 unfold UL;show _=A.pure (Ec x.1 x.2.1 x.2.2);unfold Ec;simp only [aU.sh,A.cN,A.je,A.mg,A.hS];rw [A.ba (by exact h)];by_cases he:kc x.1=0
 ·simp only [he,ne_eq,not_true,decide_false,Bool.false_eq_true,if_false];rw [A.ba (by exact h),A.ba (by grind)];cases hw:AR x.1 x.2.1
  ·simp
  ·cases ar:uU x.1 x.2.2
   ·simp
   ·simp only [Bool.not_true,Bool.false_eq_true,if_false,if_true,Bool.or_self,Bool.not_false,cc];rw [A.ba (by exact V7.1 hw),A.ba (by exact H2.1 ar),A.ba (by exact aky h _)]
 grind
def wz (s:a3) (l:List Int) (i:Nat):Bool:=decide (l.getD i 0=-1)||(uU s (l.getD i 0)&&!(l.take i).contains (l.getD i 0))
def q0 (s:a3) (l:List Int):Bool:=((List.range l.length).all (wz s l))&&decide ((l.length:Int)=(s.2.2.2.1.length:Int))
end Go.Fer
namespace Go.Fer
open A (ab)
set_option linter.unusedVariables false
set_option linter.unusedSimpArgs false
def f_ (s:a3) (cb:Bool):Int:=if kc s≠0 then kc s else if cb=false then 1 else eo s.1 true
theorem H4 {s:a3} (h:kc s=0):eH s.1=0/\o' s=true:=by
 unfold kc at h;grind
theorem nY {s:a3} {cb:Bool} (h:f_ s cb=0):kc s=0/\cb=true/\eo s.1 true=0/\sY s.1=true:=by
 unfold f_ at h;by_cases he:kc s=0
 ·rw [if_neg (by omega)] at h;cases cb with
  | false=>grind
  | true=>
   simp only [Bool.true_eq_false,if_false] at h;exact ⟨he,rfl,h,(x8 h).2.2⟩
 omega
structure gm (s:a3):Prop where
 mI:gH s
 uW:hU s.1
 p3:s.2.1.length=s.1.1.length
 aB:∀ n∈s.2.1,0<=n/\n<=10
 q1:s.2.2.1.length<=8
 H5:∀ p∈s.2.2.1,p1 s.1 p=true
 jS:s.2.2.2.1.length<=6
 Ed:∀ x∈s.2.2.2.1,p2 x=true
 H6:s.2.2.2.2.1.length<=8
 Ee:∀ d∈s.2.2.2.2.1,nm s.1 d=true
 AS:0<=s.2.2.2.2.2/\s.2.2.2.2.2<=99
theorem q2 {s:a3} (aA:gH s) (h:kc s=0):gm s:=by
 obtain ⟨M,aa⟩:=H4 h;simp only [o',Bool.and_eq_true,decide_eq_true_eq,List.all_eq_true,c5,kz] at aa;obtain ⟨⟨⟨⟨⟨⟨⟨⟨aS,aY⟩,bK⟩,fe⟩,rv⟩,CU⟩,Tv⟩,Dl⟩,L7⟩:=aa;exact ⟨aA,⟨aA.1,Hl M⟩,by omega,aY,by omega,fe,by omega,CU,by omega,Dl,L7⟩
theorem gm.H7 {s:a3} (h:gm s):s.1.1.length<=10:=(oy h.uW.2).1
def q3 (w:aT) (t:List ((Int×Int×Int)×Int)) (q:Int×Int×Int):List ((Int×Int×Int)×Int):=if pX w q.1 q.2.1 q.2.2=1 then wa t q (IntKind.i64.wrap ((kx t q).getD 0+1)) else t
def V8 (w:aT) (i m:Nat) (t:List ((Int×Int×Int)×Int)):List ((Int×Int×Int)×Int):=(List.range (ff w (m:Int)).length).foldl (λt (k:Nat)=>q3 w t ((i:Int),(m:Int),(k:Int))) t
def Og (w:aT) (i:Nat) (t:List ((Int×Int×Int)×Int)):List ((Int×Int×Int)×Int):=(List.range w.2.1.length).foldl (λt m=>V8 w i m t) t
def yo (w:aT) (n:Nat):List ((Int×Int×Int)×Int):=(List.range n).foldl (λt i=>Og w i t) []
def lx (p:Int×Int) (n:Int):List (Int×Int):=List.replicate n.toNat p
def AT (l:List Int):List (Int×Int):=(List.range l.length).flatMap λ(i:Nat)=>lx ((i:Int),0) (l.getD i 0)
def Oh (l:List e_):List (Int×Int):=l.flatMap λd=>lx (d.2.1,d.1) d.2.2
def wA (s:a3):List (Int×Int):=AT s.2.1++Oh s.2.2.2.2.1
def c_ (s:a3):ea:=(s,wA s,yo s.1 s.2.1.length)
def yp (s:a3) (cb:Bool):Option ea×Int:=if f_ s cb≠0 then (none,f_ s cb) else (some (c_ s),0)
theorem Oi {ao β:Type} (f:ao->List β):∀ (l:List ao) (b:List β),l.foldl (λb x=>b++f x) b=b++l.flatMap f
 | [],b=>by simp
 | x::l,b=>by rw [List.foldl_cons,Oi f l,List.flatMap_cons,List.append_assoc]
abbrev akA:ai:=.st (.aG bp (.aG bp bp))
abbrev wB:ai:=.bQ (.st (.aG nX (.aG (.slice HZ) (.map akA bp))))
abbrev H8:aU:=⟨.aG nX dm,.aG wB bp,λx=>gH x.1,λx=>yp x.1 x.2⟩
theorem akB (s:a3) (cb:Bool) (aA:gH s):Nu uS.sh Hp.sh Aw.sh H0.sh (s,cb)=A.pure (yp s cb):=by
 unfold Nu yp f_;simp only [aU.sh,A.cN,A.ba aA];by_cases he:kc s=0
 ·have aj:=q2 aA he;simp only [he,ne_eq,not_true,decide_false,Bool.false_eq_true,if_false];cases cb with
  | false=>simp
  | true=>
   simp only [Bool.not_true,Bool.false_eq_true,if_false,Bool.true_eq_false];refine Eq.trans (congrArg (λm=>A.bind m _) (show _=(if eo s.1 true≠0 then A.pure (ab.done ((none:Option ea),eo s.1 true)) else A.pure (ab.next (s,([]:List ((Int×Int×Int)×Int)),s.1.1,s.1.2.1,s.1.2.2.1,s.1.2.2.2,s.2.1,s.2.2.1,s.2.2.2.1,s.2.2.2.2.1,s.2.2.2.2.2,()))) from ?_)) ?_
   ·by_cases bm:s.2.1.length=0
    ·have aR:eo s.1 true=0:=by
      unfold eo;have aW:s.1.1.length=0:=by rw [<-aj.p3];exact bm
      have:sY s.1=true:=by unfold sY;grind
      simp [(H4 he).1,this]
     grind
    ·have M:decide (Int.ofNat (List.length s.2.1) > 0)=true:=by grind
     have aa:e3 s.1 0=true:=by rw [lq];have:=aj.p3;omega
     rw [if_pos M,A.ba aA.1];unfold Ho;rw [aa];by_cases ak:eo s.1 true=0
     ·simp [ak]
     ·simp [ak]
   by_cases y9:eo s.1 true=0
   ·simp only [y9,ne_eq,not_true,if_false,A.aX,A.bX];have atn:=aj.H7;have dr:=aj.p3;have AU:s.1.2.1.length<=6:=(oy aj.uW.2).2.1;rw [A.fv (List.range s.2.1.length) (λi t=>((s.2.1.length:Int),(i:Int),s,t,s.1.1,s.1.2.1,s.1.2.2.1,s.1.2.2.2,s.2.1,s.2.2.1,s.2.2.2.1,s.2.2.2.2.1,s.2.2.2.2.2,())) (λi t=>.next (Og s.1 i t)) (λt=>.next (s,t,s.1.1,s.1.2.1,s.1.2.2.1,s.1.2.2.2,s.2.1,s.2.2.1,s.2.2.2.1,s.2.2.2.2.1,s.2.2.2.2.2,())) [] ?_ ?_ ?_]
    ·rw [g7];simp only [A.aX,A.bX];rw [A.hT (List.range s.2.1.length) (λi acc=>(s.2.1,(s.2.1.length:Int),(i:Int),s,yo s.1 s.2.1.length,s.1.1,s.1.2.1,s.1.2.2.1,s.1.2.2.2,s.2.1,s.2.2.1,s.2.2.2.1,s.2.2.2.2.1,s.2.2.2.2.2,acc,())) (λi acc=>.next (acc++lx ((i:Int),0) (s.2.1.getD i 0))) (λacc=>.next (s,yo s.1 s.2.1.length,s.1.1,s.1.2.1,s.1.2.2.1,s.1.2.2.2,s.2.1,s.2.2.1,s.2.2.2.1,s.2.2.2.2.1,s.2.2.2.2.2,acc,())) (λi acc=>acc.length<=10*i) [] ?_ ?_ ?_ ?_]
     ·rw [g7,Oi];simp only [A.aX,A.bX,List.nil_append];have hA:(AT s.2.1).length<=100:=by
       have:∀ (l:List Nat),(∀ i∈l,i<s.2.1.length)->(l.flatMap λ(i:Nat)=>lx ((i:Int),0) (s.2.1.getD i 0)).length<=10*l.length:=by
        intro l;induction l with
        | nil=>simp
        | cons i l aO=>
         intro aw;have M:=aO λj aC=>aw j (by grind);have aa:=aw i (by simp);have an:=aj.aB _ (List.getElem_mem aa);have ke:s.2.1.getD i 0=s.2.1[i]:=by grind
         rw [List.flatMap_cons,List.length_append,List.length_cons,ke];simp only [lx,List.length_replicate];simp only [lx] at M;omega
       have:=this (List.range s.2.1.length) (λi U=>by grind);rw [List.length_range] at this;unfold AT;omega
      rw [A.hT s.2.2.2.2.1 (λi acc=>(s.2.2.2.2.1,(s.2.2.2.2.1.length:Int),(i:Int),yo s.1 s.2.1.length,s.1.1,s.1.2.1,s.1.2.2.1,s.1.2.2.2,s.2.1,s.2.2.1,s.2.2.2.1,s.2.2.2.2.1,s.2.2.2.2.2,acc,())) (λd acc=>.next (acc++lx (d.2.1,d.1) d.2.2)) (λacc=>.next (yo s.1 s.2.1.length,s.1.1,s.1.2.1,s.1.2.2.1,s.1.2.2.2,s.2.1,s.2.2.1,s.2.2.2.1,s.2.2.2.2.1,s.2.2.2.2.2,acc,())) (λi acc=>acc.length<=100+10*i) (AT s.2.1) ?_ ?_ ?_ ?_]
      ·rw [g7,Oi,A.aX,A.bX];rfl
      ·rfl
      ·omega
      ·intro i U acc DQ;have ato:=aj.H6;have gx:=bF (n:=(i:Int)+1) (by omega) (by omega);have aN:=aj.Ee _ (List.getElem_mem U);have C3:1<=s.2.2.2.2.1[i].2.2/\s.2.2.2.2.1[i].2.2<=10:=by
        simp only [nm,c5,Bool.and_eq_true,decide_eq_true_eq] at aN;omega
       have hlen:(lx (s.2.2.2.2.1[i].2.1,s.2.2.2.2.1[i].1) s.2.2.2.2.1[i].2.2).length<=10:=by simp only [lx,List.length_replicate];omega
       have h4:bT (acc.length+(lx (s.2.2.2.2.1[i].2.1,s.2.2.2.2.1[i].1) s.2.2.2.2.1[i].2.2).length):=by unfold bT;omega
       refine ⟨?_,λbg af=>?_⟩
       ·simp only [cc,dn U,if_true,en U,dd U,A.bL,A.mg,A.hS,b',ku,gx];rw [A.ba (by grind),A.ba (by exact h4)];rfl
       grind
      simp
     ·rfl
     ·simp
     ·intro i U acc DQ;have U:i<s.2.1.length:=by grind
      have gx:=bF (n:=(i:Int)+1) (by omega) (by omega);have ke:s.2.1.getD i 0=s.2.1[i]:=by grind
      have C3:=aj.aB _ (List.getElem_mem U);have hlen:(lx ((i:Int),0) s.2.1[i]).length<=10:=by simp only [lx,List.length_replicate];omega
      have h4:bT (acc.length+(lx ((i:Int),0) s.2.1[i]).length):=by unfold bT;omega
      refine ⟨?_,λbg af=>?_⟩
      ·simp only [cc,dn U,if_true,en U,dd U,A.bL,A.mg,A.hS,b',ku,gx,List.getElem_range,ke];rw [A.ba (by grind),A.ba (by exact h4)];rfl
      grind
     simp
    ·simp
    ·intro i U t;have U:i<s.2.1.length:=by grind
     have gx:=bF (n:=(i:Int)+1) (by omega) (by omega);simp only [cc,dn U,if_true,List.getElem_range];rw [A.fv (List.range s.1.2.1.length) (λm t=>((i:Int),(s.2.1.length:Int),(i:Int),s.1.2.1,(s.1.2.1.length:Int),(m:Int),s,t,s.1.1,s.1.2.1,s.1.2.2.1,s.1.2.2.2,s.2.1,s.2.2.1,s.2.2.2.1,s.2.2.2.2.1,s.2.2.2.2.2,())) (λm t=>.next (V8 s.1 i m t)) (λt=>.next ((s.2.1.length:Int),(i:Int),s,t,s.1.1,s.1.2.1,s.1.2.2.1,s.1.2.2.2,s.2.1,s.2.2.1,s.2.2.2.1,s.2.2.2.2.1,s.2.2.2.2.2,())) t ?_ ?_ ?_]
     ·rw [g7];simp only [A.aX,A.bX,b',gx];rfl
     ·rfl
     ·intro m hm t;have hm:m<s.1.2.1.length:=by grind
      have wv:=bF (n:=(m:Int)+1) (by omega) (by omega);have akC:s.1.2.1[m]=ff s.1 (m:Int):=by simp [ff,List.getD_eq_getElem?_getD,hm]
      simp only [cc,dn hm,if_true,List.getElem_range,dd hm,A.bL,en hm,akC];have mS:=Hj aA.1 (m:Int);rw [A.fv (List.range (ff s.1 (m:Int)).length) (λk t=>((i:Int),(m:Int),(s.2.1.length:Int),(i:Int),s.1.2.1,(s.1.2.1.length:Int),(m:Int),((ff s.1 (m:Int)).length:Int),(k:Int),s,t,s.1.1,s.1.2.1,s.1.2.2.1,s.1.2.2.2,s.2.1,s.2.2.1,s.2.2.2.1,s.2.2.2.2.1,s.2.2.2.2.2,())) (λk t=>.next (q3 s.1 t ((i:Int),(m:Int),(k:Int)))) (λt=>.next ((i:Int),(s.2.1.length:Int),(i:Int),s.1.2.1,(s.1.2.1.length:Int),(m:Int),s,t,s.1.1,s.1.2.1,s.1.2.2.1,s.1.2.2.2,s.2.1,s.2.2.1,s.2.2.2.1,s.2.2.2.2.1,s.2.2.2.2.2,())) t ?_ ?_ ?_]
      ·rw [g7];simp only [A.aX,A.bX,b',wv];rfl
      ·rfl
      ·intro k ak t;have ak:k<(ff s.1 (m:Int)).length:=by grind
       have jy:=bF (n:=(k:Int)+1) (by omega) (by omega);have j':e3 s.1 (i:Int)=true:=by rw [lq];omega
       have kX:fN s.1 (m:Int) (k:Int)=true:=by rw [wh];omega
       have ax:nS s.1 (i:Int) (m:Int) (k:Int)=(pX s.1 (i:Int) (m:Int) (k:Int),0):=by simp [nS,j',kX,y9]
       simp only [dn ak,if_true,List.getElem_range];simp only [ax,A.ba aA.1,decide_eq_true_eq];by_cases M:pX s.1 (i:Int) (m:Int) (k:Int)=1
       ·simp only [M,if_true,and_self,A.bL,A.aX,A.bX,b',jy,ab.h',q3];rfl
       ·simp only [M,if_false,A.aX,A.bX,b',jy,ab.h',q3];rfl
      simp
     simp
    simp
   ·simp [y9]
 grind
theorem akD (x):A.bz (Nu uS.sh Hp.sh Aw.sh H0.sh x) (H8.sh x):=A.bU λh=>akB x.1 x.2 h
end Go.Fer
namespace Go.Fer
open A (ab)
set_option linter.unusedVariables false
set_option linter.unusedSimpArgs false
theorem akE {p:Int->Bool} {l:List Int} (h:kA p l=true):∀ x∈l,p x=true:=by
 intro x au;obtain ⟨i,U,rfl⟩:=List.mem_iff_getElem.1 au;unfold kA at h;simp_all
theorem akF {p:Int->Bool} {l:List Int} (h:kA p l=true):l.Pairwise (·<·):=by
 unfold kA at h;rw [List.all_eq_true] at h;have step:∀ i,i+1<l.length->l.getD i 0<l.getD (i+1) 0:=λi U=>by
  grind
 have key:∀ j i,i<j->j<l.length->l.getD i 0<l.getD j 0:=by
  intro j;induction j with
  | zero=>omega
  | succ j aO=>
   grind
 rw [List.pairwise_iff_getElem];grind
theorem H9 {s:a3} (aj:gm s) {p:eu} (ar:p∈s.2.2.1):kb s.1 p.2.2.2.1=true/\p.2.2.2.2.length<=4/\∀ k∈p.2.2.2.2,fN s.1 p.2.2.2.1 k=true:=by
 have h:=aj.H5 p ar;simp only [p1,Bool.and_eq_true] at h;obtain ⟨⟨_,hm⟩,W⟩:=h;have gv:∀ k∈p.2.2.2.2,fN s.1 p.2.2.2.1 k=true:=λk ak=>by
  have:=akE W k ak;rw [wh];simp only [D4,Bool.and_eq_true,decide_eq_true_eq] at this;exact ⟨uE.1 hm,this⟩
 refine ⟨hm,?_,gv⟩;have akG:=akF W;have Fx:p.2.2.2.2.Nodup:=akG.imp λh e=>by omega
 cases af:p.2.2.2.2 with
 | nil=>simp
 | cons k l=>
  rw [<-af];have a8:=ahS aj.uW.2 (gv k (by grind));have:=DS (ff s.1 p.2.2.2.1).length p.2.2.2.2 Fx λk ak=>by
   have:=wh.1 (gv k ak);omega
  omega
abbrev p4:Type:=Int×Int×Int
abbrev V9:e2:=([],(0,0),0,0,0)
abbrev V_:eu:=(0,0,0,0,[])
abbrev yq:ea:=((([],[],0,[]),[],[],[],[],0),[],[])
def hV (s:a3) (i:Int):e2:=s.2.2.2.1.getD i.toNat V9
def hI (s:a3) (i:Int):eu:=s.2.2.1.getD i.toNat V_
def kB (s:a3) (x:e2) (p:eu):Option Int:=if jR x p=0 then none else if (if jR x p=2 then x.2.2.2.1 - s.2.2.2.2.2 else x.2.2.2.1)<0 then none else some (if jR x p=2 then x.2.2.2.1 - s.2.2.2.2.2 else x.2.2.2.1)
def iq (s:a3) (a0:List Int) (i:Nat):Option (List p4):=if a0.getD i 0<0 then some [] else (kB s (hV s (i:Int)) (hI s (a0.getD i 0))).map λd=>(hI s (a0.getD i 0)).2.2.2.2.map λk=>((hI s (a0.getD i 0)).2.2.2.1,k,d)
def gP (s:a3) (a0:List Int):List p4×Bool:=if ((List.range a0.length).all λi=>(iq s a0 i).isSome)=true then ((List.range a0.length).flatMap λi=>(iq s a0 i).getD [],true) else ([],false)
def kY (s:a3) (a0:List Int):Prop:=a0.length<=s.2.2.2.1.length/\∀ p∈a0,p<(s.2.2.1.length:Int)
def p5 (o:Option ea):a3:=(o.getD yq).1
def wC (o:Option ea) (s:a3):Prop:=o=some (c_ s)/\gm s
theorem H_ {s:a3} {i:Nat} (h:i<s.2.2.2.1.length):hV s (i:Int)∈s.2.2.2.1:=by
 simp [hV,List.getD_eq_getElem?_getD,h]
theorem Ia {s:a3} {i:Int} (aW:0<=i) (h:i<(s.2.2.1.length:Int)):hI s i∈s.2.2.1:=x2 aW h
theorem Oj {s:a3} (aj:gm s) {x:e2} (au:x∈s.2.2.2.1):(0<=x.2.2.2.1/\x.2.2.2.1<=99)/\(0<=x.2.2.2.2/\x.2.2.2.2<=100000):=by
 have:=aj.Ed x au;simp only [p2,kz,c5,Bool.and_eq_true,decide_eq_true_eq] at this;omega
theorem Ok {s:a3} (aj:gm s) {a0:List Int} (ar:kY s a0) {i:Nat} (U:i<a0.length) {l:List p4} (h:iq s a0 i=some l):l.length<=4:=by
 unfold iq at h;split at h
 ·grind
 ·rename_i uT;rw [Option.map_eq_some_iff] at h;obtain ⟨d,_,rfl⟩:=h;rw [List.length_map];have hm:a0.getD i 0∈a0:=by grind
  exact (H9 aj (Ia (by omega) (ar.2 _ hm))).2.1
def yr {ao β aQ:Type} (f:ao->Option (List β)) (r:aQ) (x:ao) (b:List β):ab (List β) aQ:=if (f x).isSome=true then .next (b++(f x).getD []) else .done r
theorem wD {ao β aQ:Type} {f:ao->Option (List β)} {r:aQ} {x:ao} {b y:List β} (h:f x=some y):yr f r x b=.next (b++y):=by simp [yr,h]
theorem AV {ao β aQ:Type} {f:ao->Option (List β)} {r:aQ} {x:ao} {b:List β} (h:f x=none):yr f r x b=.done r:=by simp [yr,h]
theorem Ol {ao β aQ:Type} {f:ao->Option (List β)} {r:aQ} {fin:List β->aQ}:∀ (l:List ao) (b:List β),gO (yr f r) fin l b=if (l.all λx=>(f x).isSome)=true then fin (b++l.flatMap λx=>(f x).getD []) else r
 | [],b=>by simp [gO]
 | x::l,b=>by
  simp only [gO];cases h:f x with
  | none=>simp [AV h,h]
  | some y=>
   have:=Ol (f:=f) (r:=r) (fin:=fin) l (b++y);simp only [wD h,List.all_cons,h,Option.isSome_some,Bool.true_and,List.flatMap_cons,Option.getD_some];grind
abbrev Ib:ai:=.st (.aG bp (.aG bp bp))
abbrev Ic:aU:=⟨.aG wB hl,.aG (.slice Ib) dm,λx=>∃ s,wC x.1 s/\kY s x.2,λx=>gP (p5 x.1) x.2⟩
theorem akH (s:a3) (aj:gm s) (a0:List Int) (ar:kY s a0):Nv uV.sh (some (c_ s),a0)=A.pure (gP s a0):=by
 unfold Nv;have AW:=aj.jS;have akI:=ar.1;simp only [Option.isSome_some,Option.getD_some,A.bL];rw [A.hT (List.range a0.length) (λi acc=>(some (c_ s),a0,(a0.length:Int),(i:Int),acc,())) (yr (iq s a0) (.done ([],false))) (λacc=>.next (acc,())) (λi acc=>acc.length<=4*i) [] ?_ ?_ ?_ ?_]
 ·rw [Ol];unfold gP;by_cases h:((List.range a0.length).all λi=>(iq s a0 i).isSome)=true
  ·simp [h]
  ·simp [h]
 ·rfl
 ·simp
 ·intro i U acc DQ;have U:i<a0.length:=by grind
  have p6:i<s.2.2.2.1.length:=by omega
  have gx:=bF (n:=(i:Int)+1) (by omega) (by omega);have AX:=H_ p6;rw [List.getElem_range];obtain ⟨aM,Ie⟩:∃ aM,a0.getD i 0=aM:=⟨_,rfl⟩
  have Om:aM∈a0:=by grind
  refine ⟨?_,λbg af=>?_⟩
  ·simp only [cc,dn U,if_true,Int.toNat_natCast,Ie,dd U,A.bL,Option.isSome_some,Option.getD_some];by_cases uT:aM<0
   ·have iN:iq s a0 i=some []:=by unfold iq;grind
    rw [wD iN];simp_all
   ·have jq:aM<(s.2.2.1.length:Int):=ar.2 aM Om;have On:=Ia (s:=s) (by omega) jq;have g5:0<=aM/\aM<(s.2.2.1.length:Int):=⟨by omega,jq⟩
    have hA:(c_ s).1=s:=rfl;have wF:List.getD s.2.2.2.1 i ([],(0,0),0,0,0)=hV s (i:Int):=rfl;have Ef:List.getD s.2.2.1 aM.toNat (0,0,0,0,[])=hI s aM:=rfl;simp only [uT,decide_false,Bool.false_eq_true,if_false,hA,dd p6,A.ba g5,A.bL,aU.sh,A.cN,wF,Ef];have iN:iq s a0 i=(kB s (hV s (i:Int)) (hI s aM)).map λd=>(hI s aM).2.2.2.2.map λk=>((hI s aM).2.2.2.1,k,d):=by unfold iq;grind
    rw [A.ba (show uV.pre (hV s (i:Int),hI s aM) from aj.mI.2.2.2.2.2.2 _ AX)];obtain ⟨akJ,_⟩:=Oj aj AX;have m_:=aj.AS;obtain ⟨AU,h2,z2⟩:=H9 aj On;have akK:=bF (n:=(hV s (i:Int)).2.2.2.1 - s.2.2.2.2.2) (by omega) (by omega);generalize hV s (i:Int)=x at *
    generalize hI s aM=p at *
    by_cases aW:jR x p=0
    ·have aN:kB s x p=none:=by unfold kB;grind
     rw [aN] at iN;rw [AV iN];simp only [aW,decide_true,if_true,A.aX,A.jf,ab.h']
    ·by_cases aa:jR x p=2;all_goals simp only [aW,aa,decide_true,decide_false,Bool.false_eq_true,if_false,if_true,A.aX,A.bX,akK,Int.reduceEq]
     ·have aN:kB s x p=(if x.2.2.2.1 - s.2.2.2.2.2<0 then none else some (x.2.2.2.1 - s.2.2.2.2.2)):=by unfold kB;grind
      generalize x.2.2.2.1 - s.2.2.2.2.2=d at *
      by_cases rL:d<0
      ·rw [if_pos rL] at aN;rw [aN] at iN;rw [AV iN];simp_all
      ·rw [if_neg rL] at aN;rw [aN] at iN;rw [wD iN];simp only [rL,decide_false,Bool.false_eq_true,if_false];rw [A.hT p.2.2.2.2 (λk acc=>(some (c_ s),d,a0,(a0.length:Int),(i:Int),p.2.2.2.2,(p.2.2.2.2.length:Int),(k:Int),acc,p,())) (λk acc=>.next (acc++[(p.2.2.2.1,k,d)])) (λacc=>.next (some (c_ s),a0,(a0.length:Int),(i:Int),acc,())) (λk r3=>r3.length<=4*i+k) acc ?_ ?_ ?_ ?_]
       ·rw [g7,x1];simp_all
       ·rfl
       ·omega
       ·intro k ak r3 V';have jy:=bF (n:=(k:Int)+1) (by omega) (by omega);have h4:bT (r3.length+(0+1)):=by unfold bT;omega
        refine ⟨?_,λbg af=>?_⟩
        ·simp_all
        grind
       simp
     ·have aN:kB s x p=(if x.2.2.2.1<0 then none else some x.2.2.2.1):=by unfold kB;grind
      generalize x.2.2.2.1=d at *
      by_cases rL:d<0
      ·omega
      ·rw [if_neg rL] at aN;rw [aN] at iN;rw [wD iN];simp only [rL,decide_false,Bool.false_eq_true,if_false];rw [A.hT p.2.2.2.2 (λk acc=>(some (c_ s),d,a0,(a0.length:Int),(i:Int),p.2.2.2.2,(p.2.2.2.2.length:Int),(k:Int),acc,p,())) (λk acc=>.next (acc++[(p.2.2.2.1,k,d)])) (λacc=>.next (some (c_ s),a0,(a0.length:Int),(i:Int),acc,())) (λk r3=>r3.length<=4*i+k) acc ?_ ?_ ?_ ?_]
       ·rw [g7,x1];simp_all
       ·rfl
       ·omega
       ·intro k ak r3 V';have jy:=bF (n:=(k:Int)+1) (by omega) (by omega);have h4:bT (r3.length+(0+1)):=by unfold bT;omega
        refine ⟨?_,λbg af=>?_⟩
        ·simp_all
        grind
       simp
  ·cases iN:iq s a0 i with
   | none=>rw [AV iN] at af;cases af
   | some y=>
    rw [wD iN] at af;cases af;have:=Ok aj ar U iN;grind
 simp
theorem akL (x):A.bz (Nv uV.sh x) (Ic.sh x):=A.bU λh=>by
 obtain ⟨o,a0⟩:=x;obtain ⟨s,⟨ax,aj⟩,ar⟩:=h;change o=_ at ax;subst ax;exact akH s aj a0 ar
def ho (s:a3) (a0:List Int):Int:=((List.range a0.length).map λ(i:Nat)=>if a0.getD i 0=-1 then 0 else (hV s (i:Int)).2.2.2.2).foldl (·+·) 0
abbrev uX:aU:=⟨.aG wB hl,bp,λx=>∃ s,wC x.1 s/\x.2.length<=s.2.2.2.1.length,λx=>ho (p5 x.1) x.2⟩
theorem akM (s:a3) (aj:gm s) (a0:List Int) (ar:a0.length<=s.2.2.2.1.length):NB (some (c_ s),a0)=A.pure (ho s a0):=by
 unfold NB;have AW:=aj.jS;rw [A.hT (List.range a0.length) (λi (n:Int)=>(some (c_ s),n,a0,(a0.length:Int),(i:Int),())) (λ(i:Nat) n=>.next (n+if a0.getD i 0=-1 then 0 else (hV s (i:Int)).2.2.2.2)) (λn=>.next (n,())) (λi n=>0<=n/\n<=100000*i) 0 ?_ ?_ ?_ ?_]
 ·rw [g7];unfold ho;rw [List.foldl_map,A.aX,A.bX]
 ·rfl
 ·simp
 ·intro i U n aI;have U:i<a0.length:=by grind
  have p6:i<s.2.2.2.1.length:=by omega
  have gx:=bF (n:=(i:Int)+1) (by omega) (by omega);obtain ⟨_,oV⟩:=Oj aj (H_ p6);have wF:List.getD s.2.2.2.1 i ([],(0,0),0,0,0)=hV s (i:Int):=rfl;have wm:=bF (n:=n+(hV s (i:Int)).2.2.2.2) (by omega) (by omega);have hA:(c_ s).1=s:=rfl;rw [List.getElem_range];refine ⟨?_,λbg af=>?_⟩
  ·simp only [cc,dn U,if_true,Int.toNat_natCast,dd U,dd p6,A.bL,Option.isSome_some,Option.getD_some,b',hA,wF];by_cases M:a0.getD i 0=-1
   ·simp only [M,ne_eq,not_true,decide_false,Bool.false_eq_true,if_false,if_true,A.aX,A.bX,gx,Int.add_zero,ab.h'];rfl
   ·simp only [M,ne_eq,not_false_iff,decide_true,if_false,if_true,dd p6,A.bL,A.aX,A.bX,gx,wm,ab.h'];rfl
  grind
 simp
theorem akN (x):A.bz (NB x) (uX.sh x):=A.bU λh=>by
 obtain ⟨o,a0⟩:=x;obtain ⟨s,⟨ax,aj⟩,ar⟩:=h;change o=_ at ax;subst ax;exact akM s aj a0 ar
end Go.Fer
namespace Go.Fer
open A (ab)
set_option linter.unusedVariables false
set_option linter.unusedSimpArgs false
theorem Wa:∀ {a b:List Int},a.Pairwise (·<·)->b.Pairwise (·<·)->(∀ x,x∈a<->x∈b)->a=b
 | [],[],_,_,_=>rfl
 | [],y::b,_,_,h=>by have:=(h y).2 (by simp);grind
 | x::a,[],_,_,h=>by have:=(h x).1 (by simp);grind
 | x::a,y::b,bf,af,h=>by
  rw [List.pairwise_cons] at bf af;have akO:x=y:=by
   have M:=(h x).1 (by simp);have aa:=(h y).2 (by simp);grind
  subst akO;rw [Wa bf.2 af.2 λz=>?_];grind
end Go.Fer
namespace Go.Fer
open A (ab)
set_option linter.unusedVariables false
set_option linter.unusedSimpArgs false
def fA:List (List Int)->List Int->Int
 | [],_=>0
 | j::bO,aB=>j.foldl (λn s=>if decide (aB.getD s.toNat 0 > 0)=true then (if 1+fA bO (aB.set s.toNat (aB.getD s.toNat 0 - 1)) > n then 1+fA bO (aB.set s.toNat (aB.getD s.toNat 0 - 1)) else n) else n) (fA bO aB)
theorem Wb {f:Int->Int->Int} {a b:Int}:∀ (l:List Int) (n:Int),a<=n/\n<=b->(∀ n s,a<=n/\n<=b->a<=f n s/\f n s<=b)->a<=l.foldl f n/\l.foldl f n<=b
 | [],n,h,_=>h
 | x::l,n,h,ax=>Wb l _ (ax n x h) ax
theorem Eg:∀ (bO:List (List Int)) (aB:List Int),0<=fA bO aB/\fA bO aB<=(bO.length:Int)
 | [],_=>by simp [fA]
 | j::bO,aB=>by
  unfold fA;refine Wb j _ ?_ λn s h=>?_
  ·have:=Eg bO aB;grind
  ·have:=Eg bO (aB.set s.toNat (aB.getD s.toNat 0 - 1));grind
end Go.Fer
namespace Go.Fer
open A (ab)
set_option linter.unusedVariables false
set_option linter.unusedSimpArgs false
theorem akP {ao:Type} (l:List ao) (d:ao):(List.range l.length).map (λj=>l.getD j d)=l:=by
 refine List.ext_getElem (by simp) λi M aa=>?_;grind
theorem Oo {ao:Type} (p:ao->Bool) (l:List ao) (d:ao):(List.range l.length).countP (λj=>p (l.getD j d))=l.countP p:=by
 have:=congrArg (List.countP p) (akP l d);rw [List.countP_map] at this;exact this
theorem s8 (work:List Int) (s:Int):(dy work s).length=(List.range work.length).countP λj=>decide (work.getD j 0=s):=by
 unfold dy;grind
theorem If (work:List Int) (s:Int):(dy work s).length=work.countP λx=>decide (x=s):=by
 rw [s8,Oo (λx=>decide (x=s))]
theorem Wc {ao:Type} {p q:ao->Bool}:∀ {l:List ao},(∀ x∈l,p x=true->q x=true)->∀ {y:ao},q y=true->p y=false->y∈l->l.countP p<l.countP q
 | [],_,_,_,_,hm=>by cases hm
 | x::l,h,y,aJ,aI,hm=>by
  have hle:l.countP p<=l.countP q:=List.countP_mono_left λz bm=>h z (List.mem_cons_of_mem _ bm);rw [List.countP_cons,List.countP_cons];rcases List.mem_cons.1 hm with e | e
  ·grind
  ·have:=Wc (λz bm=>h z (List.mem_cons_of_mem _ bm)) aJ aI e;grind
theorem Wd {p q:Nat->Bool} {s:Nat} (h:∀ x,x≠s->p x=true->q x=true):∀ (l:List Nat),l.Nodup->l.countP p<=l.countP q+1
 | [],_=>by simp
 | x::l,aI=>by
  rw [List.nodup_cons] at aI;rw [List.countP_cons,List.countP_cons];by_cases e:x=s
  ·subst e;have:l.countP p<=l.countP q:=List.countP_mono_left λy aJ=>h y λe=>aI.1 (e ▸ aJ);grind
  ·have:=Wd h l aI.2;grind
theorem oA {l:List Int} {j i:Nat} {s:Int} (aC:j<l.length):(l.set j s).getD i 0=if i=j then s else l.getD i 0:=by
 grind
abbrev hJ (fit:List (List Int)) (j:Int):List Int:=fit.getD j.toNat []
def r4 (aB work:List Int) (s:Int):Prop:=aB.getD s.toNat 0<=((dy work s).length:Int)
def Ig (fit:List (List Int)) (aB work:List Int) (C:Int->Prop):Prop:=∀ j,C j->∀ s∈hJ fit j,r4 aB work s/\∀ h∈dy work s,C h
def ys (n:Nat) (aB work:List Int):Prop:=∀ s,0<=s->s<(n:Int)->((dy work s).length:Int)<=aB.getD s.toNat 0
def wG (fit:List (List Int)) (aB work:List Int) (m dI:List (Int×Int)):Prop:=∀ s,br m s=0->1<=br dI s->r4 aB work s/\∀ h∈dy work s,∀ s'∈hJ fit h,1<=br dI s'
def We (fit:List (List Int)) (J:Nat) (st:cB) (work:List Int):Prop:=∀ i:Nat,i<J->work.getD i 0=st.1.getD i 0\/(br st.2 (work.getD i 0)=0/\work.getD i 0∈hJ fit (i:Int))
def Wf (fit:List (List Int)) (J:Nat) (C:Int->Prop) (w0 cn:List Int):Prop:=∀ i:Nat,i<J->cn.getD i 0≠w0.getD i 0->¬C (i:Int)/\∀ c,C c->cn.getD i 0 ∉ hJ fit c
structure Oq (n J:Nat) (fit:List (List Int)) (aB:List Int) (j:Int) (st:cB) (r:Bool×cB):Prop where
 wH:r.1=false->r.2.1=st.1/\(∀ s∈hJ fit j,1<=br r.2.2 s)/\wG fit aB st.1 st.2 r.2.2
 yt:r.1=true->We fit J st r.2.1/\(br st.2 (r.2.1.getD j.toNat 0)=0/\r.2.1.getD j.toNat 0∈hJ fit j)/\ys n aB r.2.1
 cl:∀ C,Ig fit aB st.1 C->(C j->r.1=false)/\(r.1=true->Wf fit J C st.1 r.2.1)
 Ih:r.1=true->∀ i:Nat,i<J->st.1.getD i 0=-1->i≠j.toNat->r.2.1.getD i 0=-1
structure Wg (n J:Nat) (fit:List (List Int)) (aB:List Int) (h:List Int) (st:cB) (r:Bool×cB):Prop where
 wH:r.1=false->r.2.1=st.1/\(∀ j∈h,∀ s∈hJ fit j,1<=br r.2.2 s)/\wG fit aB st.1 st.2 r.2.2
 yt:r.1=true->We fit J st r.2.1/\(∃ j∈h,br st.2 (r.2.1.getD j.toNat 0)=0)/\ys n aB r.2.1
 cl:∀ C,Ig fit aB st.1 C->((∀ j∈h,C j)->r.1=false)/\(r.1=true->Wf fit J C st.1 r.2.1)
 Ih:r.1=true->∀ i:Nat,i<J->st.1.getD i 0=-1->r.2.1.getD i 0=-1
def Ot (n J:Nat) (fit:List (List Int)) (aB:List Int) (f:Nat) (rec:Int->cB->Bool×cB):Prop:=
 ∀ j st,0<=j->j<(J:Int)->o8 n J f st->ys n aB st.1->Oq n J fit aB j st (rec j st)
theorem Wh {fit:List (List Int)} {aB work:List Int} {Wi eb eN:List (Int×Int)} (hm:∀ k,0<=br eb k) (atp:∀ k,br eb k<=br eN k) (M:wG fit aB work Wi eb) (aa:wG fit aB work eb eN):wG fit aB work Wi eN:=by
 intro s aW an;by_cases e:1<=br eb s
 ·obtain ⟨a,b⟩:=M s aW e;grind
 ·have:=hm s;exact aa s (by omega) an
theorem Wj {fit:List (List Int)} {aB work:List Int} {m:List (Int×Int)}:wG fit aB work m m:=λs M aa=>by omega
theorem akQ {n J f:Nat} {fit:List (List Int)} {aB:List Int} {rec:Int->cB->Bool×cB} (cm:D2 n J f rec) (nV:Ot n J fit aB f rec) {st:cB} (M:HM n J f st) (aj:ys n aB st.1)
  (h:List Int) (aw:h.length<=10) (aC:∀ j∈h,0<=j/\j<(J:Int)) (cI:∀ j∈h,st.1.getD j.toNat 0≠-1):Wg n J fit aB h st (qX rec h st):=by
 unfold qX;refine D0 (λi gw=>qY n J st i gw/\gw.1=st.1/\(∀ k (ak:k<h.length),k<i->∀ s∈hJ fit h[k],1<=br gw.2 s)/\wG fit aB st.1 st.2 gw.2)
  (λr:Bool×cB=>Wg n J fit aB h st r) h st ⟨N1 M.1,rfl,λk _ ak=>by omega,Wj⟩ (λi U b af=>?_) λb af=>?_
 ·obtain ⟨nx,hw,s9,q4⟩:=af;have hm:=aC h[i] (List.getElem_mem U);have lR:=N2 M nx (by omega);have ar:=cm h[i] b hm.1 hm.2 lR;have W:=nV h[i] b hm.1 hm.2 lR (by grind);have akR:=N3 nx ar;have mO:∀ k,0<=br b.2 k:=λk=>(lR.2.1 k).1;have hA:∀ k,0<=br st.2 k:=λk=>(M.2.1 k).1;unfold pZ;by_cases hc:(rec h[i] b).1=true
  ·simp only [hc,if_true];obtain ⟨i',akS,rf⟩:=W.yt hc;refine ⟨λh=>(by cases h),λ_=>⟨λk ak=>?_,⟨h[i],List.getElem_mem U,?_⟩,rf⟩,λC fO=>⟨λgv=>?_,λ_=>?_⟩,λ_ k ak hu=>?_⟩
   ·rcases i' k ak with e | ⟨aK,bq⟩
    ·grind
    ·right;refine ⟨?_,bq⟩;have a:=(nx.2 ((rec h[i] b).2.1.getD k 0)).1;grind
   ·have a:=(nx.2 ((rec h[i] b).2.1.getD h[i].toNat 0)).1;grind
   ·have:=(W.cl C (by grind)).1 (gv _ (List.getElem_mem U));grind
   ·have:=(W.cl C (by grind)).2 hc;grind
   ·refine W.Ih hc k ak (by grind) λe=>cI h[i] (List.getElem_mem U) ?_;grind
  ·simp only [hc];have ax:(rec h[i] b).1=false:=by grind
   obtain ⟨xE,qZ,Ii⟩:=W.wH ax;have Ou:∀ k,br b.2 k<=br (rec h[i] b).2.2 k:=λk=>(ar.2 k).1;refine ⟨akR,by grind,λk ak Ij s aA=>?_,?_⟩
   ·grind
   ·rw [hw] at Ii;exact Wh mO Ou q4 Ii
 ·obtain ⟨nx,hw,s9,q4⟩:=af;refine ⟨λ_=>⟨hw,λj ry s aA=>?_,q4⟩,λh=>(by cases h),λC fO=>⟨λ_=>rfl,λh=>(by cases h)⟩,λh=>(by cases h)⟩;obtain ⟨k,ak,rfl⟩:=List.mem_iff_getElem.1 ry;grind
theorem Wk {work:List Int} {j:Nat} {s s':Int} (aC:j<work.length) (h:s'≠s):(dy (work.set j s) s').length<=(dy work s').length:=by
 rw [s8,s8,List.length_set];refine List.countP_mono_left λi _ U=>?_;grind
theorem Wl {work:List Int} {j:Nat} {s:Int} (aC:j<work.length):(dy (work.set j s) s).length<=(dy work s).length+1:=by
 rw [s8,s8,List.length_set];refine Wd (s:=j) (λi zE U=>?_) _ List.nodup_range;grind
theorem akT {n J f:Nat} {fit:List (List Int)} {aB:List Int} {rec:Int->cB->Bool×cB} (cm:D2 n J f rec) (nV:Ot n J fit aB f rec) (yh:J<=10) {dB:Int} (atq:0<=dB) (atr:dB<(J:Int))
  (aw:(hJ fit dB).Nodup/\∀ s∈hJ fit dB,0<=s/\s<(n:Int)) {st:cB} (aW:o8 n J (f+1) st) (aj:ys n aB st.1):Oq n J fit aB dB st (yg aB rec dB (hJ fit dB) st):=by
 unfold yg;have hA:∀ k,0<=br st.2 k:=λk=>(aW.2.1 k).1;have qF:dB.toNat<st.1.length:=by have:=aW.1;omega
 refine D0 (λi b=>uL n J st (hJ fit dB) i b/\b.1=st.1/\(∀ k (ak:k<(hJ fit dB).length),k<i->1<=br b.2 (hJ fit dB)[k])/\wG fit aB st.1 st.2 b.2)
  (λr:Bool×cB=>Oq n J fit aB dB st r) (hJ fit dB) st ⟨⟨aW.1,λk=>⟨Int.le_refl _,by simp⟩⟩,rfl,λk _ ak=>by omega,Wj⟩ (λi U b af=>?_) λb af=>?_
 ·obtain ⟨Eh,hw,s9,q4⟩:=af;have aA:=aw.2 _ (List.getElem_mem U);have mS:=List.getElem_mem U;have mO:∀ k,0<=br b.2 k:=λk=>(HN aW Eh k).1;have LX:∀ k,br st.2 k<=br b.2 k:=λk=>(Eh.2 k).1;revert aA mS;generalize mW:(hJ fit dB)[i]=s;intro aA mS;unfold rZ;by_cases M:br b.2 s+1 > 1
  ·simp only [M,decide_true,if_true];have Ou:∀ k,br b.2 k<=br (cC b.2 s (br b.2 s+1)) k:=λk=>by
    rw [nU];grind
   refine ⟨by have:=N5 aw.1 U aW Eh (by grind);grind,hw,λk ak Ij=>?_,?_⟩
   ·grind
   ·refine Wh mO Ou q4 λs0 dC aK=>?_;rw [nU] at aK;grind
  ·have bm:br b.2 s=0:=by grind
   have Ry:br st.2 s=0:=by grind
   obtain ⟨r0,nx⟩:=N6 aw.1 U (by omega) aW Eh (by grind);rw [mW] at r0 nx;simp only [M,decide_false,Bool.false_eq_true,if_false];by_cases aa:((dy b.1 s).length:Int)<aB.getD s.toNat 0
   ·simp only [aa,decide_true,if_true];rw [hw] at aa ⊢;have Ov:¬r4 aB st.1 s:=by unfold r4;omega
    refine ⟨λh=>(by cases h),λ_=>⟨λk ak=>?_,?_,λs' kt q5=>?_⟩,λC fO=>⟨λOw=>?_,λ_ k ak cI=>?_⟩,λ_ k ak hu Wm=>?_⟩
    ·show (st.1.set dB.toNat s).getD k 0=_\/(br st.2 ((st.1.set dB.toNat s).getD k 0)=0/\(st.1.set dB.toNat s).getD k 0∈_)
     rw [oA qF];grind
    ·grind
    ·show ((dy (st.1.set dB.toNat s) s').length:Int)<=_;by_cases e:s'=s
     ·subst e;have:=Wl (s:=s') qF;omega
     ·have:=Wk qF e;have:=aj s' kt q5;omega
    ·exact absurd (fO dB Ow s mS).1 Ov
    ·change (st.1.set dB.toNat s).getD k 0≠_ at cI;show ¬C (k:Int)/\∀ c,C c->(st.1.set dB.toNat s).getD k 0 ∉ _;rw [oA qF] at cI ⊢;split at cI
     ·rename_i e;rw [if_pos e];refine ⟨λer=>?_,λc hc xM=>absurd (fO c hc s xM).1 Ov⟩;have:(k:Int)=dB:=by omega
      rw [this] at er;exact absurd (fO dB er s mS).1 Ov
     omega
    grind
   ·simp only [aa,decide_false,Bool.false_eq_true,if_false];rw [hw] at aa ⊢;rw [hw] at r0 nx;have Wn:r4 aB st.1 s:=by unfold r4;omega
    have Wo:(dy st.1 s).length<=10:=by have:=HK st.1 s;have:=aW.1;omega
    have Wp:∀ j∈dy st.1 s,0<=j/\j<(J:Int):=λj aC=>by have:=uK.1 aC;have:=aW.1;omega
    have wI:=akQ cm nV r0 aj (dy st.1 s) Wo Wp (λj aC e=>by have:=(uK.1 aC).2.2;grind);have uP:=N4 cm r0 (dy st.1 s) Wo Wp;revert wI uP;generalize qX rec (dy st.1 s) (st.1,cC b.2 s (br b.2 s+1))=r;intro wI uP;have j_:∀ k,br st.2 k<=br (cC b.2 s (br b.2 s+1)) k/\br b.2 k<=br (cC b.2 s (br b.2 s+1)) k:=λk=>by
     have:=LX k;rw [nU];grind
    have z5:br (cC b.2 s (br b.2 s+1)) s=1:=by rw [nU,if_pos rfl,bm];rfl
    have oW:∀ k,br (cC b.2 s (br b.2 s+1)) k<=br r.2.2 k:=λk=>(uP.2 k).1;by_cases bV:r.1=true
    ·simp only [bV,if_true];obtain ⟨i',⟨o,Km,Ei⟩,rf⟩:=wI.yt bV;have nE:r.2.1.length=J:=uP.1;have Ej:dB.toNat<r.2.1.length:=by omega
     refine ⟨λh=>(by cases h),λ_=>⟨λk ak=>?_,?_,λs' kt q5=>?_⟩,λC fO=>⟨λOw=>?_,λ_ k ak cI=>?_⟩,λ_ k ak hu Wm=>?_⟩
     ·show (r.2.1.set dB.toNat s).getD k 0=_\/(br st.2 ((r.2.1.set dB.toNat s).getD k 0)=0/\(r.2.1.set dB.toNat s).getD k 0∈_)
      rw [oA Ej];split
      ·grind
      ·rcases i' k ak with e | ⟨aK,bq⟩
       ·exact .inl e
       ·right;refine ⟨?_,bq⟩;have a:=(j_ (r.2.1.getD k 0)).1;have d:=hA (r.2.1.getD k 0);change br (cC b.2 s (br b.2 s+1)) (r.2.1.getD k 0)=0 at aK;omega
     ·grind
     ·show ((dy (r.2.1.set dB.toNat s) s').length:Int)<=_;by_cases e:s'=s
      ·subst e;have d_:=Wl (s:=s') Ej;have hL:(dy r.2.1 s').length<(dy st.1 s').length:=by
        have al:=uK.1 Km;rw [s8,s8,nE,aW.1];refine Wc (y:=o.toNat) (λk ak qn=>?_) ?_ ?_ (List.mem_range.2 (by grind))
        ·simp only [decide_eq_true_eq] at qn ⊢;rcases i' k (List.mem_range.1 ak) with e | ⟨aK,bq⟩
         ·rw [<-qn,e]
         ·rw [qn,z5] at aK;cases aK
        ·simp only [decide_eq_true_eq];exact al.2.2
        ·simp only [decide_eq_false_iff_not];intro e;rw [e,z5] at Ei;cases Ei
       have:=aj s' kt q5;omega
      ·have:=Wk Ej e;have:=rf s' kt q5;omega
     ·have:=(wI.cl C fO).1 (fO dB Ow s mS).2;grind
     ·change (r.2.1.set dB.toNat s).getD k 0≠_ at cI;show ¬C (k:Int)/\∀ c,C c->(r.2.1.set dB.toNat s).getD k 0 ∉ _;rw [oA Ej] at cI ⊢;have oQ:∀ c,C c->s ∉ hJ fit c:=λc hc xM=>by
       have:=(wI.cl C fO).1 (fO c hc s xM).2;grind
      split at cI
      ·rename_i e;rw [if_pos e];grind
      ·rename_i e;rw [if_neg e];exact (wI.cl C fO).2 bV k ak cI
     ·show (r.2.1.set dB.toNat s).getD k 0=-1;rw [oA Ej,if_neg Wm];exact wI.Ih bV k ak hu
    ·simp only [bV,Bool.false_eq_true,if_false];have ax:r.1=false:=by grind
     obtain ⟨xE,qZ,Ii⟩:=wI.wH ax;refine ⟨nx _ uP,xE,λk ak Ij=>?_,?_⟩
     ·grind
     ·intro s0 dC aK;by_cases e:s0=s
      ·grind
      ·by_cases bq:1<=br b.2 s0
       ·obtain ⟨a,c⟩:=q4 s0 dC bq;grind
       ·refine Ii s0 ?_ aK;show br (cC b.2 s (br b.2 s+1)) s0=0;rw [nU,if_neg e];grind
 ·obtain ⟨Eh,hw,s9,q4⟩:=af;refine ⟨λ_=>⟨hw,λs aA=>?_,q4⟩,λh=>(by cases h),λC fO=>⟨λ_=>rfl,λh=>(by cases h)⟩,λh=>(by cases h)⟩;obtain ⟨k,ak,rfl⟩:=List.mem_iff_getElem.1 aA;grind
theorem Wq {n:Nat} {fit:List (List Int)} {aB:List Int} (hc:s3 n fit aB):∀ f,Ot n fit.length fit aB f (jQ fit aB f)
 | 0=>λj st _ _ h _=>absurd h.2.2 (by omega)
 | f+1=>λj st aW M h aj=>akT (AP hc f) (Wq hc f) hc.b8 aW M (HO hc j) h aj
end Go.Fer
namespace Go.Fer
open A (ab)
set_option linter.unusedVariables false
set_option linter.unusedSimpArgs false
def gy:Nat->(Nat->Int)->Int
 | 0,_=>0
 | n+1,f=>gy n f+f n
theorem yu {f g:Nat->Int}:∀ {n:Nat},(∀ i,i<n->f i=g i)->gy n f=gy n g
 | 0,_=>rfl
 | n+1,h=>by
  show gy n f+f n=gy n g+g n;rw [yu (n:=n) λi U=>h i (by omega),h n (by omega)]
theorem Wr {f g:Nat->Int}:∀ {n:Nat},(∀ i,i<n->f i<=g i)->gy n f<=gy n g
 | 0,_=>Int.le_refl _
 | n+1,h=>by
  show gy n f+f n<=gy n g+g n;have a:=Wr (n:=n) λi U=>h i (by omega);grind
theorem AY:∀ {n:Nat},gy n (λ_=>0)=0
 | 0=>rfl
 | n+1=>by show gy n (λ_=>0)+0=0;rw [AY];rfl
theorem akU {f:Nat->Int} {n:Nat} (h:∀ i,i<n->0<=f i):0<=gy n f:=by
 have:=Wr (f:=λ_=>0) (g:=f) (n:=n) h;rw [AY] at this;omega
theorem Ox {f g:Nat->Int} {k:Nat}:∀ {n:Nat},k<n->(∀ i,i<n->i≠k->f i=g i)->gy n f=gy n g+(f k - g k)
 | 0,h,_=>by omega
 | n+1,ak,h=>by
  show gy n f+f n=gy n g+g n+_;by_cases e:k=n
  ·subst e;rw [yu (g:=g) λi U=>h i (by omega) (by omega)];omega
  ·rw [Ox (n:=n) (by omega) λi U=>h i (by omega),h n (by omega) (λx=>e x.symm)];omega
theorem Oy {ao:Type} {p q r:ao->Bool}:∀ {l:List ao},(∀ x∈l,(if p x=true then 1 else 0)=(if q x=true then 1 else 0)+(if r x=true then 1 else (0:Nat)))->l.countP p=l.countP q+l.countP r
 | [],_=>rfl
 | x::l,h=>by
  rw [List.countP_cons,List.countP_cons,List.countP_cons,Oy (l:=l) λy aJ=>h y (List.mem_cons_of_mem _ aJ)];grind
theorem Ws (N:Nat->Bool) (work:List Int):∀ n,gy n (λi=>if N i=true then ((work.countP λx=>decide (x=(i:Int)):Nat):Int) else 0)=((work.countP λx=>decide (0<=x)&&decide (x<(n:Int))&&N x.toNat:Nat):Int)
 | 0=>by
  symm;show ((_:Nat):Int)=0;have:(work.countP λx=>decide (0<=x)&&decide (x<((0:Nat):Int))&&N x.toNat)=0:=by
   grind
  omega
 | n+1=>by
  show gy n _+(if N n=true then ((work.countP λx=>decide (x=(n:Int)):Nat):Int) else 0)=_;rw [Ws N work n];by_cases hk:N n=true
  ·rw [if_pos hk];rw [Oy (p:=λx=>decide (0<=x)&&decide (x<((n+1:Nat):Int))&&N x.toNat) (q:=λx=>decide (0<=x)&&decide (x<(n:Int))&&N x.toNat) (r:=λx=>decide (x=(n:Int))) (l:=work) λx _=>?_]
   ·omega
   ·by_cases e:x=(n:Int)
    ·subst e;have M:¬(n:Int)<(n:Int):=by omega
     have aa:(n:Int)<((n+1:Nat):Int):=by omega
     have an:(0:Int)<=(n:Int):=by omega
     simp only [M,aa,an,hk,Int.toNat_natCast,decide_true,decide_false,Bool.and_true,Bool.and_false,Bool.false_and];rfl
    ·have M:decide (x<((n+1:Nat):Int))=decide (x<(n:Int)):=by rw [decide_eq_decide];omega
     simp only [e,M,decide_false];simp
  grind
theorem Oz {f:Int->Int->Int} (h:∀ n s,n<=f n s):∀ (l:List Int) (n:Int),n<=l.foldl f n
 | [],n=>Int.le_refl _
 | x::l,n=>Int.le_trans (h n x) (Oz h l _)
theorem Wt {f:Int->Int->Int} (h:∀ n s,n<=f n s) {v s:Int} (aj:∀ n,v<=f n s):∀ {l:List Int} (n:Int),s∈l->v<=l.foldl f n
 | [],_,aA=>by cases aA
 | x::l,n,aA=>by
  rcases List.mem_cons.1 aA with e | e
  ·subst e;exact Int.le_trans (aj n) (Oz h l _)
  ·exact Wt (l:=l) h aj (f n x) e
theorem Wu {f:Int->Int->Int} {B:Int}:∀ {l:List Int} {n:Int},n<=B->(∀ n s,s∈l->n<=B->f n s<=B)->l.foldl f n<=B
 | [],n,h,_=>h
 | x::l,n,h,ax=>Wu (l:=l) (ax n x (by simp) h) λn s aA=>ax n s (List.mem_cons_of_mem _ aA)
theorem OA (j:List Int) (bO:List (List Int)) (aB:List Int):fA bO aB<=fA (j::bO) aB:=by
 rw [fA];refine Oz (λn s=>?_) j _;omega
theorem OB {j:List Int} (bO:List (List Int)) {aB:List Int} {s:Int} (aA:s∈j) (h:aB.getD s.toNat 0 > 0):1+fA bO (aB.set s.toNat (aB.getD s.toNat 0 - 1))<=fA (j::bO) aB:=by
 rw [fA];refine Wt (λn s=>?_) (λn=>?_) _ aA
 ·split
  ·split<;>omega
  ·omega
 ·rw [if_pos (by simpa using h)];split<;>omega
theorem OC {j:List Int} {bO:List (List Int)} {aB:List Int} {B:Int} (h:fA bO aB<=B) (aA:∀ s∈j,aB.getD s.toNat 0 > 0->1+fA bO (aB.set s.toNat (aB.getD s.toNat 0 - 1))<=B):fA (j::bO) aB<=B:=by
 rw [fA];refine Wu h λn s hm aI=>?_;grind
theorem Ik:∀ (fit:List (List Int)) (work aB:List Int),work.length=fit.length->(∀ i:Nat,i<fit.length->work.getD i 0=-1\/work.getD i 0∈fit.getD i [])->(∀ l∈fit,∀ s∈l,0<=s/\s<(aB.length:Int))->
  (∀ s:Int,0<=s->s<(aB.length:Int)->((work.countP λx=>decide (x=s):Nat):Int)<=aB.getD s.toNat 0)->((work.countP λx=>!decide (x=-1):Nat):Int)<=fA fit aB
 | [],work,aB,aw,_,_,_=>by
  have:work=[]:=List.length_eq_zero_iff.1 aw;subst this;simp [fA]
 | j::fit,[],aB,aw,_,_,_=>by grind
 | j::fit,a::work,aB,aw,hm,ax,aj=>by
  have vW:work.length=fit.length:=by grind
  have fK:∀ i:Nat,i<fit.length->work.getD i 0=-1\/work.getD i 0∈fit.getD i []:=λi U=>by
   have:=hm (i+1) (by grind);grind
  have aW:=hm 0 (by simp);change a=-1\/a∈j at aW;by_cases e:a=-1
  ·subst e;have aO:=Ik fit work aB vW fK (λl h=>ax l (List.mem_cons_of_mem _ h)) λs M aa=>by
    grind
   rw [List.countP_cons];simp only [decide_true,Bool.not_true,Bool.false_eq_true,if_false,Nat.add_zero];exact Int.le_trans aO (OA _ _ _)
  ·have bf:a∈j:=aW.resolve_left e;obtain ⟨ch,ix⟩:=ax j (by simp) a bf;have Wv:=aj a ch ix;rw [List.countP_cons] at Wv;simp only [decide_true,if_true] at Wv;have dr:a.toNat<aB.length:=by omega
   have aO:=Ik fit work (aB.set a.toNat (aB.getD a.toNat 0 - 1)) vW fK (λl h=>by grind) λs M aa=>by
    rw [List.length_set] at aa;rw [oA dr];split
    ·grind
    grind
   have:=OB fit bf (aB:=aB) (by omega);grind
def wJ (N:Nat->Bool) (aB:List Int):Int:=gy aB.length λi=>if N i=true then aB.getD i 0 else 0
def yv (N:Nat->Bool) (fit:List (List Int)):Nat:=fit.countP λl=>!(l.all λs=>N s.toNat)
theorem OD (N:Nat->Bool):∀ (fit:List (List Int)) (aB:List Int),(∀ l∈fit,∀ s∈l,0<=s/\s<(aB.length:Int))->(∀ i,i<aB.length->0<=aB.getD i 0)->fA fit aB<=wJ N aB+(yv N fit:Int)
 | [],aB,_,aW=>by
  have:0<=wJ N aB:=akU λi U=>by
   grind
  simp only [fA,yv,List.countP_nil];omega
 | j::fit,aB,ax,aW=>by
  have aO:=OD N fit aB (λl h=>ax l (List.mem_cons_of_mem _ h)) aW;have al:yv N (j::fit)=yv N fit+if (!(j.all λs=>N s.toNat))=true then 1 else 0:=by unfold yv;grind
  refine OC (by omega) λs aA ar=>?_;obtain ⟨s0,ats⟩:=ax j (by simp) s aA;have dr:s.toNat<aB.length:=by omega
  have att:=OD N fit (aB.set s.toNat (aB.getD s.toNat 0 - 1)) (λl h=>by grind) λi U=>by
   rw [List.length_set] at U;rw [oA dr];grind
  have hc:wJ N (aB.set s.toNat (aB.getD s.toNat 0 - 1))=wJ N aB+(if N s.toNat=true then -1 else 0):=by
   unfold wJ;rw [List.length_set,Ox (k:=s.toNat) (g:=λi=>if N i=true then aB.getD i 0 else 0) dr λi U cI=>by grind];simp only [oA dr,if_true];grind
  grind
def nn (fit:List (List Int)) (some:List Int) (i:Nat):Bool:=some.any λk=>(hJ fit k).contains (i:Int)
def AZ (fit:List (List Int)) (aB some:List Int):Int:=(some.length:Int) - wJ (nn fit some) aB
def yw (J:Nat) (some:List Int):Prop:=some.Pairwise (·<·)/\∀ k∈some,0<=k/\k<(J:Int)
theorem Ww (p:Nat->Bool) (n:Nat):(((List.range n).filter p).map λ(i:Nat)=>(i:Int)).Pairwise (·<·):=
 List.Pairwise.map _ (λa b (h:a<b)=>by omega) (List.pairwise_lt_range.filter p)
theorem Wx {p:Nat->Bool} {n:Nat} {x:Int}:x∈(((List.range n).filter p).map λ(i:Nat)=>(i:Int))<->0<=x/\x<(n:Int)/\p x.toNat=true:=by
 grind
theorem Wy {J:Nat} {some:List Int} (h:yw J some):some.length=(List.range J).countP λ(j:Nat)=>some.contains (j:Int):=by
 have:some=((List.range J).filter λ(j:Nat)=>some.contains (j:Int)).map λ(i:Nat)=>(i:Int):=by
  refine Wa h.1 (Ww _ _) λx=>?_;rw [Wx,List.contains_iff_mem];constructor
  ·intro au;have:=h.2 x au;grind
  grind
 grind
theorem Wz {fit:List (List Int)} {some:List Int} {k s:Int} (ak:k∈some) (aA:s∈hJ fit k) (aW:0<=s):nn fit some s.toNat=true:=by
 unfold nn;grind
theorem akV {fit:List (List Int)} {m:Nat} {some:List Int} (ax:∀ l∈fit,∀ s∈l,0<=s/\s<(m:Int)) (h:yw fit.length some):yv (nn fit some) fit+some.length<=fit.length:=by
 rw [Wy h];unfold yv;have an:=List.length_eq_countP_add_countP (l:=fit) λl=>!(l.all λs=>nn fit some s.toNat);have a8:((List.range fit.length).countP λ(j:Nat)=>some.contains (j:Int))<=fit.countP λa=>decide (¬(!(a.all λs=>nn fit some s.toNat))=true):=by
  rw [<-Oo (λa=>decide (¬(!(a.all λs=>nn fit some s.toNat))=true)) fit []];refine List.countP_mono_left λi U hc=>?_;rw [List.contains_iff_mem] at hc;have:((fit.getD i []).all λs=>nn fit some s.toNat)=true:=by
   rw [List.all_eq_true];intro s aA;have U:=List.mem_range.1 U;have hm:fit.getD i []∈fit:=by grind
   exact Wz (k:=(i:Int)) hc (by grind) (ax _ hm s aA).1
  grind
 omega
theorem akW {fit:List (List Int)} {aB some:List Int} (ax:∀ l∈fit,∀ s∈l,0<=s/\s<(aB.length:Int)) (aW:∀ i,i<aB.length->0<=aB.getD i 0) (h:yw fit.length some):fA fit aB<=(fit.length:Int) - AZ fit aB some:=by
 have M:=OD (nn fit some) fit aB ax aW;have aa:=akV ax h;unfold AZ;omega
theorem akX {n:Nat} {fit:List (List Int)} {aB work some:List Int} (ax:∀ l∈fit,∀ s∈l,0<=s/\s<(aB.length:Int)) (aw:work.length=fit.length) (aA:aB.length=n) (aj:ys n aB work)
  (hm:∀ i:Nat,i<fit.length->work.getD i 0=-1\/work.getD i 0∈hJ fit (i:Int)) (h:yw fit.length some) (hu:∀ i:Nat,i<fit.length->work.getD i 0=-1->(i:Int)∈some)
  (hc:Ig fit aB work λj=>j∈some):AZ fit aB some=((dy work (-1)).length:Int):=by
 have qZ:∀ k s,s∈hJ fit k->0<=s/\s<(n:Int):=λk s Il=>by
  by_cases ak:k.toNat<fit.length
  ·have hm:hJ fit k∈fit:=by unfold hJ;rw [List.getD_eq_getElem?_getD,List.getElem?_eq_getElem ak];exact List.getElem_mem ak
   rw [<-aA];exact ax _ hm s Il
  ·unfold hJ at Il;rw [List.getD_eq_getElem?_getD,List.getElem?_eq_none (by omega)] at Il;cases Il
 have M:wJ (nn fit some) aB=gy n λi=>if nn fit some i=true then ((work.countP λx=>decide (x=(i:Int)):Nat):Int) else 0:=by
  unfold wJ;rw [aA];refine yu λi U=>?_;by_cases hk:nn fit some i=true
  ·rw [if_pos hk,if_pos hk,<-If];have OE:=hk;unfold nn at OE;rw [List.any_eq_true] at OE;obtain ⟨k,ak,km⟩:=OE;rw [List.contains_iff_mem] at km;have a:=(hc k ak _ km).1;have b:=aj (i:Int) (by omega) (by omega);unfold r4 at a;rw [Int.toNat_natCast] at a b;omega
  grind
 unfold AZ;rw [M,Ws,Wy h,s8];rw [<-Oo (λx=>decide (0<=x)&&decide (x<(n:Int))&&nn fit some x.toNat) work 0,aw];rw [Oy (p:=λ(j:Nat)=>some.contains (j:Int)) (q:=λj=>decide (work.getD j 0=-1)) (r:=λj=>decide (0<=work.getD j 0)&&decide (work.getD j 0<(n:Int))&&nn fit some (work.getD j 0).toNat) (l:=List.range fit.length) λj aC=>?_]
 ·omega
 ·have aC:=List.mem_range.1 aC;by_cases e:work.getD j 0=-1
  ·simp_all
  ·have WA:=(hm j aC).resolve_left e;have W:=qZ _ _ WA;have an:some.contains (j:Int)=nn fit some (work.getD j 0).toNat:=by
    rw [Bool.eq_iff_iff,List.contains_iff_mem];constructor
    ·intro yx;exact Wz yx WA W.1
    ·intro hk;unfold nn at hk;rw [List.any_eq_true] at hk;obtain ⟨k,ak,km⟩:=hk;rw [List.contains_iff_mem,Int.toNat_of_nonneg W.1] at km;exact (hc k ak _ km).2 _ (uK.2 ⟨by omega,by omega,by rfl⟩)
   simp_all
structure yy (n:Nat) (fit:List (List Int)) (aB:List Int) (k:Nat) (work:List Int):Prop where
 len:work.length=fit.length
 val:ys n aB work
 mem:∀ i:Nat,i<fit.length->work.getD i 0=-1\/work.getD i 0∈hJ fit (i:Int)
 bZ:∀ i:Nat,k<=i->i<fit.length->work.getD i 0=-1
 A0:∃ C,Ig fit aB work C/\(∀ c,C c->0<=c/\c<(k:Int))/\∀ i:Nat,i<k->work.getD i 0=-1->C (i:Int)
theorem akY {n:Nat} {fit:List (List Int)} {aB:List Int} (hc:s3 n fit aB) {k:Nat} (ak:k<fit.length) {work:List Int} (h:yy n fit aB k work):yy n fit aB (k+1) (jQ fit aB 11 (k:Int) (work,[])).2.1:=by
 have lR:o8 n fit.length 11 (work,[]):=N9 hc.VR h.len;have ar:=AP hc 11 (k:Int) (work,[]) (by omega) (by omega) lR;have W:=Wq hc 11 (k:Int) (work,[]) (by omega) (by omega) lR h.val;revert ar W;generalize jQ fit aB 11 (k:Int) (work,[])=r;intro ar W;have qZ:∀ j s,s∈hJ fit j->0<=s/\s<(n:Int):=λj s aA=>(HO hc j).2 s aA;obtain ⟨C,fO,A1,A2⟩:=h.A0;have nE:r.2.1.length=fit.length:=ar.1;by_cases af:r.1=true
 ·obtain ⟨i',akS,rf⟩:=W.yt af;have WB:=(W.cl C fO).2 af;have pI:∀ c,C c->∀ s∈hJ fit c,dy r.2.1 s=dy work s:=λc lk s aA=>by
   unfold dy;rw [nE,h.len];congr 1;refine List.filter_congr λi U=>?_;rw [decide_eq_decide];have U:=List.mem_range.1 U;by_cases e:r.2.1.getD i 0=work.getD i 0
   ·rw [e]
   ·obtain ⟨dO,e6⟩:=WB i U e;constructor
    ·grind
    ·intro bq;refine absurd ((fO c lk s aA).2 (i:Int) (uK.2 ⟨by omega,by rw [h.len];omega,?_⟩)) dO;simp_all
  refine ⟨nE,rf,λi U=>?_,λi Ij U=>?_,C,λc lk s aA=>?_,λc lk=>by grind,λi U hu=>?_⟩
  ·rcases i' i U with e | ⟨aK,bq⟩
   ·rw [e];exact h.mem i U
   grind
  ·exact W.Ih af i U (h.bZ i (by omega) U) (by omega)
  ·have du:=pI c lk s aA;have:=fO c lk s aA;unfold r4 at this ⊢;grind
  ·by_cases e:i=k
   ·grind
   ·rcases i' i (by omega) with e | ⟨aK,bq⟩
    ·rw [e] at hu;exact A2 i (by omega) hu
    ·rw [hu] at bq;have:=qZ _ _ bq;omega
 ·have ax:r.1=false:=by grind
  obtain ⟨hw,s9,q4⟩:=W.wH ax;change r.2.1=work at hw;rw [hw];have lN:∀ s,1<=br r.2.2 s->r4 aB work s/\∀ h∈dy work s,∀ s'∈hJ fit h,1<=br r.2.2 s':=λs aA=>q4 s rfl aA;refine ⟨h.len,h.val,h.mem,λi Ij U=>h.bZ i (by omega) U,λc=>C c\/c=(k:Int)\/∃ s,0<=s/\1<=br r.2.2 s/\c∈dy work s,λc lk s aA=>?_,λc lk=>?_,λi U hu=>?_⟩
  ·have AU:1<=br r.2.2 s->r4 aB work s/\∀ h∈dy work s,C h\/h=(k:Int)\/∃ s,0<=s/\1<=br r.2.2 s/\h∈dy work s:=λhm=>
    ⟨(lN s hm).1,λh du=>.inr (.inr ⟨s,(qZ c s aA).1,hm,du⟩)⟩
   rcases lk with e | e | ⟨s0,Kk,WC,OF⟩
   ·exact ⟨(fO c e s aA).1,λh du=>.inl ((fO c e s aA).2 h du)⟩
   ·subst e;exact AU (s9 s aA)
   ·exact AU ((lN s0 WC).2 c OF s aA)
  ·rcases lk with e | e | ⟨s0,Kk,WC,OF⟩
   ·grind
   ·omega
   ·have du:=uK.1 OF;refine ⟨du.1,?_⟩;have aw:=h.len;by_cases e:c<((k+1:Nat):Int)
    ·exact e
    ·have:=h.bZ c.toNat (by omega) (by omega);omega
  grind
def Ek (fit:List (List Int)) (aB:List Int):List Int:=(List.range fit.length).foldl (λwork (j:Nat)=>(jQ fit aB 11 (j:Int) (work,[])).2.1) (List.replicate fit.length (-1))
theorem akZ (w:aT) (aB:List Int) (bO:List (Int×Int)):uO w aB bO=Ek (jA w bO) aB:=by
 unfold uO Ek;have:(jA w bO).length=bO.length:=by simp [jA]
 grind
theorem OG {J i:Nat} (h:i<J):(List.replicate J (-1:Int)).getD i 0=-1:=by
 grind
theorem ak0 {n:Nat} {fit:List (List Int)} {aB:List Int} (hc:s3 n fit aB) (aW:∀ i,i<aB.length->0<=aB.getD i 0):yy n fit aB fit.length (Ek fit aB):=by
 unfold Ek;have key:∀ k,k<=fit.length->yy n fit aB k ((List.range k).foldl (λwork (j:Nat)=>(jQ fit aB 11 (j:Int) (work,[])).2.1) (List.replicate fit.length (-1))):=by
  intro k;induction k with
  | zero=>
   intro _;refine ⟨by simp,λs kt q5=>?_,λi U=>.inl (OG U),λi _ U=>OG U,λ_=>False,λ_ h=>h.elim,λ_ h=>h.elim,λi U=>by omega⟩;show ((dy (List.replicate fit.length (-1)) s).length:Int)<=_;have:(dy (List.replicate fit.length (-1)) s).length=0:=by
    rw [If,List.countP_eq_zero];grind
   grind
  | succ k aO=>
   intro ak;rw [List.range_succ,List.foldl_append];exact akY hc (by omega) (aO (by omega))
 grind
open Classical in
theorem WD {n:Nat} {fit:List (List Int)} {aB work:List Int} (dr:aB.length=n) (CJ:∀ l∈fit,∀ s∈l,0<=s/\s<(n:Int)) (aW:∀ i,i<aB.length->0<=aB.getD i 0) (h:yy n fit aB fit.length work) :
  fA fit aB=(fit.length:Int) - ((dy work (-1)).length:Int)/\∃ some,yw fit.length some/\AZ fit aB some=((dy work (-1)).length:Int):=by
 have ax:∀ l∈fit,∀ s∈l,0<=s/\s<(aB.length:Int):=λl aw s aA=>by rw [dr];exact CJ l aw s aA
 have M:=Ik fit work aB h.len (λi U=>by have:=h.mem i U;unfold hJ at this;rw [Int.toNat_natCast] at this;exact this) ax λs kt q5=>by
  rw [<-If];exact h.val s kt (by rw [<-dr];exact q5)
 have aa:=List.length_eq_countP_add_countP (l:=work) λx=>decide (x=-1);have an:(work.countP λx=>decide ¬decide (x=(-1:Int))=true)=work.countP λx=>!decide (x=-1):=List.countP_congr λx _=>by simp
 rw [an,<-If,h.len] at aa;obtain ⟨C,fO,A1,A2⟩:=h.A0;have g6:∀ x,x∈(((List.range fit.length).filter λ(j:Nat)=>decide (C (j:Int))).map λ(i:Nat)=>(i:Int))<->C x:=λx=>by
  rw [Wx];constructor
  ·rintro ⟨a,b,c⟩;rw [Int.toNat_of_nonneg a] at c;simpa using c
  ·intro au;have:=A1 x au;exact ⟨this.1,this.2,by rw [Int.toNat_of_nonneg this.1];simpa using au⟩
 have cm:yw fit.length (((List.range fit.length).filter λ(j:Nat)=>decide (C (j:Int))).map λ(i:Nat)=>(i:Int)):=⟨Ww _ _,λk ak=>A1 k ((g6 k).1 ak)⟩
 have a8:=akX ax h.len dr h.val h.mem cm (λi U hu=>(g6 _).2 (A2 i U hu)) λj aC s aA=>⟨(fO j ((g6 j).1 aC) s aA).1,λo al=>(g6 o).2 ((fO j ((g6 j).1 aC) s aA).2 o al)⟩
 have bV:=akW ax aW cm;exact ⟨by omega,_,cm,a8⟩
theorem ak1 {n:Nat} {fit:List (List Int)} {aB work:List Int} (hc:s3 n fit aB) (aW:∀ i,i<aB.length->0<=aB.getD i 0) (h:yy n fit aB fit.length work) :
  fA fit aB=(fit.length:Int) - ((dy work (-1)).length:Int)/\∃ some,yw fit.length some/\AZ fit aB some=((dy work (-1)).length:Int):=WD hc.sl (λl aw=>(hc.VS l aw).2) aW h
theorem ak2 {n:Nat} {fit:List (List Int)} {aB:List Int} (hc:s3 n fit aB) (aW:∀ i,i<aB.length->0<=aB.getD i 0):fA fit aB=(fit.length:Int) - ((dy (Ek fit aB) (-1)).length:Int):=(ak1 hc aW (ak0 hc aW)).1
end Go.Fer
namespace Go.Fer
open A (ab)
set_option linter.unusedVariables false
set_option linter.unusedSimpArgs false
theorem WE (a b:Int):(if a=b then 1 else 0)=(if b=a then 1 else (0:Nat)):=by
 grind
def fg (g:List Int) (j:Int):Nat:=g.countP λx=>decide (x=j)
theorem Im:∀ {g:List Int} {i:Nat} {x:Int} (j:Int),i<g.length->fg (g.set i x) j+(if g.getD i 0=j then 1 else 0)=fg g j+(if x=j then 1 else 0)
 | [],i,x,j,h=>by grind
 | y::g,0,x,j,h=>by
  unfold fg;grind
 | y::g,i+1,x,j,h=>by
  have:=Im (g:=g) (i:=i) (x:=x) j (by grind);unfold fg at *
  grind
theorem Io {g:List Int} {i:Nat} {j:Int} (U:i<g.length) (h:g.getD i 0=j):0<fg g j:=by
 unfold fg;grind
theorem WG {g:List Int} {i k:Nat} {j:Int} (aC:j≠-1) (h:fg g j<=1) (U:i<g.length) (ak:k<g.length) (M:g.getD i 0=j) (aa:g.getD k 0=j):i=k:=by
 by_cases e:i=k
 ·exact e
 ·have a:=Im (x:=-1) j U;rw [if_pos M,if_neg λe=>aC e.symm] at a;have b:0<fg (g.set i (-1)) j:=Io (i:=k) (by grind) (by grind);omega
def oB (gd:Nat->Int->Bool) (rec:Int->cB->Bool×cB) (ad:Int) (i:Nat) (st:cB):ab cB (Bool×cB):=
 if (decide (br st.2 (i:Int) > 0)||!gd i ad)=true then .next st
 else if decide (st.1.getD i 0=-1)=true then .done (true,(st.1.set i ad,cC st.2 (i:Int) (br st.2 (i:Int)+1)))
 else if (rec (st.1.getD i 0) (st.1,cC st.2 (i:Int) (br st.2 (i:Int)+1))).1=true then .done (true,((rec (st.1.getD i 0) (st.1,cC st.2 (i:Int) (br st.2 (i:Int)+1))).2.1.set i ad,(rec (st.1.getD i 0) (st.1,cC st.2 (i:Int) (br st.2 (i:Int)+1))).2.2))
 else .next (rec (st.1.getD i 0) (st.1,cC st.2 (i:Int) (br st.2 (i:Int)+1))).2
def kC (gd:Nat->Int->Bool) (m:Nat):Nat->Int->cB->Bool×cB
 | 0=>λ_ st=>(false,st)
 | f+1=>λad st=>gO (oB gd (kC gd m f) ad) (λst=>(false,st)) (List.range m) st
def OH (m J:Nat) (g:List Int):Prop:=∀ i,i<m->g.getD i 0=-1\/(0<=g.getD i 0/\g.getD i 0<(J:Int))
structure yz (m J f:Nat) (st:cB):Prop where
 len:st.1.length=m
 lV:OH m J st.1
 seen:∀ k,0<=br st.2 k/\br st.2 k<=1
 cQ:jh m st.2<f
structure OI (m J:Nat) (st r:cB):Prop where
 len:r.1.length=m
 lV:OH m J r.1
 seen:∀ k,br st.2 k<=br r.2 k/\br r.2 k<=1
def WH (gd:Nat->Int->Bool) (m:Nat) (g:List Int) (C:Int->Prop):Prop:=∀ j,C j->∀ i,i<m->gd i j=true->g.getD i 0≠-1/\C (g.getD i 0)
def WI (gd:Nat->Int->Bool) (m:Nat) (g:List Int) (s s':List (Int×Int)):Prop:=∀ i,i<m->br s (i:Int)=0->1<=br s' (i:Int)->g.getD i 0≠-1/\∀ k,k<m->gd k (g.getD i 0)=true->1<=br s' (k:Int)
structure OJ (gd:Nat->Int->Bool) (m:Nat) (ad:Int) (st:cB) (r:Bool×cB):Prop where
 wH:r.1=false->r.2.1=st.1/\(∀ i,i<m->gd i ad=true->1<=br r.2.2 (i:Int))/\WI gd m st.1 st.2 r.2.2
 yt:r.1=true->(∀ i,i<m->r.2.1.getD i 0=st.1.getD i 0\/(br st.2 (i:Int)=0/\gd i (r.2.1.getD i 0)=true))/\∀ j,j≠-1->fg r.2.1 j=fg st.1 j+(if j=ad then 1 else 0)
 cl:∀ C,WH gd m st.1 C->(C ad->r.1=false)/\(r.1=true->∀ i,i<m->r.2.1.getD i 0≠st.1.getD i 0->∀ c,C c->gd i c=false)
def WJ (gd:Nat->Int->Bool) (m J f:Nat) (rec:Int->cB->Bool×cB):Prop:=∀ ad st,0<=ad->ad<(J:Int)->yz m J f st->OI m J st (rec ad st).2/\OJ gd m ad st (rec ad st)
theorem ak3 {gd:Nat->Int->Bool} {m J f:Nat} {rec:Int->cB->Bool×cB} (nV:WJ gd m J f rec) {ad:Int} (Ei:0<=ad) (WK:ad<(J:Int)) {st:cB} (aW:yz m J (f+1) st) :
  OI m J st (gO (oB gd rec ad) (λst=>(false,st)) (List.range m) st).2/\OJ gd m ad st (gO (oB gd rec ad) (λst=>(false,st)) (List.range m) st):=by
 refine D0 (λk b=>b.1=st.1/\(∀ q,br st.2 q<=br b.2 q/\br b.2 q<=1)/\(∀ i,i<k->i<m->gd i ad=true->1<=br b.2 (i:Int))/\WI gd m st.1 st.2 b.2)
  (λr:Bool×cB=>OI m J st r.2/\OJ gd m ad st r) (List.range m) st ⟨rfl,λq=>⟨Int.le_refl _,(aW.seen q).2⟩,λi U=>by omega,λi _ M aa=>by omega⟩ (λi U b af=>?_) λb af=>?_
 ·obtain ⟨hw,mW,s9,lN⟩:=af;have U:i<m:=by grind
  rw [List.getElem_range];have mO:∀ q,0<=br b.2 q:=λq=>Int.le_trans (aW.seen q).1 (mW q).1;unfold oB;by_cases hc:(decide (br b.2 (i:Int) > 0)||!gd i ad)=true
  ·grind
  ·rw [if_neg hc];simp only [Bool.or_eq_true,not_or,decide_eq_true_eq,Bool.not_eq_true',Bool.not_eq_false] at hc;obtain ⟨bm,aL⟩:=hc;have bm:br b.2 (i:Int)=0:=by grind
   have Ry:br st.2 (i:Int)=0:=by have:=(mW i).1;have:=(aW.seen i).1;omega
   have qu:i<st.1.length:=by rw [aW.len];exact U
   have j_:∀ q,br b.2 q<=br (cC b.2 (i:Int) (br b.2 (i:Int)+1)) q/\br (cC b.2 (i:Int) (br b.2 (i:Int)+1)) q<=1:=λq=>by
    have:=mW q;rw [nU];omega
   have atu:br (cC b.2 (i:Int) (br b.2 (i:Int)+1)) (i:Int)=1:=by rw [nU,if_pos rfl,bm];rfl
   by_cases ax:st.1.getD i 0=-1
   ·rw [hw,if_pos (by grind)];refine ⟨⟨by show (st.1.set i ad).length=m;rw [List.length_set];exact aW.len,λk ak=>?_,λq=>⟨Int.le_trans (mW q).1 (j_ q).1,(j_ q).2⟩⟩,λh=>(by cases h),λ_=>⟨λk ak=>?_,λj aC=>?_⟩,λC fO=>⟨λyA=>?_,λ_ k ak cI c hc=>?_⟩⟩
    ·show (st.1.set i ad).getD k 0=-1\/(0<=(st.1.set i ad).getD k 0/\(st.1.set i ad).getD k 0<(J:Int))
     rw [oA qu];split
     ·omega
     ·exact aW.lV k ak
    ·grind
    ·have:=Im (x:=ad) j qu;grind
    ·exact absurd ax (fO ad yA i U aL).1
    ·change (st.1.set i ad).getD k 0≠_ at cI;rw [oA qu] at cI;split at cI
     ·rename_i e;subst e;cases s5:gd k c with
      | false=>rfl
      | true=>exact absurd ax (fO c hc k U s5).1
     omega
   ·rw [hw,if_neg (by grind)];have ks:=(aW.lV i U).resolve_left ax;have wK:yz m J f (st.1,cC b.2 (i:Int) (br b.2 (i:Int)+1)):=by
     refine ⟨aW.len,aW.lV,λq=>⟨Int.le_trans (mO q) (j_ q).1,(j_ q).2⟩,?_⟩;have M:=N0 (n:=m) (m:=b.2) (s:=(i:Int)) (v:=br b.2 (i:Int)+1) (by omega) (by omega) bm (by omega);have aa:=HL (n:=m) (a:=st.2) (b:=b.2) λk=>⟨(aW.seen k).1,(mW k).1⟩
     have an:=aW.cQ;grind
    obtain ⟨ar,W⟩:=nV (st.1.getD i 0) _ ks.1 ks.2 wK;revert ar W;generalize rec (st.1.getD i 0) (st.1,cC b.2 (i:Int) (br b.2 (i:Int)+1))=r;intro ar W;have z8:∀ q,br (cC b.2 (i:Int) (br b.2 (i:Int)+1)) q<=br r.2.2 q:=λq=>(ar.seen q).1;by_cases bV:r.1=true
    ·rw [if_pos bV];obtain ⟨i',A3⟩:=W.yt bV;have nE:i<r.2.1.length:=by rw [ar.len];exact U
     have Cf:r.2.1.getD i 0=st.1.getD i 0:=by
      grind
     refine ⟨⟨by show (r.2.1.set i ad).length=m;rw [List.length_set];exact ar.len,λk ak=>?_,λq=>⟨Int.le_trans (mW q).1 (Int.le_trans (j_ q).1 (z8 q)),(ar.seen q).2⟩⟩,λh=>(by cases h),λ_=>⟨λk ak=>?_,λj aC=>?_⟩,λC fO=>⟨λyA=>?_,λ_ k ak cI c hc=>?_⟩⟩
     ·show (r.2.1.set i ad).getD k 0=-1\/(0<=(r.2.1.set i ad).getD k 0/\(r.2.1.set i ad).getD k 0<(J:Int))
      rw [oA nE];split
      ·omega
      ·exact ar.lV k ak
     ·show (r.2.1.set i ad).getD k 0=_\/(_/\gd k ((r.2.1.set i ad).getD k 0)=true)
      rw [oA nE];split
      ·grind
      ·rcases i' k ak with e | ⟨aK,bq⟩
       ·grind
       ·right;refine ⟨?_,bq⟩;have a:=(j_ (k:Int)).1;have d:=mW (k:Int);have c:=(aW.seen (k:Int)).1;grind
     ·have a:=Im (x:=ad) j nE;have d:=A3 j aC;change fg r.2.1 j=fg st.1 j+_ at d;rw [Cf] at a;show fg (r.2.1.set i ad) j=_;rw [WE j ad];rw [WE j (st.1.getD i 0)] at d;omega
     ·have:=(W.cl C fO).1 (fO ad yA i U aL).2;grind
     ·change (r.2.1.set i ad).getD k 0≠_ at cI;rw [oA nE] at cI;split at cI
      ·rename_i e;subst e;cases s5:gd k c with
       | false=>rfl
       | true=>
        have:=(W.cl C fO).1 (fO c hc k U s5).2;grind
      ·exact (W.cl C fO).2 bV k ak cI c hc
    ·rw [if_neg bV];have CL:r.1=false:=by grind
     obtain ⟨xE,qZ,q4⟩:=W.wH CL;refine ⟨xE,λq=>⟨Int.le_trans (mW q).1 (Int.le_trans (j_ q).1 (z8 q)),(ar.seen q).2⟩,λk ak El Gm=>?_,λk El dC aK=>?_⟩
     ·grind
     ·by_cases e:k=i
      ·grind
      ·by_cases bq:1<=br b.2 (k:Int)
       ·obtain ⟨a,c⟩:=lN k El dC bq;grind
       ·refine q4 k El ?_ aK;show br (cC b.2 (i:Int) (br b.2 (i:Int)+1)) (k:Int)=0;rw [nU,if_neg (by omega)];grind
 ·obtain ⟨hw,mW,s9,lN⟩:=af;rw [List.length_range] at s9;refine ⟨⟨by rw [hw];exact aW.len,by rw [hw];exact aW.lV,mW⟩,λ_=>⟨hw,λi U aL=>s9 i U U aL,lN⟩,λh=>(by cases h),λC fO=>⟨λ_=>rfl,λh=>(by cases h)⟩⟩
theorem OK {gd:Nat->Int->Bool} {m J:Nat}:∀ f,WJ gd m J f (kC gd m f)
 | 0=>λad st _ _ h=>absurd h.cQ (by omega)
 | f+1=>λad st aW M h=>ak3 (OK f) aW M h
def yB (gd:Nat->Int->Bool) (m F:Nat) (st:List Int×Int) (j:Nat):List Int×Int:=((kC gd m F (j:Int) (st.1,[])).2.1,if (kC gd m F (j:Int) (st.1,[])).1=true then st.2 else st.2+1)
def Em (gd:Nat->Int->Bool) (m J F:Nat):List Int×Int:=(List.range J).foldl (yB gd m F) (List.replicate m (-1),0)
structure s_ (gd:Nat->Int->Bool) (m J k:Nat) (st:List Int×Int):Prop where
 len:st.1.length=m
 lV:∀ i,i<m->st.1.getD i 0=-1\/(0<=st.1.getD i 0/\st.1.getD i 0<(k:Int)/\gd i (st.1.getD i 0)=true)
 one:∀ j,0<=j->fg st.1 j<=1
 num:st.2=(((List.range k).countP λ(j:Nat)=>decide (fg st.1 (j:Int)=0):Nat):Int)
 A0:∃ C,WH gd m st.1 C/\(∀ c,C c->0<=c/\c<(k:Int))/\∀ j:Nat,j<k->fg st.1 (j:Int)=0->C (j:Int)
theorem WL {gd:Nat->Int->Bool} {m J F k:Nat} (bB:m<F) (ak:k<J) {st:List Int×Int} (h:s_ gd m J k st):s_ gd m J (k+1) (yB gd m F st k):=by
 obtain ⟨g,n⟩:=st;have hu:jh m []<=m:=by
  unfold jh;exact Nat.le_trans List.countP_le_length (by simp)
 have wK:yz m J F (g,[]):=⟨h.len,λi U=>by have:=h.lV i U;grind,λq=>⟨Int.le_refl _,by show (0:Int)<=1;decide⟩,by grind⟩
 obtain ⟨ar,W⟩:=OK F (k:Int) (g,[]) (by omega) (by omega) wK;unfold yB;revert ar W;generalize kC gd m F (k:Int) (g,[])=r;intro ar W;have nD:fg g (k:Int)=0:=by
  unfold fg;rw [List.countP_eq_zero];intro x au;obtain ⟨i,U,rfl⟩:=List.mem_iff_getElem.1 au;have:=h.lV i (by rw [<-h.len];exact U);grind
 obtain ⟨C,fO,A1,A2⟩:=h.A0;by_cases af:r.1=true
 ·obtain ⟨i',A3⟩:=W.yt af;have WB:=(W.cl C fO).2 af;refine ⟨ar.len,λi U=>?_,λj aC=>?_,?_,C,λc lk i U En=>?_,λc lk=>?_,λj aC hu=>?_⟩
  ·show r.2.1.getD i 0=-1\/_;rcases i' i U with e | ⟨aK,bq⟩
   ·rw [e];rcases h.lV i U with a | a
    ·exact .inl a
    ·exact .inr ⟨a.1,by have:=a.2.1;show g.getD i 0<_;change g.getD i 0<_ at this;omega,a.2.2⟩
   ·by_cases j_:r.2.1.getD i 0=-1
    ·omega
    ·refine .inr ⟨?_,?_,bq⟩
     ·have:=(ar.lV i U).resolve_left j_;grind
     ·have M:=A3 _ j_;have aa:0<fg r.2.1 (r.2.1.getD i 0):=Io (by rw [ar.len];exact U) rfl;by_cases e:r.2.1.getD i 0=(k:Int)
      ·grind
      ·rw [if_neg e] at M;have an:0<fg g (r.2.1.getD i 0):=by grind
       unfold fg at an;rw [List.countP_pos_iff] at an;obtain ⟨x,au,fk⟩:=an;obtain ⟨q,bt,rfl⟩:=List.mem_iff_getElem.1 au;have:=h.lV q (by rw [<-h.len];exact bt);grind
  ·have M:=A3 j (by omega);have aa:=h.one j aC;change fg r.2.1 j=fg g j+_ at M;change fg g j<=1 at aa;show fg r.2.1 j<=1;by_cases e:j=(k:Int)
   ·subst e;rw [if_pos rfl] at M;omega
   ·rw [if_neg e] at M;omega
  ·rw [if_pos af];have M:=h.num;change n=_ at M;show n=_;rw [M,List.range_succ,List.countP_append];have aa:∀ j:Nat,j<k->fg r.2.1 (j:Int)=fg g (j:Int):=λj aC=>by
    have:=A3 (j:Int) (by omega);rw [if_neg (by omega)] at this;omega
   have an:fg r.2.1 (k:Int)=1:=by
    grind
   have a8:(List.range k).countP (λ(j:Nat)=>decide (fg r.2.1 (j:Int)=0))=(List.range k).countP (λ(j:Nat)=>decide (fg g (j:Int)=0)):=List.countP_congr λj aC=>by grind
   simp_all
  ·show r.2.1.getD i 0≠-1/\C (r.2.1.getD i 0);by_cases e:r.2.1.getD i 0=g.getD i 0
   ·rw [e];exact fO c lk i U En
   grind
  ·grind
  ·change fg r.2.1 (j:Int)=0 at hu;have M:=A3 (j:Int) (by omega);change fg r.2.1 _=fg g _+_ at M;by_cases e:j=k
   ·grind
   ·rw [if_neg (by omega)] at M;grind
 ·have CL:r.1=false:=by grind
  obtain ⟨hw,s9,lN⟩:=W.wH CL;change r.2.1=g at hw;simp only [hw];refine ⟨h.len,λi U=>?_,h.one,?_,λc=>C c\/c=(k:Int)\/∃ i,i<m/\1<=br r.2.2 (i:Int)/\c=g.getD i 0,λc lk i U En=>?_,λc lk=>?_,λj aC hu=>?_⟩
  ·rcases h.lV i U with a | a
   ·exact .inl a
   ·exact .inr ⟨a.1,by have:=a.2.1;show g.getD i 0<_;change g.getD i 0<_ at this;omega,a.2.2⟩
  ·rw [if_neg af];have M:=h.num;change n=_ at M;show n+1=_;rw [M,List.range_succ,List.countP_append];grind
  ·have aI:1<=br r.2.2 (i:Int)->g.getD i 0≠-1/\(C (g.getD i 0)\/g.getD i 0=(k:Int)\/∃ q,q<m/\1<=br r.2.2 (q:Int)/\g.getD i 0=g.getD q 0):=λaA=>⟨(lN i U rfl aA).1,.inr (.inr ⟨i,U,aA,rfl⟩)⟩
   rcases lk with e | e | ⟨q,bt,aA,e⟩
   ·exact ⟨(fO c e i U En).1,.inl (fO c e i U En).2⟩
   ·grind
   ·subst e;exact aI ((lN q bt rfl aA).2 i U En)
  ·rcases lk with e | e | ⟨q,bt,aA,e⟩
   ·grind
   ·omega
   ·have:=(h.lV q bt).resolve_left (lN q bt rfl aA).1;grind
  grind
theorem WM (gd:Nat->Int->Bool) (m J F:Nat) (bB:m<F):s_ gd m J J (Em gd m J F):=by
 unfold Em;have key:∀ k,k<=J->s_ gd m J k ((List.range k).foldl (yB gd m F) (List.replicate m (-1),0)):=by
  intro k;induction k with
  | zero=>
   intro _;refine ⟨by simp,λi U=>.inl (OG U),λj aC=>?_,by simp,λ_=>False,λ_ h=>h.elim,λ_ h=>h.elim,λj aC=>by omega⟩;show fg (List.replicate m (-1)) j<=1;have:fg (List.replicate m (-1)) j=0:=by
    unfold fg;grind
   omega
  | succ k aO=>
   intro ak;rw [List.range_succ,List.foldl_append];exact WL bB (by omega) (aO (by omega))
 grind
end Go.Fer
namespace Go.Fer
open A (ab)
set_option linter.unusedVariables false
set_option linter.unusedSimpArgs false
theorem OL {p:Nat->Bool}:∀ {n:Nat},gy n (λi=>if p i=true then 1 else 0)=((List.range n).countP p:Int)
 | 0=>rfl
 | n+1=>by
  show gy n _+(if p n=true then (1:Int) else 0)=_;rw [OL,List.range_succ,List.countP_append];grind
theorem WN {f g:Nat->Int}:∀ {n:Nat},gy n (λi=>f i+g i)=gy n f+gy n g
 | 0=>rfl
 | n+1=>by
  show gy n (λi=>f i+g i)+(f n+g n)=gy n f+f n+(gy n g+g n)
  rw [WN];omega
theorem WO {F:Nat->Nat->Int} {m:Nat}:∀ {n:Nat},gy n (λj=>gy m λi=>F i j)=gy m λi=>gy n λj=>F i j
 | 0=>by
  show (0:Int)=gy m λ_=>0;rw [AY]
 | n+1=>by
  show gy n (λj=>gy m λi=>F i j)+gy m (λi=>F i n)=gy m λi=>gy n (λj=>F i j)+F i n;rw [WO,WN]
theorem WQ {f:Nat->Int} {k n:Nat} (ak:k<n) (h:∀ i,i<n->i≠k->f i=0):gy n f=f k:=by
 rw [Ox (k:=k) (g:=λ_=>0) ak h,AY];omega
def pa (kd:Nat->Nat) (g:List Int) (m J:Nat):List Int:=(List.range J).map λ(j:Nat)=>match (List.range m).find? λi=>decide (g.getD i 0=(j:Int)) with | some i=>(kd i:Int) | none=>-1
section
variable {gd:Nat->Int->Bool} {kd:Nat->Nat} {m J:Nat} {g:List Int} {r5:Int}
theorem OM {j:Nat} (aC:j<J):(pa kd g m J).getD j 0=match (List.range m).find? λi=>decide (g.getD i 0=(j:Int)) with | some i=>(kd i:Int) | none=>-1:=by
 unfold pa;grind
theorem ON (h:s_ gd m J J (g,r5)) {j i:Nat} (aC:j<J) (U:i<m) (aL:g.getD i 0=(j:Int)):(pa kd g m J).getD j 0=(kd i:Int):=by
 rw [OM aC];cases ax:(List.range m).find? λi=>decide (g.getD i 0=(j:Int)) with
 | none=>
  grind
 | some q=>
  have M:=List.find?_some ax;have aa:=List.mem_range.1 (List.mem_of_find?_eq_some ax);simp only [decide_eq_true_eq] at M;have aw:=h.len;change g.length=m at aw;have:q=i:=WG (j:=(j:Int)) (by omega) (h.one (j:Int) (by omega)) (by grind) (by grind) M aL;grind
theorem OO (h:s_ gd m J J (g,r5)) {j:Nat} (aC:j<J) (hc:fg g (j:Int)=0):(pa kd g m J).getD j 0=-1:=by
 rw [OM aC];cases ax:(List.range m).find? λi=>decide (g.getD i 0=(j:Int)) with
 | none=>rfl
 | some q=>
  have M:=List.find?_some ax;have aa:=List.mem_range.1 (List.mem_of_find?_eq_some ax);simp only [decide_eq_true_eq] at M;have aw:=h.len;change g.length=m at aw;have:=Io (by omega) M;omega
theorem ak4 (h:s_ gd m J J (g,r5)) {j:Nat} {s:Int} (aC:j<J) (aA:0<=s) (hw:(pa kd g m J).getD j 0=s):∃ i,i<m/\g.getD i 0=(j:Int)/\(kd i:Int)=s:=by
 rw [OM aC] at hw;grind
theorem OP (h:s_ gd m J J (g,r5)) {j:Nat} (aC:j<J):(pa kd g m J).getD j 0=-1<->fg g (j:Int)=0:=by
 refine ⟨λhw=>?_,OO h aC⟩;by_cases hc:fg g (j:Int)=0
 ·exact hc
 ·have ar:0<fg g (j:Int):=by omega
  unfold fg at ar;rw [List.countP_pos_iff] at ar;obtain ⟨x,au,fk⟩:=ar;obtain ⟨q,bt,rfl⟩:=List.mem_iff_getElem.1 au;have aw:=h.len;change g.length=m at aw;have e:g.getD q 0=(j:Int):=by
   grind
  have:=ON (kd:=kd) h aC (by omega) e;omega
theorem Ip:(pa kd g m J).length=J:=by simp [pa]
theorem WR (h:s_ gd m J J (g,r5)) (s:Nat):((dy (pa kd g m J) (s:Int)).length:Int)=((List.range m).countP λi=>decide (kd i=s)&&!decide (g.getD i 0=-1):Nat):=by
 rw [s8,Ip,<-OL,<-OL];have M:∀ j,j<J->(if decide ((pa kd g m J).getD j 0=(s:Int))=true then (1:Int) else 0)=gy m λi=>if (decide (g.getD i 0=(j:Int))&&decide (kd i=s))=true then 1 else 0:=λj aC=>by
  by_cases hc:fg g (j:Int)=0
  ·rw [OO h aC hc,if_neg (by simp)];symm;rw [yu (g:=λ_=>0) λi U=>if_neg ?_,AY];intro e;rw [Bool.and_eq_true,decide_eq_true_eq] at e;have aw:=h.len;change g.length=m at aw;have:=Io (by omega) e.1;omega
  ·have hw:(pa kd g m J).getD j 0≠-1:=λe=>hc ((OP h aC).1 e);obtain ⟨q,bt,Eo⟩:∃ q,q<m/\g.getD q 0=(j:Int):=by
    have ar:0<fg g (j:Int):=by omega
    unfold fg at ar;rw [List.countP_pos_iff] at ar;obtain ⟨x,au,fk⟩:=ar;obtain ⟨q,bt,rfl⟩:=List.mem_iff_getElem.1 au;have aw:=h.len;change g.length=m at aw;refine ⟨q,by omega,?_⟩;grind
   rw [ON h aC bt Eo];symm;rw [WQ (k:=q) bt λi U cI=>if_neg ?_]
   ·grind
   ·intro e;rw [Bool.and_eq_true,decide_eq_true_eq] at e;have aw:=h.len;change g.length=m at aw;exact cI (WG (j:=(j:Int)) (by omega) (h.one (j:Int) (by omega)) (by grind) (by grind) e.1 Eo)
 rw [yu M,WO];refine yu λi U=>?_;rcases h.lV i U with e | ⟨aK,bq,_⟩
 ·change g.getD i 0=-1 at e;rw [yu (g:=λ_=>0) λj aC=>if_neg ?_,AY,e]
  ·simp
  ·rw [e];simp
 ·change 0<=g.getD i 0 at aK;change g.getD i 0<(J:Int) at bq;have cF:¬g.getD i 0=-1:=by omega
  rw [WQ (k:=(g.getD i 0).toNat) (by omega) λj aC cI=>if_neg ?_]
  ·have hd:g.getD i 0=(((g.getD i 0).toNat:Nat):Int):=by omega
   rw [<-hd];simp only [cF,decide_true,decide_false,Bool.true_and,Bool.not_false,Bool.and_true]
  ·simp only [Bool.and_eq_true,decide_eq_true_eq,not_and];intro e;omega
theorem ak5 {fit:List (List Int)} {caps:List Int} {F:Nat} (bB:m<F) (yh:fit.length=J) (CJ:∀ l∈fit,∀ s∈l,0<=s/\s<(caps.length:Int)) (WS:∀ s,s<caps.length->caps.getD s 0=(((List.range m).countP λi=>decide (kd i=s):Nat):Int))
  (lR:∀ i,i<m->∀ j:Nat,j<J->(gd i (j:Int)=true<->(kd i:Int)∈hJ fit (j:Int))):(Em gd m J F).2=(J:Int) - fA fit caps:=by
 have h:=WM gd m J F bB;revert h;generalize Em gd m J F=st;obtain ⟨g,r5⟩:=st;intro h;have qZ:∀ j s,s∈hJ fit j->0<=s/\s<(caps.length:Int):=λj s aA=>by
  grind
 obtain ⟨C,fO,A1,A2⟩:=h.A0;have hinv:yy caps.length fit caps fit.length (pa kd g m J):=by
  refine ⟨by rw [Ip,yh],λs aW aI=>?_,λj aC=>?_,λi M aa=>by omega,C,λj aC s aA=>?_,λc hc=>by grind,λj aC hu=>?_⟩
  ·obtain ⟨k,rfl⟩:=Int.eq_ofNat_of_zero_le aW;rw [WR h k,Int.toNat_natCast,WS k (by omega)];have:((List.range m).countP λi=>decide (kd i=k)&&!decide (g.getD i 0=-1))<=(List.range m).countP λi=>decide (kd i=k):=List.countP_mono_left λi _ U=>by
    grind
   omega
  ·rw [yh] at aC;by_cases e:(pa kd g m J).getD j 0=-1
   ·omega
   ·right;have hc:¬fg g (j:Int)=0:=λhc=>e (OO h aC hc);have ar:0<fg g (j:Int):=by omega
    unfold fg at ar;rw [List.countP_pos_iff] at ar;obtain ⟨x,au,fk⟩:=ar;obtain ⟨q,bt,rfl⟩:=List.mem_iff_getElem.1 au;have aw:=h.len;change g.length=m at aw;have Eo:g.getD q 0=(j:Int):=by
     grind
    rw [ON h aC (by omega) Eo];rcases h.lV q (by omega) with e | ⟨_,_,e⟩
    ·change g.getD q 0=-1 at e;omega
    ·change gd q (g.getD q 0)=true at e;rw [Eo] at e;exact (lR q (by rw [<-aw];exact bt) j aC).1 e
  ·have atv:=A1 j aC;have Gs:j=((j.toNat:Nat):Int):=by omega
   have WT:=qZ j s aA;obtain ⟨k,rfl⟩:=Int.eq_ofNat_of_zero_le WT.1;have gv:∀ i,i<m->kd i=k->g.getD i 0≠-1/\C (g.getD i 0):=λi U ak=>by
    refine fO j aC i U ?_;grind
   refine ⟨?_,λo al=>?_⟩
   ·unfold r4;rw [WR h k,Int.toNat_natCast,WS k (by omega)];have:((List.range m).countP λi=>decide (kd i=k))=(List.range m).countP λi=>decide (kd i=k)&&!decide (g.getD i 0=-1):=List.countP_congr λi U=>by
     constructor
     ·intro h;rw [Bool.and_eq_true];refine ⟨h,?_⟩;have:=(gv i (List.mem_range.1 U) (by simpa using h)).1;simp only [Bool.not_eq_true',decide_eq_false_iff_not];exact this
     ·intro h;rw [Bool.and_eq_true] at h;exact h.1
    omega
   ·have hm:=uK.1 al;rw [Ip] at hm;obtain ⟨i,U,M,aa⟩:=ak4 h (by omega) (by omega) hm.2.2;have:=(gv i U (by omega)).2;rw [M] at this;rw [show o=((o.toNat:Nat):Int) from by omega];omega
  ·rw [yh] at aC;exact A2 j aC ((OP h aC).1 hu)
 have J8:=WD rfl CJ (λi U=>by grind) hinv;have d_:r5=((dy (pa kd g m J) (-1)).length:Int):=by
  have:=h.num;change r5=_ at this;rw [this,s8,Ip];congr 1;refine List.countP_congr λj aC=>?_;simp only [decide_eq_true_eq];exact (OP h (List.mem_range.1 aC)).symm
 omega
end
end Go.Fer
namespace Go.Fer
open A (ab)
set_option linter.unusedVariables false
set_option linter.unusedSimpArgs false
def p7 (t:ea) (sp:Int×Int) (j:p4):Bool:=decide (sp.2<=j.2.2)&&decide ((kx t.2.2 (sp.1,j.1,j.2.1)).getD 0 > 0)
abbrev A4:aU:=⟨.aG wB (.aG HZ Ib),dm,λx=>∃ t,x.1=some t,λx=>p7 (x.1.getD yq) x.2.1 x.2.2⟩
theorem ak6 (x):A.bz (UW x) (A4.sh x):=A.bU λh=>by
 obtain ⟨o,sp,j⟩:=x;obtain ⟨t,ax⟩:=h;change o=_ at ax;subst ax;unfold UW;simp only [Option.isSome_some,Option.getD_some,and_true,true_and,and_self,imp_self,implies_true,A.bL];rfl
def yC (t:ea) (l:List p4):Bool:=l.all λj=>(List.range t.1.2.1.length).any λ(i:Nat)=>p7 t ((i:Int),0) j
abbrev OQ:aU:=⟨.aG wB (.slice Ib),dm,λx=>∃ t,x.1=some t/\t.1.2.1.length<2 ^ 63/\x.2.length<2 ^ 63,λx=>yC (x.1.getD yq) x.2⟩
theorem ak7 (t:ea) (l:List p4) (M:t.1.2.1.length<2 ^ 63) (aa:l.length<2 ^ 63):Nw A4.sh (some t,l)=A.pure (yC t l):=by
 unfold Nw;rw [A.fv l (λi (_:Unit)=>(some t,l,(l.length:Int),(i:Int),())) (λj b=>if (!(List.range t.1.2.1.length).any λ(i:Nat)=>p7 t ((i:Int),0) j)=true then .done (.done false) else .next b) (λ_=>.next ()) () ?_ ?_ ?_]
 ·rw [lS (q:=λj=>(List.range t.1.2.1.length).any λ(i:Nat)=>p7 t ((i:Int),0) j) _ _ (λ_=>rfl)];unfold yC;cases l.all λj=>(List.range t.1.2.1.length).any λ(i:Nat)=>p7 t ((i:Int),0) j<;>simp
 ·rfl
 ·intro i U b;have hw:=bF (n:=(i:Int)+1) (by omega) (by omega);simp only [cc,dn U,if_true,en U,dd U,A.bL,Option.isSome_some,Option.getD_some];rw [A.fv (List.range t.1.2.1.length) (λk (b:Bool)=>(some t,b,l,(l.length:Int),(i:Int),(t.1.2.1.length:Int),(k:Int),l[i],())) (λ(k:Nat) b=>.next (b||p7 t ((k:Int),0) l[i])) (λb=>.next (some t,b,l,(l.length:Int),(i:Int),())) false ?_ ?_ ?_]
  ·rw [g7];have e:∀ (r:List Nat) (b:Bool),r.foldl (λ(b:Bool) (k:Nat)=>b||p7 t ((k:Int),0) l[i]) b=(b||r.any λ(k:Nat)=>p7 t ((k:Int),0) l[i]):=by
    intro r;induction r with
    | nil=>simp
    | cons k r aO=>grind
   rw [e,Bool.false_or];simp only [A.aX,A.bX];cases (List.range t.1.2.1.length).any λ(k:Nat)=>p7 t ((k:Int),0) l[i]<;>simp [ab.h',hw]
  ·rfl
  ·intro k ak b;have ak:k<t.1.2.1.length:=by grind
   have jy:=bF (n:=(k:Int)+1) (by omega) (by omega);simp only [dn ak,if_true,List.getElem_range,aU.sh,A.je,A.cN];rw [A.ba (by simp)];simp only [Option.getD_some,b',jy,ab.h'];grind
  simp
 simp
theorem ak8 (x):A.bz (Nw A4.sh x) (OQ.sh x):=A.bU λh=>by
 obtain ⟨o,l⟩:=x;obtain ⟨t,ax,M,aa⟩:=h;change o=_ at ax;subst ax;exact ak7 t l M aa
def hp (t:ea) (l:List p4) (i:Nat) (j:Int):Bool:=p7 t (t.2.1.getD i (0,0)) (l.getD j.toNat (0,0,0))
abbrev OR:=Option ea×List p4×Int×List (Int×Int)×List Int×Unit
abbrev WU:=Bool×List (Int×Int)×List Int×Unit
def uY (r:Bool×cB):WU:=(r.1,r.2.2,r.2.1,())
def OS (f:Nat) (x:OR):Prop:=∃ t,x.1=some t/\t.2.1.length<=200/\x.2.1.length<=1000/\0<=x.2.2.1/\x.2.2.1<(x.2.1.length:Int)/\yz t.2.1.length x.2.1.length f (x.2.2.2.2.1,x.2.2.2.1)
def uZ (f:Nat) (x:OR):A WU:=A.eT (OS f x) (uY (kC (hp (x.1.getD yq) x.2.1) (x.1.getD yq).2.1.length f x.2.2.1 (x.2.2.2.2.1,x.2.2.2.1)))
theorem ak9 {t:ea} {l:List p4} (hm:t.2.1.length<=200) (aw:l.length<=1000) {f:Nat} {ad:Int} (Ei:0<=ad) (WK:ad<(l.length:Int)) {st:cB} (aW:yz t.2.1.length l.length (f+1) st) :
  NF A4.sh (uZ f) (some t,l,ad,st.2,st.1,())=A.pure (uY (kC (hp t l) t.2.1.length (f+1) ad st)):=by
 have nV:=OK (gd:=hp t l) (m:=t.2.1.length) (J:=l.length) f;unfold NF;simp only [cc,A.bL,VP,Option.isSome_some,Option.getD_some];rw [A.hT (List.range t.2.1.length) (λi (b:cB)=>(some t,l,ad,t.2.1,(t.2.1.length:Int),(i:Int),b.2,b.1,())) (λi b=>ab.o9 (λr=>.done (uY r)) (oB (hp t l) (kC (hp t l) t.2.1.length f) ad i b)) (λb=>.next (b.2,b.1,())) (λi b=>b.1=st.1/\∀ q,br st.2 q<=br b.2 q/\br b.2 q<=1) st ?_ ?_ ?_ ?_]
 ·show _=A.pure (uY (gO (oB (hp t l) (kC (hp t l) t.2.1.length f) ad) (λst=>(false,st)) (List.range t.2.1.length) st));rw [wx,wx,HP];cases o_ (oB (hp t l) (kC (hp t l) t.2.1.length f) ad) (List.range t.2.1.length) st<;>(simp only [ab.o9,ab.fin,A.aX,A.bX,A.jf];try rfl)
 ·rfl
 ·exact ⟨rfl,λq=>⟨Int.le_refl _,(aW.seen q).2⟩⟩
 ·intro i U b af;have U:i<t.2.1.length:=by grind
  have hn:=bF (n:=(i:Int)+1) (by omega) (by omega);rw [List.getElem_range];have ak_:b.1.length=t.2.1.length:=by rw [af.1];exact aW.len
  have gD:i<b.1.length:=by omega
  have ak':0<=ad/\ad<(l.length:Int):=⟨Ei,WK⟩
  have i':=af.2 (i:Int);have kt:=aW.seen (i:Int);simp only [cc,dn U,if_true,dd U,dd gD,A.bL,ak',aU.sh,A.mg,A.hS,Int.toNat_natCast,Option.getD_some];have lR:p7 t (t.2.1.getD i (0,0)) (l.getD ad.toNat (0,0,0))=hp t l i ad:=rfl;rw [lR];have ala:(∃ cT,(some t:Option ea)=some cT)=True:=by simp
  simp only [ala,and_true,true_and,and_self,imp_self,implies_true,A.bL];by_cases q5:br b.2 (i:Int) > 0
  ·have hu:oB (hp t l) (kC (hp t l) t.2.1.length f) ad i b=.next b:=by unfold oB;grind
   rw [hu];refine ⟨?_,λbg dq=>by cases dq;exact af⟩;simp only [q5,decide_true,Bool.true_or,if_true,A.aX,A.bX,b',hn,ab.h',ab.o9,Bool.not_true,Bool.false_eq_true,false_imp_iff,Bool.true_eq_false,A.bL,and_self,implies_true];rfl
  ·by_cases aL:hp t l i ad=true
   ·have bm:br b.2 (i:Int)=0:=by omega
    have wv:=bF (n:=br b.2 (i:Int)+1) (by omega) (by omega);have j_:∀ q,br b.2 q<=br (cC b.2 (i:Int) (br b.2 (i:Int)+1)) q/\br (cC b.2 (i:Int) (br b.2 (i:Int)+1)) q<=1:=λq=>by
     have:=af.2 q;rw [nU];omega
    have J6:¬(decide (br b.2 (i:Int) > 0)||!hp t l i ad)=true:=by grind
    by_cases ax:b.1.getD i 0=-1
    ·have hu:oB (hp t l) (kC (hp t l) t.2.1.length f) ad i b=.done (true,(b.1.set i ad,cC b.2 (i:Int) (br b.2 (i:Int)+1))):=by
      unfold oB;grind
     rw [hu];refine ⟨?_,λbg dq=>by cases dq⟩;simp only [q5,aL,ax,decide_true,decide_false,Bool.not_true,Bool.not_false,Bool.or_self,Bool.false_eq_true,if_false,if_true,false_imp_iff,Bool.true_eq_false,Bool.true_or,A.bL,A.aX,A.jf,b',wv,dd gD,ab.h',ab.o9,and_self,implies_true,true_imp_iff];rfl
    ·have atw:=aW.lV i U;have aC:0<=b.1.getD i 0/\b.1.getD i 0<(l.length:Int):=by grind
     have wK:yz t.2.1.length l.length f (b.1,cC b.2 (i:Int) (br b.2 (i:Int)+1)):=by
      refine ⟨ak_,?_,λk=>⟨?_,(j_ k).2⟩,?_⟩
      ·show OH _ _ b.1;rw [af.1];exact aW.lV
      ·have:=(j_ k).1;have:=af.2 k;have:=(aW.seen k).1;grind
      ·have M:=N0 (n:=t.2.1.length) (m:=b.2) (s:=(i:Int)) (v:=br b.2 (i:Int)+1) (by omega) (by omega) bm (by omega);have aa:=HL (n:=t.2.1.length) (a:=st.2) (b:=b.2) λk=>⟨(aW.seen k).1,(af.2 k).1⟩
       have an:=aW.cQ;grind
     obtain ⟨Ae,alb⟩:=nV (b.1.getD i 0) (b.1,cC b.2 (i:Int) (br b.2 (i:Int)+1)) aC.1 aC.2 wK;have hh:OS f (some t,l,b.1.getD i 0,cC b.2 (i:Int) (br b.2 (i:Int)+1),b.1,()):=⟨t,rfl,hm,aw,aC.1,aC.2,wK⟩
     have vY:uZ f (some t,l,b.1.getD i 0,cC b.2 (i:Int) (br b.2 (i:Int)+1),b.1,())=A.pure (uY (kC (hp t l) t.2.1.length f (b.1.getD i 0) (b.1,cC b.2 (i:Int) (br b.2 (i:Int)+1)))):=A.eZ hh _;simp only [q5,aL,ax,decide_true,decide_false,Bool.not_true,Bool.not_false,Bool.or_self,Bool.false_eq_true,if_false,if_true,false_imp_iff,Bool.true_eq_false,Bool.false_or,A.bL,b',wv,and_self,implies_true,true_imp_iff,vY,A.aX];have nE:(kC (hp t l) t.2.1.length f (b.1.getD i 0) (b.1,cC b.2 (i:Int) (br b.2 (i:Int)+1))).2.1.length=t.2.1.length:=Ae.len;have atx:=Ae.seen;have aty:=alb.wH;have WV:oB (hp t l) (kC (hp t l) t.2.1.length f) ad i b=if (kC (hp t l) t.2.1.length f (b.1.getD i 0) (b.1,cC b.2 (i:Int) (br b.2 (i:Int)+1))).1=true then .done (true,((kC (hp t l) t.2.1.length f (b.1.getD i 0) (b.1,cC b.2 (i:Int) (br b.2 (i:Int)+1))).2.1.set i ad,(kC (hp t l) t.2.1.length f (b.1.getD i 0) (b.1,cC b.2 (i:Int) (br b.2 (i:Int)+1))).2.2)) else .next (kC (hp t l) t.2.1.length f (b.1.getD i 0) (b.1,cC b.2 (i:Int) (br b.2 (i:Int)+1))).2:=by
      unfold oB;grind
     rw [WV];clear WV vY;generalize kC (hp t l) t.2.1.length f (b.1.getD i 0) (b.1,cC b.2 (i:Int) (br b.2 (i:Int)+1))=r at *
     obtain ⟨ok,g',s'⟩:=r;have qu:i<g'.length:=by grind
     cases ok with
     | true=>
      refine ⟨?_,λbg dq=>by cases dq⟩;simp only [uY,if_true,dd qu,A.bL,A.aX,A.jf,ab.h',ab.o9]
     | false=>
      refine ⟨?_,λbg dq=>?_⟩
      ·simp only [uY,Bool.false_eq_true,if_false,A.aX,A.bX,b',hn,ab.h',ab.o9];rfl
      ·cases dq;grind
   ·have hu:oB (hp t l) (kC (hp t l) t.2.1.length f) ad i b=.next b:=by unfold oB;grind
    rw [hu];refine ⟨?_,λbg dq=>by cases dq;exact af⟩;simp only [q5,aL,decide_false,Bool.not_false,Bool.or_true,if_true,A.aX,A.bX,b',hn,ab.h',ab.o9,Bool.false_eq_true,A.bL,and_self,implies_true];rfl
 simp
theorem alc (f:Nat) (x):A.bz (NF A4.sh (uZ f) x) (uZ (f+1) x):=A.bU λh=>by
 obtain ⟨o,l,ad,seen,g,u⟩:=x;obtain ⟨t,ax,hm,aw,aW,M,wK⟩:=h;change o=_ at ax;subst ax;exact ak9 (st:=(g,seen)) hm aw aW M wK
theorem ald (x:OR):¬(uZ 0 x).dU:=λ⟨_,_,_,_,_,_,h⟩=>absurd h.cQ (by omega)
def u0 (t:ea) (l:List p4):Int:=(Em (hp t l) t.2.1.length l.length 201).2
abbrev Iq:aU:=⟨.aG wB (.slice Ib),bp,λx=>∃ t,x.1=some t/\t.2.1.length<=200/\x.2.length<=1000,λx=>u0 (x.1.getD yq) x.2⟩
theorem ale (t:ea) (l:List p4) (hm:t.2.1.length<=200) (aw:l.length<=1000):Nx Eb (uZ 201) (some t,l)=A.pure (u0 t l):=by
 unfold Nx;simp only [cc,Option.isSome_some,Option.getD_some,A.bL];unfold Eb;simp only [A.cN];rw [A.ba (by grind)];simp only [Int.toNat_natCast];rw [A.hT (List.range l.length) (λi (b:List Int×Int)=>(some t,l,b.2,(l.length:Int),(i:Int),b.1,())) (λi b=>.next (yB (hp t l) t.2.1.length 201 b i)) (λb=>.next (b.2,())) (λi b=>s_ (hp t l) t.2.1.length l.length i b/\0<=b.2/\b.2<=(i:Int)) (List.replicate t.2.1.length (-1),0) ?_ ?_ ?_ ?_]
 ·rw [g7,A.aX,A.bX];rfl
 ·rfl
 ·refine ⟨?_,by simp⟩;have:=WM (hp t l) t.2.1.length 0 201 (by omega);exact ⟨this.len,this.lV,this.one,this.num,this.A0⟩
 ·intro i U b af;have U:i<l.length:=by grind
  have hn:=bF (n:=(i:Int)+1) (by omega) (by omega);rw [List.getElem_range];obtain ⟨g,n⟩:=b;obtain ⟨af,rz,rA⟩:=af;change 0<=n at rz;change n<=(i:Int) at rA;have wm:=bF (n:=n+1) (by omega) (by omega);have hh:OS 201 (some t,l,(i:Int),[],g,()):=by
   refine ⟨t,rfl,hm,aw,Int.natCast_nonneg i,Int.ofNat_lt.2 U,af.len,λk ak=>?_,λk=>by show 0<=br [] k/\br [] k<=1;simp [br,mm],?_⟩
   ·rcases af.lV k ak with h | h
    ·exact .inl h
    ·exact .inr ⟨h.1,Int.lt_trans h.2.1 (Int.ofNat_lt.2 U)⟩
   ·have:jh t.2.1.length []<=t.2.1.length:=by
     unfold jh;exact Nat.le_trans List.countP_le_length (by simp)
    grind
  have vY:uZ 201 (some t,l,(i:Int),[],g,())=A.pure (uY (kC (hp t l) t.2.1.length 201 (i:Int) (g,[]))):=A.eZ hh _;have uh:=WL (F:=201) (by omega) U af;refine ⟨?_,λbg dq=>?_⟩
  ·simp only [dn U,if_true,vY,A.aX,uY];unfold yB;cases cm:(kC (hp t l) t.2.1.length 201 (i:Int) (g,[])).1 with
   | true=>
    simp_all
   | false=>
    simp_all
  ·cases dq;refine ⟨uh,?_⟩;have aK:(0:Int)<=n+1:=by omega
   have bq:n+1<=((i+1:Nat):Int):=by omega
   have cF:n<=((i+1:Nat):Int):=by omega
   unfold yB;omega
 simp
theorem alf (x):A.bz (Nx Eb (uZ 201) x) (Iq.sh x):=A.bU λh=>by
 obtain ⟨o,l⟩:=x;obtain ⟨t,ax,M,aa⟩:=h;change o=_ at ax;subst ax;exact ale t l M aa
theorem OT {s:a3} (aj:gm s):(wA s).length<=200:=by
 have M:∀ (l:List Nat),(∀ i∈l,i<s.2.1.length)->(l.flatMap λ(i:Nat)=>lx ((i:Int),0) (s.2.1.getD i 0)).length<=10*l.length:=by
  intro l;induction l with
  | nil=>simp
  | cons i l aO=>
   intro aw;have M:=aO λj aC=>aw j (by grind);have aa:=aw i (by simp);have an:=aj.aB _ (List.getElem_mem aa);have ke:s.2.1.getD i 0=s.2.1[i]:=by grind
   rw [List.flatMap_cons,List.length_append,List.length_cons,ke];simp only [lx,List.length_replicate];simp only [lx] at M;omega
 have aa:∀ (l:List e_),(∀ d∈l,nm s.1 d=true)->(l.flatMap λd=>lx (d.2.1,d.1) d.2.2).length<=10*l.length:=by
  intro l;induction l with
  | nil=>simp
  | cons d l aO=>
   intro aw;have M:=aO λj aC=>aw j (by grind);have an:=aw d (by simp);simp only [nm,c5,Bool.and_eq_true,decide_eq_true_eq] at an;rw [List.flatMap_cons,List.length_append,List.length_cons];simp only [lx,List.length_replicate];simp only [lx] at M;omega
 have a:=M (List.range s.2.1.length) λi U=>by grind
 have b:=aa s.2.2.2.2.1 aj.Ee;have c:=aj.H7;have d:=aj.H6;have e:=aj.p3;unfold wA AT Oh;grind
theorem WW {s:a3} (aj:gm s) {a0:List Int} (ar:kY s a0):(gP s a0).1.length<=24:=by
 unfold gP;split
 ·have:∀ (l:List Nat),(∀ i∈l,i<a0.length)->(l.flatMap λi=>(iq s a0 i).getD []).length<=4*l.length:=by
   intro l;induction l with
   | nil=>simp
   | cons i l aO=>
    intro aw;have M:=aO λj aC=>aw j (by grind);have aa:=aw i (by simp);rw [List.flatMap_cons,List.length_append,List.length_cons];have:((iq s a0 i).getD []).length<=4:=by
     cases h:iq s a0 i with
     | none=>simp
     | some y=>exact Ok aj ar aa h
    omega
  have a:=this (List.range a0.length) λi U=>by grind
  rw [List.length_range] at a;have:=ar.1;have:=aj.jS;grind
 ·simp
def u1 (s:a3) (a0:List Int):Bool:=(gP s a0).2&&decide (u0 (c_ s) (gP s a0).1=0)
abbrev A5:aU:=⟨.aG wB hl,dm,λx=>∃ s,wC x.1 s/\kY s x.2,λx=>u1 (p5 x.1) x.2⟩
theorem alg (x):A.bz (UO Ic.sh Iq.sh x) (A5.sh x):=A.bU λh=>by
 obtain ⟨o,a0⟩:=x;obtain ⟨s,⟨ax,aj⟩,ar⟩:=h;change o=_ at ax;subst ax;unfold UO;simp only [aU.sh,A.cN,A.je];rw [A.ba (by exact ⟨s,⟨rfl,aj⟩,ar⟩),A.ba (by exact λ_=>⟨c_ s,rfl,OT aj,Nat.le_trans (WW aj ar) (by omega)⟩)];show A.pure ((gP s a0).2&&decide ((if (gP s a0).2=true then u0 (c_ s) (gP s a0).1 else 0)=0))=A.pure (u1 s a0);unfold u1;grind
end Go.Fer
namespace Go.Fer
open A (ab)
set_option linter.unusedVariables false
set_option linter.unusedSimpArgs false
def r6 (s:a3) (first:List Int) (p:Nat):Bool:=!(first.contains (p:Int)||decide (jR (hV s (first.length:Int)) (hI s (p:Int))=0))
def iH (s:a3) (e:Int):Nat->List Int->List (List Int)
 | 0,first=>[first]
 | n+1,first=>((List.range s.2.2.1.length).flatMap λp=>if r6 s first p=true then iH s e n (first++[(p:Int)]) else [])++(if e=0 then [] else iH s e n (first++[-1]))
abbrev WX:Type:=Nat×(List (List Int)->Prop)×List (List Int)×Bool
abbrev OU:Type:=Option ea×List Int×Int×Nat×WX×Unit
abbrev WY:Type:=Bool×WX×Unit
structure OV (f:Nat) (x:OU) (s:a3) (n:Nat) (a b:List (List Int)):Prop where
 atz:wC x.1 s
 len:x.2.1.length+n=s.2.2.2.1.length
 cQ:n<f
 atA:x.2.2.2.2.1.1=x.2.2.2.1
 bx:x.2.2.2.2.1.2.2.2=false
 seq:x.2.2.2.2.1.2.1=λT=>T=a++iH s x.2.2.1 n x.2.1++b
 pos:x.2.2.2.2.1.2.2.1=a
def alh (x:OU) (y:WY):Prop:=y.2.1.1=x.2.2.2.1/\y.2.1.2.1=x.2.2.2.2.1.2.1/\(y.1=true->y.2.1.2.2.2=false/\y.2.1.2.2.1=x.2.2.2.2.1.2.2.1++iH (p5 x.1) x.2.2.1 ((p5 x.1).2.2.2.1.length - x.2.1.length) x.2.1)/\(y.1=false->y.2.1.2.2.2=true)
def r7 (f:Nat) (x:OU):A WY:=⟨∃ s n a b,OV f x s n a b,alh x⟩
def mX (s:a3) (e:Int) (n:Nat) (first:List Int) (k:Nat):List (List Int):=(List.range k).flatMap λp=>if r6 s first p=true then iH s e n (first++[(p:Int)]) else []
theorem Ir (s:a3) (e:Int) (n:Nat) (first:List Int) (k:Nat):mX s e n first (k+1)=mX s e n first k++(if r6 s first k=true then iH s e n (first++[(k:Int)]) else []):=by
 unfold mX;rw [List.range_succ,List.flatMap_append];simp
theorem ali (s:a3) (e:Int) (n:Nat) (first:List Int) {k m:Nat} (h:k<=m):∃ t,mX s e n first m=mX s e n first k++t:=by
 induction m with
 | zero=>simp_all
 | succ m aO=>
  by_cases ak:k=m+1
  ·simp_all
  ·obtain ⟨t,aR⟩:=aO (by omega);rw [Ir,aR,List.append_assoc];simp
theorem alj {f:Nat} {s:a3} (aj:gm s) {first:List Int} {e:Int} {l:Nat} {L:List (List Int)->Prop} {n:Nat} (hlen:first.length+n=s.2.2.2.1.length) (ax:n<f+1) {a b:List (List Int)} (kr:L=λT=>T=a++iH s e n first++b) :
  A.cp (NG uV.sh (r7 f) mj.sh (some (c_ s),first,e,l,(l,L,a,false),())) λy=>y.2.1.1=l/\y.2.1.2.1=L/\(y.1=true->y.2.1.2.2.2=false/\y.2.1.2.2.1=a++iH s e n first)/\(y.1=false->y.2.1.2.2.2=true):=by
 have hA:(c_ s).1=s:=rfl;have AW:=aj.jS;have atB:=aj.q1;unfold NG;simp only [Option.isSome_some,Option.getD_some,A.bL,cc,hA];cases n with
 | zero=>
  have aN:decide ((first.length:Int)=(s.2.2.2.1.length:Int))=true:=by grind
  have aL:∃ T,L (a++first::T):=⟨b,by rw [kr];show _=_;simp [iH]⟩
  simp only [aN,if_true,true_and,and_self];rw [A.ba aL,A.gf];refine ⟨⟨true,trivial⟩,λy _=>A.ez.2 ?_⟩;refine ⟨rfl,rfl,λh=>?_,λh=>?_⟩
  ·change y=true at h;subst h;exact ⟨rfl,rfl⟩
  grind
 | succ n=>
  have aN:decide ((first.length:Int)=(s.2.2.2.1.length:Int))=false:=by grind
  simp only [aN,Bool.false_eq_true,if_false,A.gf];obtain ⟨z,bm⟩:∃ z,iH s e (n+1) first=mX s e n first s.2.2.1.length++z:=⟨_,rfl⟩
  refine A.AL s.2.2.1.length (λk q=>q=(some (c_ s),first,e,l,(first.length:Int),s.2.2.1,(s.2.2.1.length:Int),(k:Int),(l,L,a++mX s e n first k,false),())) ?_ ?_ ?_
  ·show _=_;simp [mX]
  ·rintro k ak q rfl;have jy:=bF (n:=(k:Int)+1) (by omega) (by omega);have gW:first.length<2 ^ 63:=by omega
   have p6:first.length<s.2.2.2.1.length:=by omega
   have AX:=H_ p6;have wF:List.getD s.2.2.2.1 first.length ([],(0,0),0,0,0)=hV s (first.length:Int):=rfl
   have Ef:s.2.2.1[k]=hI s (k:Int):=by simp [hI,List.getD_eq_getElem?_getD,ak]
   have j':uV.pre (hV s (first.length:Int),hI s (k:Int)):=aj.mI.2.2.2.2.2.2 _ AX;have alk:(first.length<2 ^ 63)=True:=by grind
   simp only [dn ak,if_true,dd ak,en ak,A.bL,aU.sh,A.mg,A.hS,alk,hA,Int.toNat_natCast,dd p6,wF,Ef,and_true,true_and,and_self,imp_self,implies_true];have alm:((hV s (first.length:Int)).1.length<2 ^ 63)=True:=by grind
   have aln:List.getD s.2.2.1 k (0,0,0,0,[])=hI s (k:Int):=rfl;have cI:first.contains (k:Int)=false->(!first.contains (k:Int))=true:=λh=>by grind
   have ks:((0:Int)<=0/\0<=(first.length:Int)/\(first.length:Int)<=(first.length:Int))=True:=by simp
   have qp:List.take first.length first=first:=List.take_length
   have h4:(0<Add.add 0 1/\bT (Add.add first.length (Add.add 0 1))):=⟨by decide,by show bT (first.length+1);unfold bT;omega⟩
   have jq:(first.contains (k:Int)||decide (jR (hV s (first.length:Int)) (hI s (k:Int))=0))=!r6 s first k:=by unfold r6;simp
   have g6:first.contains (k:Int)=first.contains (k:Int):=rfl
   simp only [Option.isSome_some,Option.getD_some,hA,dd p6,wF,aln,alm,and_true,true_and,and_self,imp_self,implies_true,A.bL,A.ba cI,jq,ks,qp];rw [A.ba (by omega)];obtain ⟨t,aR⟩:=ali s e n first (show k+1<=s.2.2.1.length by omega)
   cases aI:r6 s first k with
   | false=>
    simp only [Bool.not_false,if_true,A.aX,A.bX,A.ez,b',jy];show _=_;rw [Ir,aI];simp
   | true=>
    rw [Ir,aI,if_pos rfl] at aR;simp only [Bool.not_true,Bool.false_eq_true,if_false,A.gf];have Ep:OV f (some (c_ s),first++[(k:Int)],e,l,(l,L,a++mX s e n first k,false),()) s n (a++mX s e n first k) (t++z++b):=by
     refine ⟨⟨rfl,aj⟩,by grind,by omega,rfl,rfl,?_,rfl⟩;grind
    refine ⟨⟨s,n,_,_,Ep⟩,λy aJ=>?_⟩;obtain ⟨l6,⟨WZ,W0,OW,bG⟩,alo⟩:=y;obtain ⟨db,dR,lK,lU⟩:=aJ;change WZ=l at db;change W0=L at dR;subst db;subst dR;cases l6 with
    | false=>
     have a8:bG=true:=lU rfl;subst a8;simp only [Bool.not_false,if_true,A.aX,A.ez,A.jf];simp
    | true=>
     obtain ⟨bV,d_⟩:=lK rfl;change bG=false at bV;change OW=(a++mX s e n first k)++iH s e (s.2.2.2.1.length - (first++[(k:Int)]).length) (first++[(k:Int)]) at d_;have mO:s.2.2.2.1.length - (first++[(k:Int)]).length=n:=by grind
     rw [mO] at d_;subst bV;subst d_;simp only [Bool.not_true,Bool.false_eq_true,if_false,A.aX,A.ez,A.bX,b',jy];show _=_;rw [Ir,aI,if_pos rfl];simp
  ·rintro q rfl;have qp:List.take first.length first=first:=List.take_length
   have ks:((0:Int)<=0/\0<=(first.length:Int)/\(first.length:Int)=(first.length:Int)/\(first.length:Int)<=(first.length:Int))=True:=by simp
   have h4:(0<Add.add 0 1/\bT (Add.add first.length (Add.add 0 1))):=⟨by decide,by show bT (first.length+1);unfold bT;omega⟩
   simp only [Int.lt_irrefl,decide_false,Bool.false_eq_true,if_false,A.aX,A.ez,A.bX,ks,qp,Int.toNat_natCast,and_true];by_cases he:e=0
   ·have zt:iH s e (n+1) first=mX s e n first s.2.2.1.length:=by
     show mX s e n first s.2.2.1.length++(if e=0 then [] else iH s e n (first++[-1]))=_
     grind
    simp only [he,decide_true,Bool.not_true,Bool.false_eq_true,if_false,false_imp_iff,A.bL,Bool.true_or,A.ez,Bool.true_eq_false,and_self,implies_true];grind
   ·have zt:iH s e (n+1) first=mX s e n first s.2.2.1.length++iH s e n (first++[-1]):=by
     show mX s e n first s.2.2.1.length++(if e=0 then [] else iH s e n (first++[-1]))=_
     grind
    simp only [he,decide_false,Bool.not_false,if_true,true_imp_iff,A.bL,Bool.false_or,and_self,implies_true];rw [A.ba (by simp),A.ba (by omega)];have Ep:OV f (some (c_ s),first++[-1],e,l,(l,L,a++mX s e n first s.2.2.1.length,false),()) s n (a++mX s e n first s.2.2.1.length) b:=by
     refine ⟨⟨rfl,aj⟩,by grind,by omega,rfl,rfl,?_,rfl⟩;grind
    rw [A.gf];refine ⟨⟨s,n,_,_,Ep⟩,λy aJ=>A.ez.2 ?_⟩;obtain ⟨l6,⟨WZ,W0,OW,bG⟩,alo⟩:=y;obtain ⟨db,dR,lK,lU⟩:=aJ;refine ⟨db,dR,λh=>?_,lU⟩;obtain ⟨bV,d_⟩:=lK h;change OW=(a++mX s e n first s.2.2.1.length)++iH s e (s.2.2.2.1.length - (first++[(-1:Int)]).length) (first++[-1]) at d_;grind
theorem alp (f:Nat) (x):A.bz (NG uV.sh (r7 f) mj.sh x) (r7 (f+1) x):=λh=>by
 obtain ⟨o,first,e,l,⟨cP,L,p,st⟩,u⟩:=x;obtain ⟨s,n,a,b,ar⟩:=h;obtain ⟨⟨ax,aj⟩,M,aa,an,a8,bV,d_⟩:=ar;change o=_ at ax;change cP=l at an;change st=false at a8;change p=a at d_;change L=_ at bV;change first.length+n=_ at M
 change _ at bV;subst ax;subst an;subst a8;subst d_;have mO:(p5 (some (c_ s))).2.2.2.1.length - first.length=n:=by show s.2.2.2.1.length - first.length=n;omega
 refine A.cp.mono (alj aj M aa bV) λy aJ=>⟨aJ.1,aJ.2.1,λh=>?_,aJ.2.2.2⟩
 obtain ⟨aS,aY⟩:=aJ.2.2.1 h;refine ⟨aS,?_⟩;rw [aY];show _=p++iH (p5 (some (c_ s))) e ((p5 (some (c_ s))).2.2.2.1.length - first.length) first
 rw [mO];rfl
theorem alq (x):¬(r7 0 x).dU:=λ⟨s,n,a,b,h⟩=>by have:=h.cQ;omega
def jT (e:Int) (s:a3):List (List Int):=iH s e s.2.2.2.1.length []
def yD (o:Option ea):Prop:=∃ s,wC o s
def Is (o:Option ea):List (List Int):=jT 1 (p5 o)
def OX (o:Option ea):List (List Int):=jT 0 (p5 o)
theorem alr (s:a3) (aj:gm s) (l:Nat):A.cp (Hg (r7 10) (some (c_ s),l,(l,(λT=>T=jT 1 s),[],false),())) λy=>y.1.1=l/\y.1.2.1=(λT=>T=jT 1 s)/\(y.1.2.2.2=false->y.1.2.2.1=jT 1 s):=by
 unfold Hg;rw [A.gf];have AW:=aj.jS;refine ⟨⟨s,s.2.2.2.1.length,[],[],⟨rfl,aj⟩,by simp,by omega,rfl,rfl,by show (λT=>T=jT 1 s)=_;simp [jT],rfl⟩,λy aJ=>A.ez.2 ?_⟩;obtain ⟨db,dR,lK,lU⟩:=aJ;refine ⟨db,dR,λh=>?_⟩;cases M:y.1 with
 | false=>grind
 | true=>
  obtain ⟨_,an⟩:=lK M;show y.2.1.2.2.1=_;rw [an];rfl
theorem als (s:a3) (aj:gm s) (l:Nat):A.cp (Hh (r7 10) (some (c_ s),l,(l,(λT=>T=jT 0 s),[],false),())) λy=>y.1.1=l/\y.1.2.1=(λT=>T=jT 0 s)/\(y.1.2.2.2=false->y.1.2.2.1=jT 0 s):=by
 unfold Hh;rw [A.gf];have AW:=aj.jS;refine ⟨⟨s,s.2.2.2.1.length,[],[],⟨rfl,aj⟩,by simp,by omega,rfl,rfl,by show (λT=>T=jT 0 s)=_;simp [jT],rfl⟩,λy aJ=>A.ez.2 ?_⟩;obtain ⟨db,dR,lK,lU⟩:=aJ;refine ⟨db,dR,λh=>?_⟩;cases M:y.1 with
 | false=>grind
 | true=>
  obtain ⟨_,an⟩:=lK M;show y.2.1.2.2.1=_;rw [an];rfl
end Go.Fer
namespace Go.Fer
open A (ab)
set_option linter.unusedVariables false
set_option linter.unusedSimpArgs false
theorem OY {G ao:Type} {body:G->ao->A (dc×G)} (g:G->ao->G) (I:G->Prop):∀ (l:List ao) (s:G),I s->(∀ x∈l,∀ s,I s->body s x=A.pure (dc.normal,g s x)/\I (g s x))->ju body l s=A.pure (dc.normal,l.foldl g s)
 | [],s,_,_=>rfl
 | x::l,s,fs,h=>by
  obtain ⟨M,aa⟩:=h x (by simp) s fs;unfold ju;rw [M,A.aX];exact OY g I l (g s x) aa λy aJ=>h y (List.mem_cons_of_mem _ aJ)
theorem OZ {s:a3} {e:Int}:∀ {n:Nat} {first y:List Int},y∈iH s e n first->y.length=first.length+n/\∀ p∈y,p∈first\/p=-1\/(0<=p/\p<(s.2.2.1.length:Int))
 | 0,first,y,h=>by
  simp only [iH,List.mem_singleton] at h;grind
 | n+1,first,y,h=>by
  simp only [iH,List.mem_append,List.mem_flatMap,List.mem_range] at h;rcases h with ⟨p,ar,h⟩ | h
  ·split at h
   ·obtain ⟨M,aa⟩:=OZ h;grind
   grind
  ·split at h
   ·cases h
   ·obtain ⟨M,aa⟩:=OZ h;grind
theorem O0 {s:a3} {e:Int} {y:List Int} (h:y∈jT e s):y.length=s.2.2.2.1.length/\kY s y:=by
 obtain ⟨M,aa⟩:=OZ h;have M:y.length=s.2.2.2.1.length:=by grind
 refine ⟨M,by omega,λp ar=>?_⟩;grind
theorem alu (s:a3):kY s (List.replicate s.2.2.2.1.length (-1)):=⟨by simp,λp ar=>by grind⟩
def ly (s:a3) (b y:List Int):List Int:=if (decide (ho s y > ho s b)&&u1 s y)=true then y else b
def u2 (s:a3):List Int:=(jT 1 s).foldl (ly s) (List.replicate s.2.2.2.1.length (-1))
theorem W1 {s:a3}:∀ (l:List (List Int)) (b:List Int),(∀ y∈l,y.length=s.2.2.2.1.length/\kY s y)->(b.length=s.2.2.2.1.length/\kY s b)->((l.foldl (ly s) b).length=s.2.2.2.1.length/\kY s (l.foldl (ly s) b))
 | [],b,_,af=>af
 | y::l,b,aw,af=>by
  rw [List.foldl_cons];refine W1 l _ (λz bm=>aw z (List.mem_cons_of_mem _ bm)) ?_;unfold ly;grind
theorem alv (s:a3):(u2 s).length=s.2.2.2.1.length/\kY s (u2 s):=W1 _ _ (λ_ h=>O0 h) ⟨by simp,alu s⟩
abbrev O1:aU:=⟨wB,hl,λo=>∃ s,wC o s,λo=>u2 (p5 o)⟩
theorem alw (s:a3) (aj:gm s):NA HY.sh A5.sh uX.sh yD Is (some (c_ s))=A.pure (u2 s):=by
 unfold NA;have AW:=aj.jS;have hA:(c_ s).1=s:=rfl;have hh:yD (some (c_ s)):=⟨s,rfl,aj⟩
 have yf:Is (some (c_ s))=jT 1 s:=rfl;simp only [Option.isSome_some,Option.getD_some,A.bL,cc,hA,aU.sh,A.cN,yf];rw [A.ba (by grind),A.ba hh];simp only [Int.toNat_natCast];rw [OY (λ(b:Option ea×List Int×Unit) (y:List Int)=>(some (c_ s),ly s b.2.1 y,())) (λb=>b.1=some (c_ s)/\b.2.1.length=s.2.2.2.1.length) (jT 1 s) (some (c_ s),List.replicate s.2.2.2.1.length (-1),()) ⟨rfl,by simp⟩ ?_]
 ·have ax:∀ (l:List (List Int)) (b:List Int),l.foldl (λ(b:Option ea×List Int×Unit) (y:List Int)=>(some (c_ s),ly s b.2.1 y,())) (some (c_ s),b,())=(some (c_ s),l.foldl (ly s) b,()):=by
   intro l;induction l with
   | nil=>simp
   | cons y l aO=>grind
  rw [ax,A.aX];rfl
 ·intro y aJ b af;obtain ⟨e0,gE,alx⟩:=b;obtain ⟨CY,Fo⟩:=af;change e0=_ at CY;change gE.length=_ at Fo;subst CY;obtain ⟨xK,sI⟩:=O0 aJ;have h5:uX.pre (some (c_ s),y):=⟨s,⟨rfl,aj⟩,by grind⟩
  have oN:uX.pre (some (c_ s),gE):=⟨s,⟨rfl,aj⟩,by grind⟩
  have lJ:A5.pre (some (c_ s),y):=⟨s,⟨rfl,aj⟩,sI⟩
  have aK:uX.g (some (c_ s),y)=ho s y:=rfl;have bq:uX.g (some (c_ s),gE)=ho s gE:=rfl;have cF:A5.g (some (c_ s),y)=u1 s y:=rfl;refine ⟨?_,rfl,?_⟩
  ·simp only [A.mg,A.hS,A.ba h5,A.ba oN,aK,bq,cF,lJ,and_true,true_and,and_self,imp_self,implies_true,A.bL,ly];have db:∀ c:Prop,(c->c/\(∃ Er,wC (some (c_ s)) Er/\kY Er y)):=λc h=>⟨h,lJ⟩
   rw [A.ba (db _)];have aK:p5 (some (c_ s))=s:=rfl;simp only [aK];cases hc:(decide (ho s y > ho s gE)&&u1 s y)<;>simp
  ·show (ly s gE y).length=_;unfold ly;grind
theorem aly (x):A.bz (NA HY.sh A5.sh uX.sh yD Is x) (O1.sh x):=A.bU λh=>by
 obtain ⟨s,ax,aj⟩:=h;subst ax;exact alw s aj
theorem W2 {s:a3} {cb:Bool} (h:f_ s cb=0):yp s cb=(some (c_ s),0):=by simp [yp,h]
theorem W3 {s:a3} {cb:Bool} (h:f_ s cb≠0):yp s cb=(none,f_ s cb):=by simp [yp,h]
def ta (s:a3) (cb:Bool):Int×Int:=if f_ s cb≠0 then (0,f_ s cb) else (ho s (u2 s),0)
abbrev O2:aU:=⟨.aG nX dm,.aG bp bp,λx=>gH x.1,λx=>ta x.1 x.2⟩
theorem alz (x):A.bz (UM H8.sh O1.sh uX.sh x) (O2.sh x):=A.bU λh=>by
 unfold UM;show _=A.pure (ta x.1 x.2);unfold ta;simp only [aU.sh,A.cN];rw [A.ba (by exact h)];by_cases ak:f_ x.1 x.2=0
 ·have aj:=q2 h (nY ak).1;simp only [W2 ak,ak,ne_eq,not_true,decide_false,Bool.false_eq_true,if_false];rw [A.ba (by exact ⟨x.1,rfl,aj⟩),A.ba (by exact ⟨x.1,⟨rfl,aj⟩,Nat.le_of_eq (alv x.1).1⟩)];rfl
 ·simp [W3 ak,ak]
abbrev It:aU:=⟨nX,.aG bp bp,gH,λs=>ta s true⟩
theorem alA (x):A.bz (UG O2.sh x) (It.sh x):=A.bU λh=>by
 unfold UG;simp only [aU.sh,A.cN];simp_all
def u3 (s:a3) (n:Int) (y:List Int):Int:=if (!(gP s y).2||!yC (c_ s) (gP s y).1)=true then n else if (decide (n=-1)||decide (u0 (c_ s) (gP s y).1<n))=true then u0 (c_ s) (gP s y).1 else n
def A6 (s:a3):Int:=(jT 0 s).foldl (u3 s) (-1)
def wL (s:a3):Int×Int:=if f_ s true≠0 then (0,f_ s true) else if A6 s=-1 then (0,3) else (A6 s,0)
abbrev Iu:aU:=⟨nX,.aG bp bp,gH,wL⟩
theorem alB (x):A.bz (UH H8.sh yD OX Ic.sh OQ.sh Iq.sh x) (Iu.sh x):=A.bU λh=>by
 unfold UH;show _=A.pure (wL x);unfold wL;simp only [aU.sh,A.cN];rw [A.ba (by exact h)];by_cases ak:f_ x true=0
 ·have aj:=q2 h (nY ak).1;have hh:yD (some (c_ x)):=⟨x,rfl,aj⟩
  have yf:OX (some (c_ x))=jT 0 x:=rfl;simp only [W2 ak,ak,ne_eq,not_true,decide_false,Bool.false_eq_true,if_false,yf];rw [A.ba hh];rw [OY (λ(b:Option ea×Int×Unit) (y:List Int)=>(some (c_ x),u3 x b.2.1 y,())) (λb=>b.1=some (c_ x)) (jT 0 x) (some (c_ x),-1,()) rfl ?_]
  ·have ax:∀ (l:List (List Int)) (b:Int),l.foldl (λ(b:Option ea×Int×Unit) (y:List Int)=>(some (c_ x),u3 x b.2.1 y,())) (some (c_ x),b,())=(some (c_ x),l.foldl (u3 x) b,()):=by
    intro l;induction l with
    | nil=>simp
    | cons y l aO=>grind
   rw [ax,A.aX];show (if decide (A6 x=-1)=true then A.pure ((0:Int),(3:Int)) else A.pure (A6 x,0))=_;grind
  ·intro y aJ b af;obtain ⟨e0,gE,alx⟩:=b;change e0=_ at af;subst af;obtain ⟨xK,sI⟩:=O0 aJ;refine ⟨?_,rfl⟩;have qF:=WW aj sI;have h5:∃ Er,wC (some (c_ x)) Er/\kY Er y:=⟨x,⟨rfl,aj⟩,sI⟩
   have dr:(c_ x).1.2.1.length<2 ^ 63:=h.2.1;have oN:∃ t,some (c_ x)=some t/\t.1.2.1.length<2 ^ 63/\(gP x y).1.length<2 ^ 63:=⟨_,rfl,dr,by omega⟩
   have lJ:∃ t,some (c_ x)=some t/\t.2.1.length<=200/\(gP x y).1.length<=1000:=⟨_,rfl,OT aj,by omega⟩
   have aK:p5 (some (c_ x))=x:=rfl;have bq:Option.getD (some (c_ x)) yq=c_ x:=rfl;simp only [A.je,A.cN,aK,bq];rw [A.ba h5];simp only [oN,implies_true,A.bL];rw [A.ba (by exact lJ)];show _=A.pure (dc.normal,some (c_ x),u3 x gE y,());unfold u3;cases M:(gP x y).2
   ·simp
   ·cases aa:yC (c_ x) (gP x y).1
    ·simp
    ·simp only [Bool.not_true,Bool.not_false,if_true,Bool.or_self,Bool.false_eq_true,if_false];cases an:(decide (gE=-1)||decide (u0 (c_ x) (gP x y).1<gE))<;>simp
 ·simp [W3 ak,ak]
theorem W4 {s:a3} {a0:List Int} (h:q0 s a0=true):a0.length=s.2.2.2.1.length/\kY s a0:=by
 unfold q0 at h;simp only [Bool.and_eq_true,List.all_eq_true,List.mem_range,decide_eq_true_eq] at h;obtain ⟨M,aa⟩:=h;refine ⟨by omega,by omega,λp ar=>?_⟩;obtain ⟨i,U,rfl⟩:=List.mem_iff_getElem.1 ar;have:=M i U;have ke:a0.getD i 0=a0[i]:=by grind
 unfold wz at this;simp only [ke,Bool.or_eq_true,decide_eq_true_eq,Bool.and_eq_true,H2] at this;omega
end Go.Fer
namespace Go.Fer
open A (ab)
set_option linter.unusedVariables false
set_option linter.unusedSimpArgs false
def oC (w:aT) (m k:Int):List Int:=((List.range w.1.length).filter λ(i:Nat)=>decide ((nS w (i:Int) m k).1=1)).map λ(i:Nat)=>(i:Int)
abbrev ir:Type:=Int×List Int
def nZ (s:a3) (a0:List Int) (i:Nat):Option (List ir):=if a0.getD i 0<0 then some [] else (kB s (hV s (i:Int)) (hI s (a0.getD i 0))).map λd=>(hI s (a0.getD i 0)).2.2.2.2.map λk=>(d,oC s.1 (hI s (a0.getD i 0)).2.2.2.1 k)
def dZ (s:a3) (a0:List Int):List ir×Bool:=if ((List.range a0.length).all λi=>(nZ s a0 i).isSome)=true then ((List.range a0.length).flatMap λi=>(nZ s a0 i).getD [],true) else ([],false)
end Go.Fer
namespace Go.Fer
open A (ab)
set_option linter.unusedVariables false
set_option linter.unusedSimpArgs false
abbrev fB:e_:=(0,0,0)
def yE (t:ir) (e:e_):Bool:=decide (e.2.2 > 0)&&decide (e.1<=t.1)&&t.2.contains e.2.1
def np (d:List e_) (k:Nat):List e_:=d.set k ((d.getD k fB).1,(d.getD k fB).2.1,(d.getD k fB).2.2 - 1)
def A7 (t:ir) (d:List e_):List (List e_):=((List.range d.length).filter λk=>yE t (d.getD k fB)).map (np d)
def alC (d:List e_):Prop:=d.length<=1000/\∀ e∈d,0<=e.2.2/\e.2.2<=10
def yF:List ir->List e_->Bool
 | [],_=>true
 | t::l,d=>(A7 t d).any (yF l)
def iu (b n:Int):Int:=if (decide (n>=0)&&(decide (b<0)||decide (n<b)))=true then n else b
def oD:List ir->List e_->Int
 | [],_=>0
 | t::l,d=>if (t.2.length:Int)=0 then -1 else (A7 t d).foldl (λb o=>iu b (oD l o)) (if oD l d>=0 then oD l d+1 else oD l d)
def dJ (s:a3):List e_:=s.2.2.2.2.1++(List.range s.2.1.length).map λ(i:Nat)=>((0:Int),(i:Int),s.2.1.getD i 0)
theorem alD {s:a3} (aj:gm s):alC (dJ s):=by
 have mw:=aj.H6;have Qk:=aj.H7;have dr:=aj.p3;refine ⟨by unfold dJ;grind,λe he=>?_⟩;unfold dJ at he;rcases List.mem_append.1 he with he | he
 ·have:=aj.Ee e he;simp only [nm,c5,Bool.and_eq_true,decide_eq_true_eq] at this;omega
 ·obtain ⟨i,U,rfl⟩:=List.mem_map.1 he;have U:i<s.2.1.length:=by grind
  have ke:s.2.1.getD i 0=s.2.1[i]:=by grind
  show 0<=s.2.1.getD i 0/\s.2.1.getD i 0<=10;rw [ke];exact aj.aB _ (List.getElem_mem U)
def kf (s:a3) (a0:List Int):Bool:=(dZ s a0).2&&yF (dZ s a0).1 (dJ s)
def iU (s:a3) (a0:List Int):Int:=if (!(dZ s a0).2)=true then -1 else oD (dZ s a0).1 (dJ s)
end Go.Fer
namespace Go.Fer
open A (ab)
set_option linter.unusedVariables false
set_option linter.unusedSimpArgs false
def alE (a0:List Int):Prop:=∀ p∈a0,-1<=p
def wM (s:a3):Nat->List Int->List (List Int)
 | 0,first=>[first]
 | n+1,first=>(List.range (s.2.2.1.length+1)).flatMap λk=>if k=0 then wM s n (first++[-1]) else if r6 s first (k - 1)=true then wM s n (first++[((k - 1:Nat):Int)]) else []
theorem O3 {s:a3}:∀ {n:Nat} {first y:List Int},y∈wM s n first->y.length=first.length+n/\∀ p∈y,p∈first\/p=-1\/(0<=p/\p<(s.2.2.1.length:Int))
 | 0,first,y,h=>by
  simp only [wM,List.mem_singleton] at h;grind
 | n+1,first,y,h=>by
  simp only [wM,List.mem_flatMap,List.mem_range] at h;obtain ⟨k,ak,h⟩:=h;split at h
  ·obtain ⟨M,aa⟩:=O3 h;grind
  ·split at h
   ·obtain ⟨M,aa⟩:=O3 h;grind
   grind
def f' (s:a3):List (List Int):=wM s s.2.2.2.1.length []
theorem W5 {s:a3} {y:List Int} (h:y∈f' s):y.length=s.2.2.2.1.length/\kY s y/\alE y:=by
 obtain ⟨M,aa⟩:=O3 h;have M:y.length=s.2.2.2.1.length:=by grind
 refine ⟨M,⟨by omega,λp ar=>?_⟩,λp ar=>?_⟩
 ·rcases aa p ar with an | an | an
  ·cases an
  ·omega
  ·exact an.2
 ·rcases aa p ar with an | an | an
  ·cases an
  ·omega
  ·omega
end Go.Fer
namespace Go.Fer
open A (ab)
set_option linter.unusedVariables false
set_option linter.unusedSimpArgs false
def tb (s:a3) (b:Int) (y:List Int):Int:=if (decide (ho s y > b)&&kf s y)=true then ho s y else b
def yG (s:a3):Int:=(f' s).foldl (tb s) 0
def O4 (s:a3):Int×Int:=if f_ s true≠0 then (0,f_ s true) else (yG s,0)
def Iv (s:a3) (b:Int) (y:List Int):Int:=if y.contains (-1)=true then b else iu b (iU s y)
def hB (s:a3):Int:=(f' s).foldl (Iv s) (-1)
def O5 (s:a3):Int×Int:=if f_ s true≠0 then (0,f_ s true) else if hB s<0 then (0,3) else (hB s,0)
def sa (s:a3):Prop:=yl s.1/\s.2.1.length<=2000000/\s.2.2.1.length<=2000000/\s.2.2.2.1.length<=2000000/\s.2.2.2.2.1.length<=2000000/\(∀ p∈s.2.2.1,p.2.2.2.2.length<=2000000)/\∀ x∈s.2.2.2.1,x.1.length<=2000000
theorem sa.mI {s:a3} (h:sa s):gH s:=by
 obtain ⟨M,aa,an,a8,bV,d_,hL⟩:=h;exact ⟨M.mI,by omega,by omega,by omega,by omega,λp ar=>by grind,λx au=>by grind⟩
def W6 (s:a3):Hd:=(s.1.1,s.1.2.1,s.1.2.2.1,s.1.2.2.2,s.2.2.2.2.2,s.2.1,s.2.2.1,s.2.2.2.1,s.2.2.2.2.1,())
def Es (x:a3×Unit):A Hd:=A.eT (sa x.1) (W6 x.1)
theorem alF (x):A.bz (U6 N'.sh x) (Es x):=A.bU λh=>by
 obtain ⟨x,u⟩:=x;obtain ⟨M,aa,an,a8,bV,d_,hL⟩:=h;change yl x.1 at M;change x.2.1.length<=2000000 at aa;change x.2.2.1.length<=2000000 at an;change x.2.2.2.1.length<=2000000 at a8;change x.2.2.2.2.1.length<=2000000 at bV;change ∀ p∈x.2.2.1,p.2.2.2.2.length<=2000000 at d_;change ∀ p∈x.2.2.2.1,p.1.length<=2000000 at hL;unfold U6;simp only [aU.sh,A.cN];have eS:bT (0+x.2.1.length):=by unfold bT;omega
 have tw:bT (0+x.2.2.1.length):=by unfold bT;omega
 have nu:bT (0+x.2.2.2.1.length):=by unfold bT;omega
 have pb:bT (0+x.2.2.2.2.1.length):=by unfold bT;omega
 rw [A.ba (by exact M)];simp only [ku,A.ba eS,A.ba tw,A.ba nu,A.ba pb,List.nil_append];rw [A.fv x.2.2.1 (λi (_:Unit)=>((i:Int),x,0,0,x.1.1,x.1.2.1,x.1.2.2.1,x.1.2.2.2,x.2.2.2.2.2,x.2.1,x.2.2.1,x.2.2.2.1,x.2.2.2.2.1,())) (λp b=>.next b) (λ_=>.next (x,0,0,x.1.1,x.1.2.1,x.1.2.2.1,x.1.2.2.2,x.2.2.2.2.2,x.2.1,x.2.2.1,x.2.2.2.1,x.2.2.2.2.1,())) () ?_ ?_ ?_]
 ·rw [g7,A.aX,A.bX];rw [A.fv x.2.2.2.1 (λi (_:Unit)=>((i:Int),x,0,0,x.1.1,x.1.2.1,x.1.2.2.1,x.1.2.2.2,x.2.2.2.2.2,x.2.1,x.2.2.1,x.2.2.2.1,x.2.2.2.2.1,())) (λp b=>.next b) (λ_=>.next (0,0,x.1.1,x.1.2.1,x.1.2.2.1,x.1.2.2.2,x.2.2.2.2.2,x.2.1,x.2.2.1,x.2.2.2.1,x.2.2.2.2.1,())) () ?_ ?_ ?_]
  ·rw [g7,A.aX,A.bX]<;>rfl
  ·rfl
  ·intro i U b;have hn:=bF (n:=(i:Int)+1) (by omega) (by omega);have hc:=hL _ (List.getElem_mem U);have l7:bT (0+x.2.2.2.1[i].1.length):=by unfold bT;omega
   have sr:x.2.2.2.1.set i (x.2.2.2.1[i].1,x.2.2.2.1[i].2)=x.2.2.2.1:=List.set_getElem_self U;simp_all
  simp
 ·rfl
 ·intro i U b;have hn:=bF (n:=(i:Int)+1) (by omega) (by omega);have hc:=d_ _ (List.getElem_mem U);have l7:bT (0+x.2.2.1[i].2.2.2.2.length):=by unfold bT;omega
  have sr:x.2.2.1.set i (x.2.2.1[i].1,x.2.2.1[i].2.1,x.2.2.1[i].2.2.1,x.2.2.1[i].2.2.2.1,x.2.2.1[i].2.2.2.2)=x.2.2.1:=List.set_getElem_self U;simp_all
 simp
end Go.Fer
namespace Go.Fer
open A (ab)
set_option linter.unusedVariables false
set_option linter.unusedSimpArgs false
def W7 (s:a3):Int:=(s.2.2.1.map λp=>(p.2.2.2.2.length:Int)).foldl (·+·) 0
def yH (s:a3):Bool:=
 if (wy s.1||decide ((s.2.1.length:Int) > 40)||decide ((s.2.2.1.length:Int) > 40)||decide ((s.2.2.2.1.length:Int) > 40)||decide ((s.2.2.2.2.1.length:Int) > 40))=true then true
 else if (s.2.2.1.any λp=>decide ((p.2.2.2.2.length:Int) > 40))=true then true
 else if (s.2.2.2.1.any λx=>decide ((x.1.length:Int) > 40))=true then true
 else if kc s≠0 then false
 else decide ((s.2.2.2.1.length:Int) > 3)||decide ((s.2.2.1.length:Int) > 4)||decide ((s.2.2.2.2.1.length:Int) > 3)||decide (W7 s > 4)
theorem alG {s:a3} (h:yH s=false):sa s:=by
 unfold yH at h;split at h
 ·cases h
 ·rename_i M;split at h
  ·cases h
  ·rename_i aa;split at h
   ·cases h
   ·rename_i an;simp only [Bool.or_eq_true,decide_eq_true_eq,not_or] at M;rw [Bool.not_eq_true,List.any_eq_false] at aa an;have aW:wy s.1=false:=by grind
    refine ⟨ajY aW,by omega,by omega,by omega,by omega,λp ar=>?_,λx au=>?_⟩
    ·have:=aa p ar;simp only [decide_eq_true_eq] at this;omega
    ·have:=an x au;simp only [decide_eq_true_eq] at this;omega
abbrev O6:aU:=⟨nX,dm,gH,yH⟩
theorem alH (x):A.bz (U7 uS.sh Oa.sh x) (O6.sh x):=A.bU λh=>by
 change gH x at h;unfold U7;show _=A.pure (yH x);unfold yH;simp only [aU.sh,A.cN,cc];rw [A.ba (by exact h.1)];obtain ⟨ek,ht,iD,nc,sH,xJ,vP⟩:=id h;by_cases M:(wy x.1||decide ((x.2.1.length:Int) > 40)||decide ((x.2.2.1.length:Int) > 40)||decide ((x.2.2.2.1.length:Int) > 40)||decide ((x.2.2.2.2.1.length:Int) > 40))=true
 ·grind
 ·rw [if_neg M,if_neg M];simp only [Bool.or_eq_true,decide_eq_true_eq,not_or] at M;rw [A.fv x.2.2.1 (λi (_:Unit)=>((i:Int),x,())) (λp u=>if decide ((p.2.2.2.2.length:Int) > 40)=true then .done (.done true) else .next u) (λ_=>.next (x,())) () ?_ ?_ ?_]
  ·rw [uA (p:=λp:eu=>decide ((p.2.2.2.2.length:Int) > 40))];by_cases aa:(x.2.2.1.any λp=>decide ((p.2.2.2.2.length:Int) > 40))=true
   ·simp only [aa,if_true,A.aX,A.jf]
   ·simp only [aa,Bool.false_eq_true,if_false,A.aX,A.bX];rw [A.fv x.2.2.2.1 (λi (_:Unit)=>((i:Int),x,())) (λp u=>if decide ((p.1.length:Int) > 40)=true then .done (.done true) else .next u) (λ_=>.next (x,())) () ?_ ?_ ?_]
    ·rw [uA (p:=λp:e2=>decide ((p.1.length:Int) > 40))];by_cases an:(x.2.2.2.1.any λx=>decide ((x.1.length:Int) > 40))=true
     ·simp only [an,if_true,A.aX,A.jf]
     ·simp only [an,Bool.false_eq_true,if_false,A.aX,A.bX];rw [A.ba (by exact h)];by_cases he:kc x=0
      ·simp only [he,ne_eq,not_true,decide_false,Bool.false_eq_true,if_false];have af:∀ p∈x.2.2.1,p.2.2.2.2.length<=40:=λp ar=>by
        grind
       rw [A.hT x.2.2.1 (λi (n:Int)=>(n,(i:Int),x,())) (λp n=>.next (n+(p.2.2.2.2.length:Int))) (λn=>.next (n,x,())) (λi n=>0<=n/\n<=40*i) 0 ?_ ?_ ?_ ?_]
       ·rw [g7,A.aX,A.bX];unfold W7;rw [List.foldl_map]
       ·rfl
       ·simp
       ·intro i U n aI;have hn:=bF (n:=(i:Int)+1) (by omega) (by omega);have atC:=af _ (List.getElem_mem U);have wm:=bF (n:=n+(x.2.2.1[i].2.2.2.2.length:Int)) (by omega) (by omega);refine ⟨?_,λbg dq=>?_⟩
        ·simp only [dn U,if_true,dd U,A.bL,en U,b',hn,wm];rfl
        grind
       simp
      grind
    ·rfl
    ·intro i U u;have hn:=bF (n:=(i:Int)+1) (by omega) (by omega);simp only [dn U,if_true,dd U,A.bL,en U,A.aX,b',hn];exact nO (mk:=λ_:Unit=>((i:Int)+1,x,()))
    simp
  ·rfl
  ·intro i U u;have hn:=bF (n:=(i:Int)+1) (by omega) (by omega);simp only [dn U,if_true,dd U,A.bL,en U,A.aX,b',hn];exact nO (mk:=λ_:Unit=>((i:Int)+1,x,()))
  simp
def Iw (s:a3):Bool:=!yH s&&decide (f_ s true=0)
theorem alI {s:a3} (aA:gH s) (h:Iw s=true):sa s/\f_ s true=0/\gm s:=by
 unfold Iw at h;simp only [Bool.and_eq_true,Bool.not_eq_true',decide_eq_true_eq] at h;exact ⟨alG h.1,h.2,q2 aA (nY h.2).1⟩
def yI:a3:=(ym,[1,0,0,0],[(1,60,0,0,[0]),(1,60,7,0,[]),(2,65,0,1,[0]),(2,60,0,0,[0,1])],[([1],(55,65),7,3,500),([1,2],(60,60),0,5,400),([2],(60,70),9,8,700),([2],(65,65),0,5,300)],[(4,2,1),(6,3,1)],2)
abbrev Ix:aU:=⟨.da,nX,λ_=>True,λ_=>yI⟩
theorem alJ (x):A.bz (U8 s6.sh x) (Ix.sh x):=A.bU λ_=>by
 unfold U8;simp only [aU.sh,A.cN,A.bL];rfl
theorem alK:ta yI true=(1600,0):=by decide +kernel
theorem alL:gH yI:=by
 refine ⟨V4,by decide,by decide,by decide,by decide,?_,?_⟩
 ·intro p ar;simp only [yI,List.mem_cons,List.not_mem_nil,or_false] at ar;grind
 ·intro x au;simp only [yI,List.mem_cons,List.not_mem_nil,or_false] at au;grind
end Go.Fer
namespace Go.Fer
open A (ab)
set_option linter.unusedVariables false
set_option linter.unusedSimpArgs false
inductive fC {ao β:Type} (P:ao->β->Prop):List ao->List β->Prop
 | nil:fC P [] []
 | cons {a b l m}:P a b->fC P l m->fC P (a::l) (b::m)
section
variable {ao β gJ:Type}
theorem fC.len {P:ao->β->Prop} {l:List ao} {m:List β} (h:fC P l m):m.length=l.length:=by
 induction h with
 | nil=>rfl
 | cons _ _ aO=>grind
theorem fC.mono {P Q:ao->β->Prop} {l:List ao} {m:List β} (h:fC P l m) (W8:∀ a∈l,∀ b,P a b->Q a b):fC Q l m:=by
 induction h with
 | nil=>exact .nil
 | cons M _ aO=>exact .cons (W8 _ (by simp) _ M) (aO λa bf=>W8 a (List.mem_cons_of_mem _ bf))
theorem fC.mem {P:ao->β->Prop} {l:List ao} {m:List β} (h:fC P l m):∀ b∈m,∃ a∈l,P a b:=by
 induction h with
 | nil=>simp
 | cons M _ aO=>
  grind
theorem fC.eV {P:ao->β->Prop} {l:List ao} {m:List β} (h:fC P l m):∀ (i:Nat) (M:i<l.length) (aa:i<m.length),P l[i] m[i]:=by
 induction h with
 | nil=>simp
 | cons M _ aO=>
  grind
theorem fC.u4 {P:ao->β->Prop} {l cP:List ao} (ar:l.Perm cP):∀ {m:List β},fC P l m->∃ dI,m.Perm dI/\fC P cP dI:=by
 induction ar with
 | nil=>intro m h;exact ⟨m,.refl _,h⟩
 | cons x _ aO=>
  intro m h;cases h with
  | cons M aa=>
   obtain ⟨dI,aS,aY⟩:=aO aa;exact ⟨_,aS.cons _,.cons M aY⟩
 | swap x y l=>
  intro m h;cases h with
  | cons M aa=>
   cases aa with
   | cons an a8=>exact ⟨_,.swap _ _ _,.cons an (.cons M a8)⟩
 | trans _ _ alM alN=>
  intro m h;obtain ⟨eb,aS,aY⟩:=alM h;obtain ⟨eN,bK,fe⟩:=alN aY;exact ⟨eN,aS.trans bK,fe⟩
theorem fC.sub {P:ao->β->Prop} {l cP:List ao} (aA:cP.Sublist l):∀ {m:List β},fC P l m->∃ dI:List β,dI.Sublist m/\fC P cP dI:=by
 induction aA with
 | slnil=>grind
 | cons x _ aO=>
  intro m h;cases h with
  | cons M aa=>
   grind
 | cons_cons x _ aO=>
  intro m h;cases h with
  | cons M aa=>
   obtain ⟨dI,aS,aY⟩:=aO aa;exact ⟨_,aS.cons_cons _,.cons M aY⟩
end
def pc (fit:List (List Int)) (aB:List Int) (u:Int):Prop:=∃ bb:List Int,fC (λl w=>w=-1\/w∈l) fit bb/\(∀ k:Nat,k<aB.length->((bb.countP λx=>decide (x=(k:Int)):Nat):Int)<=aB.getD k 0)/\((bb.countP λx=>decide (x=-1):Nat):Int)<=u
def yJ (fit:List (List Int)) (aB:List Int):Prop:=(∀ l∈fit,∀ s∈l,0<=s/\s<(aB.length:Int))/\∀ i,i<aB.length->0<=aB.getD i 0
theorem W9 {f:Int->Int->Int} {Q:Int->Prop}:∀ (l:List Int) (b:Int),Q b->(∀ b s,s∈l->Q b->Q (f b s))->Q (l.foldl f b)
 | [],b,h,_=>h
 | x::l,b,h,ax=>W9 l _ (ax b x (by simp) h) λb s aA=>ax b s (List.mem_cons_of_mem _ aA)
theorem O7:∀ (fit:List (List Int)) (aB:List Int),yJ fit aB->
  ∃ bb:List Int,fC (λl w=>w=-1\/w∈l) fit bb/\(∀ k:Nat,k<aB.length->((bb.countP λx=>decide (x=(k:Int)):Nat):Int)<=aB.getD k 0)/\(fit.length:Int) - ((bb.countP λx=>decide (x=-1):Nat):Int)=fA fit aB
 | [],aB,h=>⟨[],.nil,λk ak=>by simpa using h.2 k ak,by rfl⟩
 | j::bO,aB,h=>by
  have aW:yJ bO aB:=⟨λl aw=>h.1 l (List.mem_cons_of_mem _ aw),h.2⟩
  have aC:=h.1 j (by simp);unfold fA;refine W9 (Q:=λn=>∃ bb:List Int,fC (λl w=>w=-1\/w∈l) (j::bO) bb/\(∀ k:Nat,k<aB.length->((bb.countP λx=>decide (x=(k:Int)):Nat):Int)<=aB.getD k 0)/\((j::bO).length:Int) - ((bb.countP λx=>decide (x=-1):Nat):Int)=n) j _ ?_ λb s aA af=>?_
  ·obtain ⟨bb,M,aa,an⟩:=O7 bO aB aW;refine ⟨-1::bb,.cons (.inl rfl) M,λk ak=>?_,?_⟩
   ·rw [List.countP_cons_of_neg (by simp)];exact aa k ak
   ·rw [List.countP_cons_of_pos (by simp)];simp only [List.length_cons];omega
  ·by_cases hc:aB.getD s.toNat 0 > 0
   ·simp only [hc,decide_true,if_true];split
    ·have WT:=aC s aA;have M:yJ bO (aB.set s.toNat (aB.getD s.toNat 0 - 1)):=by
      refine ⟨λl aw q bt=>by rw [List.length_set];exact aW.1 l aw q bt,λi U=>?_⟩;rw [List.length_set] at U;rw [oA (by omega)];grind
     obtain ⟨bb,aS,aY,bK⟩:=O7 bO _ M;refine ⟨s::bb,.cons (.inr aA) aS,λk ak=>?_,?_⟩
     ·have:=aY k (by grind);rw [oA (by omega)] at this;by_cases e:s=(k:Int)
      ·rw [List.countP_cons_of_pos (by grind)];have bq:k=s.toNat:=by omega
       grind
      ·rw [List.countP_cons_of_neg (by grind)];omega
     ·rw [List.countP_cons_of_neg (by grind)];grind
    omega
   grind
theorem alO {fit:List (List Int)} {aB:List Int} (h:yJ fit aB) (u:Int):pc fit aB u<->(fit.length:Int) - fA fit aB<=u:=by
 constructor
 ·rintro ⟨bb,M,aa,an⟩;have aw:=M.len;have key:=Ik fit bb aB aw (λi U=>?_) h.1 (λs aW aA=>?_)
  ·have hc:=List.length_eq_countP_add_countP (λx:Int=>decide (x=-1)) (l:=bb);grind
  ·have e1:i<bb.length:=by omega
   have:=M.eV i U e1;grind
  grind
 ·intro hu;obtain ⟨bb,M,aa,an⟩:=O7 fit aB h;exact ⟨bb,M,aa,by omega⟩
theorem pc.map {fit u5:List (List Int)} {aB stock':List Int} {u:Int} (kZ:Int->Int) (W:yJ fit aB) (bc:yJ u5 stock') (h:pc fit aB u) (iy:fC (λl cP=>∀ w∈l,kZ w∈cP) fit u5)
  (alP:∀ a b:Int,0<=a->a<(aB.length:Int)->0<=b->b<(aB.length:Int)->kZ a=kZ b->a=b) (aA:∀ a:Int,0<=a->a<(aB.length:Int)->aB.getD a.toNat 0<=stock'.getD (kZ a).toNat 0):pc u5 stock' u:=by
 obtain ⟨bb,M,aa,an⟩:=h;have rh:∀ w∈bb,w=-1\/(0<=w/\w<(aB.length:Int)):=λw hw=>by
  obtain ⟨l,aw,h⟩:=M.mem w hw;rcases h with h | h
  ·omega
  ·exact .inr (W.1 l aw w h)
 have O8:∀ w∈bb,w≠-1->0<=kZ w:=λw hw cI=>by
  have:∀ {f g3:List (List Int)} {V:List Int},fC (λl w=>w=-1\/w∈l) f V->fC (λl cP=>∀ w∈l,kZ w∈cP) f g3->w∈V->∃ cP∈g3,kZ w∈cP:=by
   intro f g3 V bN;induction bN generalizing g3 with
   | nil=>simp
   | cons db _ aO=>
    intro b1 hm;cases b1 with
    | cons dR lK=>
     rcases List.mem_cons.1 hm with rfl | hm
     ·grind
     ·obtain ⟨cP,aS,aY⟩:=aO lK hm;grind
  obtain ⟨cP,aS,aY⟩:=this M iy hw;exact (bc.1 cP aS _ aY).1
 refine ⟨bb.map λw=>if w=-1 then -1 else kZ w,?_,λk ak=>?_,?_⟩
 ·clear aa an rh O8;have:∀ {f g3:List (List Int)} {V:List Int},fC (λl w=>w=-1\/w∈l) f V->fC (λl cP=>∀ w∈l,kZ w∈cP) f g3->fC (λl w=>w=-1\/w∈l) g3 (V.map λw=>if w=-1 then -1 else kZ w):=by
   intro f g3 V bN;induction bN generalizing g3 with
   | nil=>intro b1;cases b1;exact .nil
   | cons db _ aO=>
    intro b1;cases b1 with
    | cons dR lK=>
     refine .cons ?_ (aO lK);grind
  grind
 ·rw [List.countP_map];by_cases hex:∃ w∈bb,w≠-1/\kZ w=(k:Int)
  ·obtain ⟨w,hw,cI,he⟩:=hex;have gx:=(rh w hw).resolve_left cI;have hle:(bb.countP ((λx=>decide (x=(k:Int))) ∘ λw=>if w=-1 then -1 else kZ w))<=bb.countP λx=>decide (x=w):=by
    refine List.countP_mono_left λx au ar=>?_;simp only [Function.comp,decide_eq_true_eq] at ar ⊢;split at ar
    ·omega
    ·rename_i Kc;have zA:=(rh x au).resolve_left Kc;exact alP x w zA.1 zA.2 gx.1 gx.2 (ar.trans he.symm)
   have a8:=aa w.toNat (by omega);rw [show ((w.toNat:Nat):Int)=w by omega] at a8;have bV:=aA w gx.1 gx.2;rw [he,Int.toNat_natCast] at bV;omega
  ·have aW:(bb.countP ((λx=>decide (x=(k:Int))) ∘ λw=>if w=-1 then -1 else kZ w))=0:=by
    grind
   rw [aW];exact bc.2 k ak
 ·rw [List.countP_map];refine Int.le_trans (Int.ofNat_le.2 (List.countP_mono_left λx au ar=>?_)) an;grind
theorem pc.u4 {fit u5:List (List Int)} {aB:List Int} {u:Int} (ar:fit.Perm u5) (h:pc fit aB u):pc u5 aB u:=by
 obtain ⟨bb,M,aa,an⟩:=h;obtain ⟨n7,aS,aY⟩:=M.u4 ar;exact ⟨n7,aY,λk ak=>by rw [<-aS.countP_eq];grind,by rw [<-aS.countP_eq];exact an⟩
theorem pc.sub {fit u5:List (List Int)} {aB:List Int} {u:Int} (aA:u5.Sublist fit) (h:pc fit aB u):pc u5 aB u:=by
 obtain ⟨bb,M,aa,an⟩:=h;obtain ⟨n7,aS,aY⟩:=M.sub aA;exact ⟨n7,aY,λk ak=>Int.le_trans (Int.ofNat_le.2 aS.countP_le) (aa k ak),Int.le_trans (Int.ofNat_le.2 aS.countP_le) an⟩
def tc (D:List e_) (t:ir) (k:Nat):Bool:=decide ((D.getD k fB).1<=t.1)&&t.2.contains (D.getD k fB).2.1
def g9 (D:List e_) (t:ir):List Int:=((List.range D.length).filter (tc D t)).map λ(k:Nat)=>(k:Int)
def ga (D:List e_):List Int:=D.map λe=>e.2.2
theorem yK {D:List e_} {t:ir} {k:Int}:k∈g9 D t<->0<=k/\k<(D.length:Int)/\tc D t k.toNat=true:=by
 unfold g9;grind
theorem A8 {D:List e_} {k:Nat} (ak:k<D.length):(ga D).getD k 0=(D.getD k fB).2.2:=by
 simp [ga,List.getD_eq_getElem?_getD,ak]
theorem Iy {D:List e_} (h:∀ e∈D,0<=e.2.2) (T:List ir):yJ (T.map (g9 D)) (ga D):=by
 refine ⟨λl aw s aA=>?_,λi U=>?_⟩
 ·obtain ⟨t,_,rfl⟩:=List.mem_map.1 aw;have:=yK.1 aA;exact ⟨this.1,by simpa [ga] using this.2.1⟩
 ·have U:i<D.length:=by simpa [ga] using U
  rw [A8 U];grind
theorem alQ (D:List e_) (k:Nat):(np D k).length=D.length:=by simp [np]
theorem alR {D:List e_} {k i:Nat} (ak:k<D.length):(np D k).getD i fB=if i=k then ((D.getD k fB).1,(D.getD k fB).2.1,(D.getD k fB).2.2 - 1) else D.getD i fB:=by
 unfold np;rw [List.getD_eq_getElem?_getD,List.getElem?_set,List.getD_eq_getElem?_getD];grind
theorem alS {D:List e_} {k:Nat} (ak:k<D.length) (t:ir):g9 (np D k) t=g9 D t:=by
 unfold g9;rw [alQ];congr 1;refine List.filter_congr λi U=>?_;unfold tc;rw [alR ak];grind
theorem alT {D:List e_} {k:Nat} (ak:k<D.length):ga (np D k)=(ga D).set k ((ga D).getD k 0 - 1):=by
 rw [A8 ak];unfold ga np;simp
end Go.Fer
namespace Go.Fer
open A (ab)
set_option linter.unusedVariables false
set_option linter.unusedSimpArgs false
def kD (D:List e_) (T:List ir):Int:=fA (T.map (g9 D)) (ga D)
theorem td (D:List e_) (T:List ir):0<=kD D T/\kD D T<=(T.length:Int):=by
 have:=Eg (T.map (g9 D)) (ga D);rw [List.length_map] at this;exact this
theorem O9 {D:List e_} {k:Nat} (ak:k<D.length) (T:List ir):kD (np D k) T=fA (T.map (g9 D)) ((ga D).set k ((ga D).getD k 0 - 1)):=by
 unfold kD;rw [alT ak];congr 1;exact List.map_congr_left λt _=>alS ak t
theorem O_ {D:List e_} {t:ir} {k:Nat} (ak:k<D.length):yE t (D.getD k fB)=true<->(k:Int)∈g9 D t/\(ga D).getD k 0 > 0:=by
 rw [yK,A8 ak];simp only [yE,tc,Bool.and_eq_true,decide_eq_true_eq,Int.toNat_natCast];grind
theorem O':∀ (T:List ir) (D:List e_),yF T D=true<->kD D T=(T.length:Int)
 | [],D=>by simp [yF,kD,fA]
 | t::T,D=>by
  have af:=td D (t::T);have tX:=td D T;unfold yF;rw [List.any_eq_true];constructor
  ·rintro ⟨o,al,h⟩;simp only [A7,List.mem_map,List.mem_filter,List.mem_range] at al;obtain ⟨k,⟨ak,aL⟩,rfl⟩:=al;have aO:=(O' T (np D k)).1 h;rw [O9 ak] at aO;obtain ⟨M,aa⟩:=(O_ ak).1 aL;have an:=OB (T.map (g9 D)) (aB:=ga D) M (by grind);rw [Int.toNat_natCast,aO] at an;have:kD D (t::T)=fA (g9 D t::T.map (g9 D)) (ga D):=rfl;grind
  ·intro h;by_cases hex:∃ o∈A7 t D,yF T o=true
   ·omega
   ·exfalso;have hle:fA (g9 D t::T.map (g9 D)) (ga D)<=(T.length:Int):=by
     refine OC tX.2 λs aA ar=>?_;have hm:=yK.1 aA;have ak:s.toNat<D.length:=by omega
     have cI:¬yF T (np D s.toNat)=true:=λaN=>by
      refine hex ⟨np D s.toNat,?_,aN⟩;simp only [A7,List.mem_map,List.mem_filter,List.mem_range];refine ⟨s.toNat,⟨ak,(O_ ak).2 ⟨?_,ar⟩⟩,rfl⟩;grind
     rw [O' T (np D s.toNat),O9 ak] at cI;have:=Eg (T.map (g9 D)) ((ga D).set s.toNat ((ga D).getD s.toNat 0 - 1));grind
    have:kD D (t::T)=fA (g9 D t::T.map (g9 D)) (ga D):=rfl;grind
def kg (T:List ir):Bool:=T.all λt=>!decide ((t.2.length:Int)=0)
theorem W_ {T:List ir} (h:∀ D,oD T D=-1):∀ (l:List (List e_)),l.foldl (λb o=>iu b (oD T o)) (-1)=-1
 | []=>rfl
 | o::l=>by
  rw [List.foldl_cons,h];exact W_ h l
theorem W' {F1 F2:Int->Nat->Int} {L:Int}:∀ (l:List Nat) (b n:Int),(∀ k∈l,∀ b n,n<=L->b=L - n->F2 n k<=L/\F1 b k=L - F2 n k)->n<=L->b=L - n->l.foldl F1 b=L - l.foldl F2 n
 | [],b,n,_,_,h=>h
 | k::l,b,n,aA,aI,af=>by
  obtain ⟨M,aa⟩:=aA k (by simp) b n aI af;rw [List.foldl_cons,List.foldl_cons];exact W' l _ _ (λq bt=>aA q (List.mem_cons_of_mem _ bt)) M aa
theorem Pa:∀ (T:List ir) (D:List e_),oD T D=if kg T=true then (T.length:Int) - kD D T else -1
 | [],D=>by rfl
 | t::T,D=>by
  unfold oD;by_cases aR:(t.2.length:Int)=0
  ·rw [if_pos aR,if_neg];unfold kg;grind
  ·rw [if_neg aR];have gv:kg (t::T)=kg T:=by
    show (!decide ((t.2.length:Int)=0)&&kg T)=kg T;grind
   rw [gv];by_cases bf:kg T=true
   ·rw [if_pos bf];have aO:∀ D,oD T D=(T.length:Int) - kD D T:=λD=>by rw [Pa T D,if_pos bf]
    have tX:=td D T;have aW:oD T D>=0:=by grind
    rw [if_pos aW,aO];have hm:kD D (t::T)=(g9 D t).foldl (λn s=>if decide ((ga D).getD s.toNat 0 > 0)=true then (if 1+fA (T.map (g9 D)) ((ga D).set s.toNat ((ga D).getD s.toNat 0 - 1)) > n then 1+fA (T.map (g9 D)) ((ga D).set s.toNat ((ga D).getD s.toNat 0 - 1)) else n) else n) (kD D T):=rfl;rw [hm];unfold A7 g9;rw [List.foldl_map,List.foldl_map,List.foldl_filter,List.foldl_filter];have:=W' (L:=(T.length:Int)+1) (F1:=λb k=>if yE t (D.getD k fB)=true then iu b (oD T (np D k)) else b)
     (F2:=λn (k:Nat)=>if tc D t k=true then (if decide ((ga D).getD ((k:Int).toNat) 0 > 0)=true then (if 1+fA (T.map (g9 D)) ((ga D).set ((k:Int).toNat) ((ga D).getD ((k:Int).toNat) 0 - 1)) > n then 1+fA (T.map (g9 D)) ((ga D).set ((k:Int).toNat) ((ga D).getD ((k:Int).toNat) 0 - 1)) else n) else n) else n)
     (List.range D.length) ((T.length:Int) - kD D T+1) (kD D T) (λk ak b n aI E2=>?_) (by omega) (by omega)
    ·have e:(λ(x:Int) (y:Nat)=>if yE t (D.getD y fB)=true then iu x (oD T (np D y)) else x)=(λb k=>if yE t (D.getD k fB)=true then iu b (oD T (np D k)) else b):=rfl;refine Eq.trans this ?_;rfl
    ·have ak:k<D.length:=by grind
     have alU:=O9 ak T;have atD:=td (np D k) T;have aL:yE t (D.getD k fB)=(tc D t k&&decide ((ga D).getD k 0 > 0)):=by
      rw [Bool.eq_iff_iff,O_ ak,yK];grind
     simp only [Int.toNat_natCast,<-alU,aL,aO];by_cases M:tc D t k=true
     ·by_cases aa:(ga D).getD k 0 > 0
      ·simp only [M,aa,decide_true,Bool.and_self,if_true];refine ⟨by omega,?_⟩;unfold iu;grind
      grind
     grind
   ·rw [if_neg bf];have aO:∀ D,oD T D=-1:=λD=>by rw [Pa T D,if_neg bf]
    rw [aO,if_neg (by decide)];exact W_ aO _
def p8 (D:List e_) (T:List ir) (u:Int):Prop:=pc (T.map (g9 D)) (ga D) u
theorem Iz {D:List e_} (h:∀ e∈D,0<=e.2.2) (T:List ir) (u:Int):p8 D T u<->(T.length:Int) - kD D T<=u:=by
 unfold p8;rw [alO (Iy h T),List.length_map];rfl
theorem te {s:a3} (aj:gm s):∀ e∈dJ s,0<=e.2.2:=λe he=>((alD aj).2 e he).1
theorem Pb {s:a3} (aj:gm s) (a0:List Int):kf s a0=true<->(dZ s a0).2=true/\p8 (dJ s) (dZ s a0).1 0:=by
 unfold kf;rw [Bool.and_eq_true,O',Iz (te aj)];have:=td (dJ s) (dZ s a0).1;grind
theorem wN {s:a3} (a0:List Int):iU s a0=if ((dZ s a0).2&&kg (dZ s a0).1)=true then ((dZ s a0).1.length:Int) - kD (dJ s) (dZ s a0).1 else -1:=by
 unfold iU;cases (dZ s a0).2 with
 | false=>simp
 | true=>simp only [Bool.not_true,Bool.false_eq_true,if_false,Bool.true_and];exact Pa _ _
end Go.Fer
