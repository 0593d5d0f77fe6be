/- Part 6 of the proof of TopExtra: shallow programs of Go functions, and what they compute. No condition. -/
import Derived.Test.YtkmpcdkmiikalaaGreatTopExtraE
noncomputable section
namespace Go.Fer
open A (ab)
set_option linter.unusedVariables false
set_option linter.unusedSimpArgs false
theorem Pc {ao β gJ:Type} (f:ao->List β) (g:gJ->β->gJ):∀ (l:List ao) (b:gJ),(l.flatMap f).foldl g b=l.foldl (λb x=>(f x).foldl g b) b
 | [],b=>rfl
 | x::l,b=>by rw [List.flatMap_cons,List.foldl_append,List.foldl_cons,Pc f g l]
def A9 (w:aT) (n:Nat):List (Int×Int×Int):=(List.range n).flatMap λ(i:Nat)=>(List.range w.2.1.length).flatMap λ(m:Nat)=>(List.range (ff w (m:Int)).length).map λ(k:Nat)=>((i:Int),(m:Int),(k:Int))
theorem alV (w:aT) (n:Nat):yo w n=(A9 w n).foldl (q3 w) []:=by
 unfold A9;rw [Pc];unfold yo;congr 1;funext t i;rw [Pc];unfold Og;congr 1;funext t m;rw [List.foldl_map];rfl
theorem alW {w:aT} {n:Nat} {q:Int×Int×Int}:q∈A9 w n<->(0<=q.1/\q.1<(n:Int))/\fN w q.2.1 q.2.2=true:=by
 obtain ⟨a,m,k⟩:=q;rw [wh];simp only [A9,List.mem_flatMap,List.mem_range,List.mem_map,Prod.mk.injEq];constructor
 ·rintro ⟨i,U,dI,hm,k',ak,rfl,rfl,rfl⟩;omega
 ·rintro ⟨M,aa,an⟩;refine ⟨a.toNat,by omega,m.toNat,by omega,k.toNat,?_,by omega,by omega,by omega⟩;rw [show ((m.toNat:Nat):Int)=m by omega];omega
theorem alX {w:aT} (hw:lr w=true) {n:Nat} (aI:n<=10):(A9 w n).length<=240:=by
 have AU:w.2.1.length<=6:=(oy hw).2.1;have M:∀ (l:List Nat),(∀ m∈l,m<w.2.1.length)->∀ i:Nat,(l.flatMap λ(m:Nat)=>(List.range (ff w (m:Int)).length).map λ(k:Nat)=>((i:Int),(m:Int),(k:Int))).length<=4*l.length:=by
  intro l;induction l with
  | nil=>intro _ i;simp
  | cons m l aO=>
   intro aw i;have M:=aO (λj aC=>aw j (by simp [aC])) i;have aa:=aw m (by simp);have an:(ff w (m:Int)).length<=4:=by
    have g6:ff w (m:Int)∈w.2.1:=by simp [ff,List.getD_eq_getElem?_getD,aa]
    have:=(x6 hw).2.2.1 _ g6;simp only [pV,Bool.and_eq_true,Bool.not_eq_true',decide_eq_false_iff_not] at this;omega
   rw [List.flatMap_cons,List.length_append,List.length_cons,List.length_map,List.length_range];omega
 have aa:∀ (l:List Nat),(l.flatMap λ(i:Nat)=>(List.range w.2.1.length).flatMap λ(m:Nat)=>(List.range (ff w (m:Int)).length).map λ(k:Nat)=>((i:Int),(m:Int),(k:Int))).length<=24*l.length:=by
  intro l;induction l with
  | nil=>simp
  | cons i l aO=>
   have an:=M (List.range w.2.1.length) (λm hm=>by simpa using hm) i;rw [List.length_range] at an;rw [List.flatMap_cons,List.length_append,List.length_cons];omega
 have:=aa (List.range n);rw [List.length_range] at this;unfold A9;omega
theorem Xa (w:aT):∀ (l:List (Int×Int×Int)) (t:List ((Int×Int×Int)×Int)) (N:Nat),N+l.length<2 ^ 62->(∀ q,0<=(kx t q).getD 0/\(kx t q).getD 0<=(N:Int))->
  ∀ q,(kx (l.foldl (q3 w) t) q).getD 0 > 0<->((kx t q).getD 0 > 0\/(q∈l/\pX w q.1 q.2.1 q.2.2=1))
 | [],t,N,_,_,q=>by simp
 | x::l,t,N,hk,aR,q=>by
  simp only [List.length_cons] at hk;have au:=aR x;have hw:=bF (n:=(kx t x).getD 0+1) (by omega) (by omega);have uh:∀ q,0<=(kx (q3 w t x) q).getD 0/\(kx (q3 w t x) q).getD 0<=((N+1:Nat):Int):=λq=>by
   have bt:=aR q;unfold q3;split
   ·rw [Ht,hw];split
    ·simp only [Option.getD_some];omega
    ·omega
   ·omega
  rw [List.foldl_cons,Xa w l (q3 w t x) (N+1) (by omega) uh q];have bt:=aR q;have key:(kx (q3 w t x) q).getD 0 > 0<->((kx t q).getD 0 > 0\/(q=x/\pX w q.1 q.2.1 q.2.2=1)):=by
   unfold q3;by_cases ax:pX w x.1 x.2.1 x.2.2=1
   ·rw [if_pos ax,Ht,hw];by_cases e:q=x
    ·subst e;simp only [if_true,Option.getD_some,ax,and_self,or_true,iff_true];omega
    ·simp [e]
   ·rw [if_neg ax];constructor
    ·exact .inl
    ·rintro (h | ⟨rfl,h⟩)
     ·exact h
     ·exact absurd h ax
  rw [key,List.mem_cons];constructor
  ·rintro ((h | ⟨M,aa⟩) | ⟨M,aa⟩)
   ·exact .inl h
   ·exact .inr ⟨.inl M,aa⟩
   ·exact .inr ⟨.inr M,aa⟩
  ·rintro (h | ⟨M | M,aa⟩)
   ·exact .inl (.inl h)
   ·exact .inl (.inr ⟨M,aa⟩)
   ·exact .inr ⟨M,aa⟩
theorem IA {w:aT} {m k i:Int}:i∈oC w m k<->0<=i/\i<(w.1.length:Int)/\(nS w i m k).1=1:=by
 unfold oC;simp only [List.mem_map,List.mem_filter,List.mem_range,decide_eq_true_eq];constructor
 ·rintro ⟨j,⟨M,aa⟩,rfl⟩;exact ⟨by omega,by omega,aa⟩
 ·rintro ⟨M,aa,an⟩;refine ⟨i.toNat,⟨by omega,?_⟩,by omega⟩;rw [show ((i.toNat:Nat):Int)=i by omega];exact an
theorem Pd {s:a3} (aj:gm s) (ak:f_ s true=0) {sp:Int×Int} {j:p4} (aA:e3 s.1 sp.1=true) (aC:fN s.1 j.1 j.2.1=true):p7 (c_ s) sp j=true<->sp.2<=j.2.2/\sp.1∈oC s.1 j.1 j.2.1:=by
 have Dg:=(nY ak).2.2.1;have j':=lq.1 aA;have vV:(nS s.1 sp.1 j.1 j.2.1).1=pX s.1 sp.1 j.1 j.2.1:=by
  unfold nS;rw [aA,aC,Bool.and_self,if_neg (by simp [Dg])]
 have aw:=alX (n:=s.2.1.length) aj.uW.2 (by have:=aj.p3;have:=aj.H7;omega);unfold p7 c_;rw [Bool.and_eq_true,decide_eq_true_eq,decide_eq_true_eq,alV,Xa s.1 _ [] 0 (by omega) (λq=>by simp [NO])];rw [IA,vV,alW];have dr:=aj.p3;simp only [NO,Option.getD_none,gt_iff_lt,Int.lt_irrefl,false_or];constructor
 ·rintro ⟨M,⟨⟨aa,an⟩,a8⟩,bV⟩;exact ⟨M,j'.1,j'.2,bV⟩
 ·rintro ⟨M,aa,an,bV⟩;exact ⟨M,⟨⟨aa,by omega⟩,aC⟩,bV⟩
def u6 (s:a3) (j:p4):ir:=(j.2.2,oC s.1 j.1 j.2.1)
theorem Xb (s:a3) (a0:List Int) (i:Nat):nZ s a0 i=(iq s a0 i).map λl=>l.map (u6 s):=by
 unfold nZ iq;split
 ·rfl
 ·cases kB s (hV s (i:Int)) (hI s (a0.getD i 0)) with
  | none=>rfl
  | some d=>
   simp only [Option.map_some,List.map_map];rfl
theorem Et (s:a3) (a0:List Int):(dZ s a0).2=(gP s a0).2/\(dZ s a0).1=(gP s a0).1.map (u6 s):=by
 unfold dZ gP;have e:((List.range a0.length).all λi=>(nZ s a0 i).isSome)=(List.range a0.length).all λi=>(iq s a0 i).isSome:=by
  refine uI λi _=>?_;rw [Xb];cases iq s a0 i<;>rfl
 rw [e];split
 ·refine ⟨rfl,?_⟩;show (List.range a0.length).flatMap (λi=>(nZ s a0 i).getD [])=List.map (u6 s) ((List.range a0.length).flatMap λi=>(iq s a0 i).getD []);rw [List.map_flatMap];congr 1;funext i;rw [Xb];cases iq s a0 i<;>rfl
 ·exact ⟨rfl,rfl⟩
theorem Xc {s:a3} {x:e2} {p:eu} {d:Int} (h:kB s x p=some d):0<=d:=by
 unfold kB at h;generalize (if jR x p=2 then x.2.2.2.1 - s.2.2.2.2.2 else x.2.2.2.1)=e at h;by_cases aW:jR x p=0
 ·rw [if_pos aW] at h;cases h
 ·rw [if_neg aW] at h;by_cases M:e<0
  ·rw [if_pos M] at h;cases h
  ·rw [if_neg M] at h;injection h with h
   omega
theorem IB {ao β:Type} {f g:ao->List β}:∀ {l:List ao},(∀ x∈l,f x=g x)->l.flatMap f=l.flatMap g
 | [],_=>rfl
 | x::l,h=>by
  rw [List.flatMap_cons,List.flatMap_cons,h x (by simp),IB λy aJ=>h y (List.mem_cons_of_mem _ aJ)]
theorem Pe {s:a3} (aj:gm s) {a0:List Int} (ar:kY s a0):∀ j∈(gP s a0).1,fN s.1 j.1 j.2.1=true/\0<=j.2.2:=by
 intro j aC;unfold gP at aC;split at aC
 ·obtain ⟨i,U,aC⟩:=List.mem_flatMap.1 aC;have U:i<a0.length:=by simpa using U
  cases h:iq s a0 i with
  | none=>rw [h] at aC;cases aC
  | some y=>
   rw [h] at aC;change j∈y at aC;unfold iq at h;split at h
   ·cases h;cases aC
   ·rename_i uT;obtain ⟨d,aN,rfl⟩:=Option.map_eq_some_iff.1 h;obtain ⟨k,ak,rfl⟩:=List.mem_map.1 aC;have hm:a0.getD i 0∈a0:=by simp [List.getD_eq_getElem?_getD,U]
    refine ⟨(H9 aj (Ia (by omega) (ar.2 _ hm))).2.2 k ak,?_⟩;exact Xc aN
 ·cases aC
def q6 (s:a3):List Nat:=((List.range s.2.1.length).flatMap λi=>List.replicate (s.2.1.getD i 0).toNat (s.2.2.2.2.1.length+i))++(List.range s.2.2.2.2.1.length).flatMap λk=>List.replicate (s.2.2.2.2.1.getD k fB).2.2.toNat k
def yL (s:a3) (k:Nat):Int×Int:=(((dJ s).getD k fB).2.1,((dJ s).getD k fB).1)
theorem IC (s:a3):(dJ s).length=s.2.2.2.2.1.length+s.2.1.length:=by simp [dJ]
theorem Pf {s:a3} {k:Nat} (ak:k<s.2.2.2.2.1.length):(dJ s).getD k fB=s.2.2.2.2.1.getD k fB:=by
 unfold dJ;rw [List.getD_eq_getElem?_getD,List.getElem?_append_left ak,List.getD_eq_getElem?_getD]
theorem Pg {s:a3} {i:Nat} (U:i<s.2.1.length):(dJ s).getD (s.2.2.2.2.1.length+i) fB=(0,(i:Int),s.2.1.getD i 0):=by
 unfold dJ;rw [List.getD_eq_getElem?_getD,List.getElem?_append_right (by omega)];simp [U]
theorem Xd (s:a3):wA s=(q6 s).map (yL s):=by
 unfold wA q6 AT Oh;rw [List.map_append,List.map_flatMap,List.map_flatMap];congr 1
 ·refine IB λi U=>?_;have U:i<s.2.1.length:=by simpa using U
  rw [List.map_replicate];unfold lx yL;rw [Pg U]
 ·have e:s.2.2.2.2.1=(List.range s.2.2.2.2.1.length).map λk=>s.2.2.2.2.1.getD k fB:=by
   apply List.ext_getElem
   ·simp
   ·intro i M aa;simp [List.getD_eq_getElem?_getD,M]
  conv=>lhs;rw [e]
  rw [List.flatMap_map];refine IB λk ak=>?_;have ak:k<s.2.2.2.2.1.length:=by simpa using ak
  rw [List.map_replicate];unfold lx yL;rw [Pf ak]
theorem Ph (a:Nat) (c:Nat->Nat) (x:Nat):∀ n,((List.range n).flatMap λi=>List.replicate (c i) (a+i)).countP (λy=>decide (y=x))=if a<=x/\x<a+n then c (x - a) else 0
 | 0=>by simp;omega
 | n+1=>by
  rw [List.range_succ,List.flatMap_append,List.countP_append,Ph a c x n];simp only [List.flatMap_cons,List.flatMap_nil,List.append_nil,List.countP_replicate,decide_eq_true_eq];by_cases M:a+n=x
  ·rw [if_neg (by omega),if_pos M,if_pos (by omega),show x - a=n by omega];omega
  ·rw [if_neg M];by_cases aa:a<=x/\x<a+n
   ·rw [if_pos aa,if_pos (by omega)];rfl
   ·rw [if_neg aa,if_neg (by omega)]
theorem alY {s:a3} (aj:gm s) {x:Nat} (au:x<(dJ s).length):(((q6 s).countP λy=>decide (y=x):Nat):Int)=((dJ s).getD x fB).2.2:=by
 unfold q6;rw [List.countP_append,Ph];have aa:=Ph 0 (λk=>(s.2.2.2.2.1.getD k fB).2.2.toNat) x s.2.2.2.2.1.length;simp only [Nat.zero_add,Nat.sub_zero,Nat.zero_le,true_and] at aa;rw [aa];rw [IC] at au;have mO:=te aj;by_cases h:x<s.2.2.2.2.1.length
 ·rw [if_neg (by omega),if_pos h,Pf h];have:(s.2.2.2.2.1.getD x fB)∈dJ s:=by
   unfold dJ;refine List.mem_append_left _ ?_;simp [List.getD_eq_getElem?_getD,h]
  have:=mO _ this;omega
 ·obtain ⟨i,rfl⟩:∃ i,x=s.2.2.2.2.1.length+i:=⟨x - s.2.2.2.2.1.length,by omega⟩
  have U:i<s.2.1.length:=by omega
  rw [if_pos (by omega),if_neg h,Pg U,Nat.add_sub_cancel_left];have ke:s.2.1.getD i 0=s.2.1[i]:=by simp [List.getD_eq_getElem?_getD,U]
  have:=aj.aB _ (List.getElem_mem U);show (((s.2.1.getD i 0).toNat+0:Nat):Int)=s.2.1.getD i 0;rw [ke];omega
theorem alZ {l:List Nat} {x:Nat}:((List.range l.length).countP λi=>decide (l.getD i 0=x))=l.countP λy=>decide (y=x):=by
 have e:l=(List.range l.length).map λi=>l.getD i 0:=by
  apply List.ext_getElem
  ·simp
  ·intro i M aa;simp [List.getD_eq_getElem?_getD,M]
 conv=>rhs;rw [e]
 rw [List.countP_map];rfl
theorem al0 {s:a3}:∀ k∈q6 s,k<(dJ s).length:=by
 intro k ak;rw [IC];unfold q6 at ak;rcases List.mem_append.1 ak with ak | ak
 ·obtain ⟨i,U,ak⟩:=List.mem_flatMap.1 ak;have U:i<s.2.1.length:=by simpa using U
  have:=(List.mem_replicate.1 ak).2;omega
 ·obtain ⟨i,U,ak⟩:=List.mem_flatMap.1 ak;have U:i<s.2.2.2.2.1.length:=by simpa using U
  have:=(List.mem_replicate.1 ak).2;omega
theorem al1 {s:a3} (aj:gm s) {k:Nat} (ak:k<(dJ s).length):e3 s.1 (yL s k).1=true:=by
 rw [IC] at ak;have dr:=aj.p3;unfold yL;by_cases h:k<s.2.2.2.2.1.length
 ·rw [Pf h];have hm:(s.2.2.2.2.1.getD k fB)∈s.2.2.2.2.1:=by simp [List.getD_eq_getElem?_getD,h]
  have:=aj.Ee _ hm;simp only [nm,Bool.and_eq_true] at this;exact this.1.2
 ·obtain ⟨i,rfl⟩:∃ i,k=s.2.2.2.2.1.length+i:=⟨k - s.2.2.2.2.1.length,by omega⟩
  have U:i<s.2.1.length:=by omega
  rw [Pg U,lq];show 0<=(i:Int)/\(i:Int)<_;omega
theorem Xe {s:a3} (aj:gm s) (ak:f_ s true=0) {a0:List Int} (ar:kY s a0):u0 (c_ s) (gP s a0).1=((dZ s a0).1.length:Int) - kD (dJ s) (dZ s a0).1:=by
 have hm:(c_ s).2.1.length=(q6 s).length:=by
  show (wA s).length=_;rw [Xd,List.length_map]
 have dr:=OT aj;have yx:=Pe aj ar;have Xf:=(Et s a0).2;have hlen:(dZ s a0).1.length=(gP s a0).1.length:=by rw [Xf,List.length_map]
 unfold u0;have:=ak5 (gd:=hp (c_ s) (gP s a0).1) (kd:=λi=>(q6 s).getD i 0) (m:=(c_ s).2.1.length) (J:=(gP s a0).1.length) (fit:=(dZ s a0).1.map (g9 (dJ s))) (caps:=ga (dJ s)) (F:=201)
  (by show (wA s).length<201;omega) (by rw [List.length_map,hlen]) (Iy (te aj) _).1 (λx au=>?_) (λi U j aC=>?_)
 ·rw [this,hlen];rfl
 ·have au:x<(dJ s).length:=by simpa [ga] using au
  rw [A8 au,hm,alZ,alY aj au]
 ·have e1:i<(q6 s).length:=by omega
  have El:(q6 s).getD i 0∈q6 s:=by simp [List.getD_eq_getElem?_getD,e1]
  have cq:=al0 _ El;have j':(c_ s).2.1.getD i (0,0)=yL s ((q6 s).getD i 0):=by
   show (wA s).getD i (0,0)=_;rw [Xd];simp [List.getD_eq_getElem?_getD,e1]
  have ry:(gP s a0).1.getD (j:Int).toNat (0,0,0)∈(gP s a0).1:=by simp [List.getD_eq_getElem?_getD,aC]
  have tM:hJ ((dZ s a0).1.map (g9 (dJ s))) (j:Int)=g9 (dJ s) (u6 s ((gP s a0).1.getD (j:Int).toNat (0,0,0))):=by
   unfold hJ;rw [Xf];simp [List.getD_eq_getElem?_getD,aC]
  unfold hp;rw [j',Pd aj ak (al1 aj cq) (yx _ ry).1,tM,yK];simp only [tc,Bool.and_eq_true,decide_eq_true_eq,Int.toNat_natCast,List.contains_iff_mem,yL,u6];constructor
  ·rintro ⟨M,aa⟩;exact ⟨by omega,by omega,decide_eq_true M,aa⟩
  ·rintro ⟨_,_,M,aa⟩;exact ⟨of_decide_eq_true M,aa⟩
theorem al2 {s:a3} (aj:gm s) (ak:f_ s true=0) {a0:List Int} (ar:kY s a0):yC (c_ s) (gP s a0).1=kg (dZ s a0).1:=by
 have yx:=Pe aj ar;unfold yC kg;rw [(Et s a0).2,List.all_map];refine uI λj aC=>?_;have dr:=aj.p3;rw [Bool.eq_iff_iff,List.any_eq_true];simp only [Function.comp,u6,Bool.not_eq_true',decide_eq_false_iff_not];constructor
 ·rintro ⟨i,U,aL⟩;have U:i<s.2.1.length:=by simpa [c_] using U
  have:=(Pd aj ak (sp:=((i:Int),0)) (by rw [lq];show 0<=(i:Int)/\(i:Int)<_;omega) (yx j aC).1).1 aL;refine decide_eq_false λaW=>?_;have M:oC s.1 j.1 j.2.1=[]:=List.length_eq_zero_iff.1 (by omega);rw [M] at this;cases this.2
 ·intro aW;have aW:=of_decide_eq_false aW;cases ax:oC s.1 j.1 j.2.1 with
  | nil=>exact absurd (by show ((oC s.1 j.1 j.2.1).length:Int)=0;rw [ax];rfl) aW
  | cons i l=>
   have hm:i∈oC s.1 j.1 j.2.1:=by rw [ax];simp
   have W:=IA.1 hm;refine ⟨i.toNat,by simp [c_];omega,?_⟩;rw [show ((i.toNat:Nat):Int)=i by omega];exact (Pd aj ak (sp:=(i,0)) (by rw [lq];exact ⟨W.1,W.2.1⟩) (yx j aC).1).2 ⟨(yx j aC).2,hm⟩
theorem al3 {s:a3} (aj:gm s) (ak:f_ s true=0) {a0:List Int} (ar:kY s a0):u1 s a0=kf s a0:=by
 have M:=Xe aj ak ar;have aa:=(Et s a0).1;rw [Bool.eq_iff_iff,Pb aj,Iz (te aj)];unfold u1;rw [M,aa,Bool.and_eq_true,decide_eq_true_eq];have:=td (dJ s) (dZ s a0).1;constructor
 ·rintro ⟨a,b⟩;exact ⟨a,by omega⟩
 ·rintro ⟨a,b⟩;exact ⟨a,by omega⟩
end Go.Fer
namespace Go.Fer
open A (ab)
set_option linter.unusedVariables false
set_option linter.unusedSimpArgs false
def u7 (s:a3) (y:List Int) (i:Nat):Prop:=y.getD i 0=-1\/((0<=y.getD i 0/\y.getD i 0<(s.2.2.1.length:Int))/\jR (hV s (i:Int)) (hI s (y.getD i 0))≠0/\¬y.getD i 0∈y.take i)
theorem Xg {s:a3} {first:List Int} {p:Nat}:r6 s first p=true<->jR (hV s (first.length:Int)) (hI s (p:Int))≠0/\¬(p:Int)∈first:=by
 unfold r6;grind
theorem Xh {y first:List Int} {p:Int} (aw:first.length<y.length):y.take (first++[p]).length=first++[p]<->y.take first.length=first/\y.getD first.length 0=p:=by
 have e:y.getD first.length 0=y[first.length]:=by grind
 have bq:y.take (first++[p]).length=y.take first.length++[y[first.length]]:=by
  simp
 rw [e,bq];constructor
 ·intro h;have:=List.append_inj h (by grind);grind
 grind
theorem Xi {s:a3} {n:Nat} {first y:List Int} {p:Int} (Q:List Int->Nat->Prop) (atE:y.length=first.length+(n+1)->y.take first.length=first->y.getD first.length 0=p->Q y first.length) :
  (y.length=(first++[p]).length+n/\y.take (first++[p]).length=first++[p]/\∀ i,(first++[p]).length<=i->i<y.length->Q y i)<->(y.length=first.length+(n+1)/\y.take first.length=first/\y.getD first.length 0=p/\∀ i,first.length<=i->i<y.length->Q y i):=by
 have hlen:(first++[p]).length=first.length+1:=by simp
 constructor
 ·rintro ⟨M,aa,an⟩;rw [hlen] at M an;have a8:=(Xh (by omega)).1 aa;grind
 ·rintro ⟨M,aa,an,a8⟩;rw [hlen];refine ⟨by omega,?_,λi U al4=>a8 i (by omega) al4⟩;have:=(Xh (p:=p) (show first.length<y.length by omega)).2 ⟨aa,an⟩;grind
theorem Pj {s:a3} {e:Int}:∀ {n:Nat} {first y:List Int},y∈iH s e n first<->y.length=first.length+n/\y.take first.length=first/\∀ i,first.length<=i->i<y.length->u7 s y i/\(e=0->y.getD i 0≠-1)
 | 0,first,y=>by
  simp only [iH,List.mem_singleton,Nat.add_zero];grind
 | n+1,first,y=>by
  have uT:e≠0->(y∈iH s e n (first++[-1])<->y.length=first.length+(n+1)/\y.take first.length=first/\y.getD first.length 0=-1/\∀ i,first.length<=i->i<y.length->u7 s y i/\(e=0->y.getD i 0≠-1)):=λhe=>by
   rw [Pj];exact Xi (s:=s) (λy i=>u7 s y i/\(e=0->y.getD i 0≠-1)) λ_ _ h=>⟨.inl h,λh=>absurd h he⟩
  have lL:∀ p:Nat,p<s.2.2.1.length->r6 s first p=true->(y∈iH s e n (first++[(p:Int)])<->y.length=first.length+(n+1)/\y.take first.length=first/\y.getD first.length 0=(p:Int)/\∀ i,first.length<=i->i<y.length->u7 s y i/\(e=0->y.getD i 0≠-1)):=λp ar aI=>by
   rw [Pj];refine Xi (s:=s) (λy i=>u7 s y i/\(e=0->y.getD i 0≠-1)) λ_ aR h=>?_;have:=Xg.1 aI;exact ⟨.inr ⟨by omega,by grind,by grind⟩,λ_=>by omega⟩
  simp only [iH,List.mem_append,List.mem_flatMap,List.mem_range];constructor
  ·grind
  ·rintro ⟨M,aa,a8⟩;obtain ⟨bV,d_⟩:=a8 first.length (Nat.le_refl _) (by omega)
   rcases bV with bV | ⟨hL,mw,pn⟩
   ·grind
   ·left;obtain ⟨p,ar⟩:∃ p:Nat,y.getD first.length 0=(p:Int):=⟨(y.getD first.length 0).toNat,by omega⟩
    rw [ar] at hL mw pn;rw [aa] at pn;have aI:r6 s first p=true:=Xg.2 ⟨mw,pn⟩
    grind
theorem Eu {s:a3}:∀ {n:Nat} {first y:List Int},y∈wM s n first<->y∈iH s 1 n first
 | 0,first,y=>by rfl
 | n+1,first,y=>by
  simp only [wM,iH,List.mem_append,List.mem_flatMap,List.mem_range];constructor
  ·rintro ⟨k,ak,h⟩;split at h
   ·right;rw [if_neg (by decide)];exact Eu.1 h
   ·split at h
    ·rename_i aI;left;refine ⟨k - 1,by omega,?_⟩;rw [if_pos aI];exact Eu.1 h
    grind
  ·rintro (⟨p,ar,h⟩ | h)
   ·split at h
    ·rename_i aI;refine ⟨p+1,by omega,?_⟩;rw [if_neg (by omega),Nat.add_sub_cancel,if_pos aI];exact Eu.2 h
    grind
   ·rw [if_neg (by decide)] at h;refine ⟨0,by omega,?_⟩;rw [if_pos rfl];exact Eu.2 h
theorem Pk {s:a3} {e:Int} {y:List Int}:y∈jT e s<->y.length=s.2.2.2.1.length/\∀ i,i<y.length->u7 s y i/\(e=0->y.getD i 0≠-1):=by
 unfold jT;rw [Pj];simp
theorem q7 {s:a3} {y:List Int}:y∈f' s<->y.length=s.2.2.2.1.length/\∀ i,i<y.length->u7 s y i:=by
 unfold f';rw [Eu];have:=Pk (s:=s) (e:=1) (y:=y);unfold jT at this;grind
theorem Xj {s:a3} {y:List Int}:y∈jT 1 s<->y∈f' s:=by
 rw [Pk,q7];simp
theorem Xk {s:a3} {y:List Int}:y∈jT 0 s<->y∈f' s/\y.contains (-1)=false:=by
 rw [Pk,q7];have hc:y.contains (-1)=false<->∀ i,i<y.length->y.getD i 0≠-1:=by
  rw [List.contains_eq_mem,decide_eq_false_iff_not];constructor
  ·grind
  ·intro h hm;obtain ⟨i,U,e⟩:=List.mem_iff_getElem.1 hm;grind
 grind
def p9 (s:a3):List Int:=List.replicate s.2.2.2.1.length (-1)
theorem Pl {s:a3} {i:Nat} (U:i<(p9 s).length):(p9 s).getD i 0=-1:=by
 unfold p9 at U ⊢;grind
theorem Xl (s:a3):p9 s∈f' s:=q7.2 ⟨by simp [p9],λi U=>.inl (Pl U)⟩
theorem Xm:∀ (l:List Int),(∀ x∈l,x=0)->l.foldl (·+·) 0=0
 | [],_=>rfl
 | x::l,h=>by
  have au:=h x (by simp);subst au;exact Xm l λy aJ=>h y (List.mem_cons_of_mem _ aJ)
theorem al5 (s:a3):ho s (p9 s)=0:=by
 unfold ho;refine Xm _ λx au=>?_;obtain ⟨i,U,rfl⟩:=List.mem_map.1 au;have U:i<(p9 s).length:=by grind
 rw [if_pos (Pl U)]
theorem al6 (s:a3):dZ s (p9 s)=([],true):=by
 have ar:∀ i,i<(p9 s).length->nZ s (p9 s) i=some []:=λi U=>by
  unfold nZ;rw [Pl U,if_pos (by decide)]
 unfold dZ;simp_all
theorem Xn (s:a3):kf s (p9 s)=true:=by
 unfold kf;rw [al6];rfl
def Ev (s:a3) (m:Int):Prop:=(∀ y∈f' s,kf s y=true->ho s y<=m)/\∃ y∈f' s,kf s y=true/\ho s y=m
theorem Ev.Pm {s:a3} {a b:Int} (h:Ev s a) (k:Ev s b):a=b:=by
 obtain ⟨y,l6,kn,oE⟩:=h.2;obtain ⟨z,lH,jL,A_⟩:=k.2;have:=h.1 z lH jL;have:=k.1 y l6 kn;omega
theorem Pn (s:a3):Ev s (yG s):=by
 have key:∀ (l:List (List Int)) (b:Int),(∀ y∈l,y∈f' s)->(∃ y∈f' s,kf s y=true/\ho s y=b)->
   (∃ y∈f' s,kf s y=true/\ho s y=l.foldl (tb s) b)/\b<=l.foldl (tb s) b/\∀ y∈l,kf s y=true->ho s y<=l.foldl (tb s) b:=by
  intro l;induction l with
  | nil=>simp
  | cons y l aO=>
   intro b aw af;rw [List.foldl_cons];have M:∃ z∈f' s,kf s z=true/\ho s z=tb s b y:=by
    unfold tb;grind
   obtain ⟨aS,aY,bK⟩:=aO (tb s b y) (λz bm=>aw z (List.mem_cons_of_mem _ bm)) M;have aa:b<=tb s b y/\(kf s y=true->ho s y<=tb s b y):=by
    unfold tb;grind
   grind
 obtain ⟨M,_,an⟩:=key (f' s) 0 (λ_ h=>h) ⟨p9 s,Xl s,Xn s,al5 s⟩;exact ⟨an,M⟩
theorem al7 {s:a3} (aj:gm s) (ak:f_ s true=0):Ev s (ho s (u2 s))/\u2 s∈f' s/\kf s (u2 s)=true:=by
 have atF:∀ y∈f' s,u1 s y=kf s y:=λy aJ=>al3 aj ak (W5 aJ).2.1;have key:∀ (l:List (List Int)) (b:List Int),(∀ y∈l,y∈f' s)->(b∈f' s/\kf s b=true)->
   (l.foldl (ly s) b∈f' s/\kf s (l.foldl (ly s) b)=true)/\ho s b<=ho s (l.foldl (ly s) b)/\∀ y∈l,kf s y=true->ho s y<=ho s (l.foldl (ly s) b):=by
  intro l;induction l with
  | nil=>simp
  | cons y l aO=>
   intro b aw af;rw [List.foldl_cons];have aJ:=aw y (by simp);have M:ly s b y∈f' s/\kf s (ly s b y)=true:=by
    unfold ly;grind
   obtain ⟨aS,aY,bK⟩:=aO (ly s b y) (λz bm=>aw z (List.mem_cons_of_mem _ bm)) M;have aa:ho s b<=ho s (ly s b y)/\(kf s y=true->ho s y<=ho s (ly s b y)):=by
    unfold ly;grind
   grind
 obtain ⟨M,_,an⟩:=key (jT 1 s) (p9 s) (λ_ h=>Xj.1 h) ⟨Xl s,Xn s⟩;exact ⟨⟨λy aJ ax=>an y (Xj.2 aJ) ax,u2 s,M.1,M.2,rfl⟩,M.1,M.2⟩
theorem al8 {s:a3} (aA:gH s):ta s true=O4 s:=by
 unfold ta O4;by_cases ak:f_ s true=0
 ·have aj:=q2 aA (nY ak).1;rw [if_neg (by omega),if_neg (by omega),(al7 aj ak).1.Pm (Pn s)]
 grind
def A' (s:a3) (r:Int):Prop:=(r=-1/\∀ y∈f' s,y.contains (-1)=false->iU s y<0)\/(0<=r/\(∃ y∈f' s,y.contains (-1)=false/\iU s y=r)/\∀ y∈f' s,y.contains (-1)=false->0<=iU s y->r<=iU s y)
theorem A'.Pm {s:a3} {a b:Int} (h:A' s a) (k:A' s b):a=b:=by
 rcases h with ⟨M,aa⟩ | ⟨M,⟨y,l6,kn,oE⟩,an⟩
 ·rcases k with ⟨aS,_⟩ | ⟨aS,⟨z,lH,jL,A_⟩,_⟩
  ·omega
  ·have:=aa z lH jL;omega
 ·rcases k with ⟨aS,aY⟩ | ⟨aS,⟨z,lH,jL,A_⟩,bK⟩
  ·have:=aY y l6 kn;omega
  ·have:=an z lH jL (by omega);have:=bK y l6 kn (by omega);omega
theorem Xo (s:a3) (y:List Int):-1<=iU s y:=by
 rw [wN];split
 ·have:=td (dJ s) (dZ s y).1;omega
 simp
theorem Xp (v:List Int->Int) (aj:∀ y,-1<=v y):∀ (l:List (List Int)) (b:Int),-1<=b->
  (l.foldl (λb y=>iu b (v y)) b=-1/\b=-1/\∀ y∈l,v y<0)\/(0<=l.foldl (λb y=>iu b (v y)) b/\(l.foldl (λb y=>iu b (v y)) b=b\/∃ y∈l,v y=l.foldl (λb y=>iu b (v y)) b)/\(b<0\/l.foldl (λb y=>iu b (v y)) b<=b)/\∀ y∈l,0<=v y->l.foldl (λb y=>iu b (v y)) b<=v y)
 | [],b,af=>by
  grind
 | y::l,b,af=>by
  rw [List.foldl_cons];have aJ:=aj y;have aA:-1<=iu b (v y)/\(iu b (v y)=b\/iu b (v y)=v y)/\(0<=v y->0<=iu b (v y)/\iu b (v y)<=v y)/\(v y<0->iu b (v y)=b)/\(0<=b->iu b (v y)<=b/\0<=iu b (v y)):=by
   unfold iu;grind
  obtain ⟨s1,s2,gl,C5,atG⟩:=aA;rcases Xp v aj l (iu b (v y)) s1 with ⟨M,aa,an⟩ | ⟨M,aa,an,a8⟩
  ·simp_all
  grind
theorem Xq {s:a3} {l:List (List Int)} (aw:∀ y,y∈l<->y∈f' s/\y.contains (-1)=false):A' s (l.foldl (λb y=>iu b (iU s y)) (-1)):=by
 rcases Xp (iU s) (Xo s) l (-1) (by omega) with ⟨M,_,an⟩ | ⟨M,aa,_,a8⟩
 ·exact .inl ⟨M,λy aJ hc=>an y ((aw y).2 ⟨aJ,hc⟩)⟩
 ·refine .inr ⟨M,?_,λy aJ hc aW=>a8 y ((aw y).2 ⟨aJ,hc⟩) aW⟩;grind
theorem yM (s:a3):A' s (hB s):=by
 have e:∀ (l:List (List Int)) (b:Int),l.foldl (Iv s) b=(l.filter λy=>!y.contains (-1)).foldl (λb y=>iu b (iU s y)) b:=by
  intro l;induction l with
  | nil=>simp
  | cons y l aO=>
   intro b;rw [List.foldl_cons,List.filter_cons];cases hc:y.contains (-1) with
   | true=>
    rw [show Iv s b y=b from if_pos hc];grind
   | false=>
    rw [show Iv s b y=iu b (iU s y) from if_neg (by grind)];grind
 unfold hB;rw [e];refine Xq λy=>?_;simp
theorem al9 {s:a3} (aj:gm s) (ak:f_ s true=0):A' s (A6 s):=by
 have e:∀ (l:List (List Int)) (b:Int),-1<=b->(∀ y∈l,y∈f' s)->l.foldl (u3 s) b=l.foldl (λb y=>iu b (iU s y)) b:=by
  intro l;induction l with
  | nil=>simp
  | cons y l aO=>
   intro b af aw;rw [List.foldl_cons,List.foldl_cons];have aJ:=(W5 (aw y (by simp))).2.1;have al_:=wN (s:=s) y;have Cm:=td (dJ s) (dZ s y).1;have uh:u3 s b y=iu b (iU s y):=by
    unfold u3;rw [al2 aj ak aJ,Xe aj ak aJ,<-(Et s y).1,al_];unfold iu;grind
   rw [uh];refine aO _ ?_ λz bm=>aw z (List.mem_cons_of_mem _ bm);have:=Xo s y;unfold iu;omega
 unfold A6;rw [e _ _ (by omega) λy aJ=>(Xk.1 aJ).1];exact Xq λy=>Xk
theorem al' {s:a3} (aA:gH s):wL s=O5 s:=by
 unfold wL O5;by_cases ak:f_ s true=0
 ·have aj:=q2 aA (nY ak).1;have h:=yM s;simp only [ak,ne_eq,not_true,if_false,(al9 aj ak).Pm h];have:-1<=hB s:=by rcases h with h | h<;>omega
  grind
 grind
end Go.Fer
namespace Go.Fer
open A (ab)
set_option linter.unusedVariables false
set_option linter.unusedSimpArgs false
def yN (D D':List e_):Prop:=∃ kZ:Nat->Nat,(∀ k,k<D.length->kZ k<D'.length/\(D'.getD (kZ k) fB).1<=(D.getD k fB).1/\(D'.getD (kZ k) fB).2.1=(D.getD k fB).2.1/\(D.getD k fB).2.2<=(D'.getD (kZ k) fB).2.2)/\∀ a b,a<D.length->b<D.length->kZ a=kZ b->a=b
def ID (t cT:ir):Prop:=t.1<=cT.1/\cT.2=t.2
def yO (s:a3) (y:List Int) (o:a3) (fX:List Int):Prop:=(dZ s y).2=true->(dZ o fX).2=true/\∃ uq fw:List ir,uq.Sublist (dZ s y).1/\fC ID uq fw/\fw.Perm (dZ o fX).1
theorem fC.refl {ao:Type} {P:ao->ao->Prop} (h:∀ a,P a a):∀ l:List ao,fC P l l
 | []=>.nil
 | a::l=>.cons (h a) (fC.refl h l)
theorem Xr (t:ir):ID t t:=⟨Int.le_refl _,rfl⟩
theorem p8.map {D D':List e_} {T fw:List ir} {u:Int} (pW:∀ e∈D,0<=e.2.2) (ama:∀ e∈D',0<=e.2.2) (h:p8 D T u) (a2:fC ID T fw) (O8:yN D D'):p8 D' fw u:=by
 obtain ⟨kZ,M,aa⟩:=O8;have aw:(ga D).length=D.length:=by simp [ga]
 have vW:(ga D').length=D'.length:=by simp [ga]
 unfold p8 at h ⊢;refine pc.map (λa=>(kZ a.toNat:Int)) (Iy pW T) (Iy ama fw) h ?_ ?_ ?_
 ·clear h;induction a2 with
  | nil=>exact .nil
  | cons ar _ aO=>
   refine .cons (λw hw=>?_) aO;obtain ⟨aS,aY,bK⟩:=yK.1 hw;have ak:=M w.toNat (by omega);refine yK.2 ⟨by omega,by omega,?_⟩;rw [Int.toNat_natCast];unfold tc at bK ⊢;simp only [Bool.and_eq_true,decide_eq_true_eq] at bK ⊢;exact ⟨by have:=ar.1;omega,by rw [ak.2.2.1,ar.2];grind⟩
 ·grind
 ·intro a ch bN;rw [aw] at bN;have ak:=M a.toNat (by omega);rw [A8 (by omega),Int.toNat_natCast,A8 ak.1];omega
theorem p8.sub {D:List e_} {T fw:List ir} {u:Int} (h:p8 D T u) (aA:fw.Sublist T):p8 D fw u:=pc.sub (aA.map _) h
theorem p8.u4 {D:List e_} {T fw:List ir} {u:Int} (h:p8 D T u) (aA:T.Perm fw):p8 D fw u:=pc.u4 (aA.map _) h
theorem fC.kg {T fw:List ir} (h:fC ID T fw) (bf:kg T=true):kg fw=true:=by
 unfold Go.Fer.kg at bf ⊢;rw [List.all_eq_true] at bf ⊢;intro cT vv;obtain ⟨t,aR,_,aa⟩:=h.mem cT vv;grind
theorem amb {s o:a3} {y fX:List Int} (aj:gm s) (al:gm o) (pW:yN (dJ s) (dJ o)) (a2:yO s y o fX) (h:kf s y=true):kf o fX=true:=by
 obtain ⟨M,aa⟩:=(Pb aj y).1 h;obtain ⟨aS,uq,fw,aY,bK,fe⟩:=a2 M;exact (Pb al fX).2 ⟨aS,((aa.sub aY).map (te aj) (te al) bK pW).u4 fe⟩
theorem Xs {s o:a3} {y fX:List Int} (aj:gm s) (al:gm o) (pW:yN (dJ s) (dJ o)) (a2:yO s y o fX) (h:0<=iU s y):0<=iU o fX/\iU o fX<=iU s y:=by
 rw [wN] at h;rw [wN,wN];cases M:(dZ s y).2 with
 | false=>grind
 | true=>
  cases aa:kg (dZ s y).1 with
  | false=>grind
  | true=>
   obtain ⟨aS,uq,fw,aY,bK,fe⟩:=a2 M;have r5:kg uq=true:=by
    unfold kg at aa ⊢;grind
   have dO:=bK.kg r5;have e6:kg (dZ o fX).1=true:=by
    unfold kg at dO ⊢;grind
   rw [aS,e6];simp only [Bool.and_self,if_true];have hu:=(Iz (te aj) (dZ s y).1 _).2 (Int.le_refl _);have:=(Iz (te al) (dZ o fX).1 _).1 (((hu.sub aY).map (te aj) (te al) bK pW).u4 fe);have:=td (dJ o) (dZ o fX).1;omega
def Po (s o:a3) (c:Int):Prop:=∀ y∈f' s,kf s y=true->∃ fX∈f' o,kf o fX=true/\ho s y<=ho o fX+c
def Ew (s o:a3):Prop:=∀ y∈f' s,y.contains (-1)=false->0<=iU s y->∃ fX∈f' o,fX.contains (-1)=false/\0<=iU o fX/\iU o fX<=iU s y
theorem Po.Xt {s o:a3} {c:Int} (h:Po s o c):yG s<=yG o+c:=by
 obtain ⟨_,y,l6,kn,oE⟩:=Pn s;obtain ⟨fX,aS,aY,bK⟩:=h y l6 kn;have:=(Pn o).1 fX aS aY;omega
theorem Xu (s:a3):-1<=hB s:=by rcases yM s with h | h<;>omega
theorem Ew.IE {s o:a3} (h:Ew s o) (aW:0<=hB s):0<=hB o/\hB o<=hB s:=by
 rcases yM s with ⟨M,_⟩ | ⟨_,⟨y,l6,kn,oE⟩,_⟩
 ·omega
 ·obtain ⟨fX,aS,aY,bK,fe⟩:=h y l6 kn (by omega);rcases yM o with ⟨M,aa⟩ | ⟨M,_,an⟩
  ·have:=aa fX aS aY;omega
  ·have:=an fX aS aY bK;exact ⟨M,by omega⟩
theorem Xv {s:a3} (aA:gH s) (ak:f_ s true=0):ta s true=(yG s,0):=by
 rw [al8 aA];unfold O4;grind
theorem IF {s:a3} (aA:gH s) (ak:f_ s true=0):wL s=if hB s<0 then (0,3) else (hB s,0):=by
 rw [al' aA];unfold O5;grind
theorem amc {s o:a3} (aj:gm s) (al:gm o) (pW:yN (dJ s) (dJ o)) (bt:∀ y∈f' s,y∈f' o) (a2:∀ y∈f' s,yO s y o y):Ew s o:=λy aJ hc af=>
 ⟨y,bt y aJ,hc,Xs aj al pW (a2 y aJ) af⟩
theorem yO.refl {s o:a3} {y:List Int} (h:dZ o y=dZ s y):yO s y o y:=λaR=>
 ⟨by grind,_,_,List.Sublist.refl _,fC.refl Xr _,by rw [h]⟩
def pd (s:a3) (aB:List Int) (D:List e_):a3:=(s.1,aB,s.2.2.1,s.2.2.2.1,D,s.2.2.2.2.2)
theorem amd {s:a3} {aB:List Int} {D:List e_} {y:List Int} (h:y∈f' s):y∈f' (pd s aB D):=by
 rw [q7] at h ⊢;exact h
theorem ame {s:a3} {aB:List Int} {D:List e_} (iV:f_ s true=0) (M:aB.length=s.2.1.length) (aa:∀ n∈aB,0<=n/\n<=10) (an:D.length<=8) (a8:∀ d∈D,nm s.1 d=true):f_ (pd s aB D) true=0:=by
 obtain ⟨aS,_,aY,_⟩:=nY iV;obtain ⟨bH,b2⟩:=H4 aS;have:kc (pd s aB D)=0:=by
  unfold kc;rw [if_neg (by show ¬eH s.1≠0;omega),if_pos];simp only [o',Bool.and_eq_true,decide_eq_true_eq,List.all_eq_true,c5] at b2 ⊢;obtain ⟨⟨⟨⟨⟨⟨⟨⟨bN,b1⟩,bC⟩,c9⟩,dE⟩,dF⟩,dH⟩,dP⟩,dK⟩:=b2;refine ⟨⟨⟨⟨⟨⟨⟨⟨?_,λn aI=>aa n aI⟩,bC⟩,c9⟩,dE⟩,dF⟩,?_⟩,λe he=>a8 e he⟩,dK⟩
  ·show ((aB.length:Int)=(s.1.1.length:Int));omega
  ·show ((D.length:Int)<=8);omega
 unfold f_;rw [if_neg (by omega),if_neg (by decide)];exact aY
theorem Xw {s:a3} {aB:List Int} {D:List e_} (aA:gH s) (M:aB.length<2 ^ 63) (aa:D.length<2 ^ 63):gH (pd s aB D):=
 ⟨aA.1,M,aA.2.2.1,aA.2.2.2.1,aa,aA.2.2.2.2.2.1,aA.2.2.2.2.2.2⟩
theorem Xx {s:a3} {aB:List Int} {D:List e_} (k:Nat):(dJ (pd s aB D)).getD k fB=if k<D.length then D.getD k fB else if k<D.length+aB.length then (0,((k - D.length:Nat):Int),aB.getD (k - D.length) 0) else fB:=by
 unfold dJ pd;grind
theorem amf (s:a3):pd s s.2.1 s.2.2.2.2.1=s:=rfl
theorem Xy {s:a3} {aB stock':List Int} {D D':List e_} (yP:Nat->Nat) (M:∀ k,k<D.length->yP k<D'.length/\(D'.getD (yP k) fB).1<=(D.getD k fB).1/\(D'.getD (yP k) fB).2.1=(D.getD k fB).2.1/\(D.getD k fB).2.2<=(D'.getD (yP k) fB).2.2) (aa:∀ a b,a<D.length->b<D.length->yP a=yP b->a=b) (an:stock'.length=aB.length) (a8:∀ i,i<aB.length->aB.getD i 0<=stock'.getD i 0):yN (dJ (pd s aB D)) (dJ (pd s stock' D')):=by
 have aw:∀ (st:List Int) (E:List e_),(dJ (pd s st E)).length=E.length+st.length:=λst E=>IC _;refine ⟨λk=>if k<D.length then yP k else k - D.length+D'.length,λk ak=>?_,λa b bf af=>?_⟩
 ·rw [aw] at ak ⊢;rw [Xx,Xx];grind
 grind
end Go.Fer
namespace Go.Fer
open A (ab)
set_option linter.unusedVariables false
set_option linter.unusedSimpArgs false
theorem Pp {s:a3} {y:List Int}:(dZ s y).2=true<->∀ i,i<y.length->(nZ s y i).isSome=true:=by
 unfold dZ;grind
theorem Xz {s:a3} {y:List Int} (h:(dZ s y).2=true):(dZ s y).1=(List.range y.length).flatMap λi=>(nZ s y i).getD []:=by
 unfold dZ at h ⊢;grind
theorem fC.append {ao β:Type} {P:ao->β->Prop} {l cP:List ao} {m dI:List β} (h:fC P l m) (k:fC P cP dI):fC P (l++cP) (m++dI):=by
 induction h with
 | nil=>exact k
 | cons ar _ aO=>exact .cons ar aO
theorem fC.flatMap {ao β gJ:Type} {P:ao->β->Prop} {f:gJ->List ao} {g:gJ->List β}:∀ {l:List gJ},(∀ c∈l,fC P (f c) (g c))->fC P (l.flatMap f) (l.flatMap g)
 | [],_=>.nil
 | c::l,h=>by
  rw [List.flatMap_cons,List.flatMap_cons];exact (h c (by simp)).append (fC.flatMap λd aN=>h d (List.mem_cons_of_mem _ aN))
end Go.Fer
namespace Go.Fer
open A (ab)
set_option linter.unusedVariables false
set_option linter.unusedSimpArgs false
def yQ (n:Nat) (f g:Nat->Nat):Prop:=∀ i,i<n->f i<n/\g i<n/\g (f i)=i/\f (g i)=i
theorem yQ.symm {n:Nat} {f g:Nat->Nat} (h:yQ n f g):yQ n g f:=λi U=>⟨(h i U).2.1,(h i U).1,(h i U).2.2.2,(h i U).2.2.1⟩
theorem yQ.u4 {n:Nat} {f g:Nat->Nat} (h:yQ n f g):((List.range n).map f).Perm (List.range n):=by
 rw [List.perm_iff_count];intro a;have nM:((List.range n).map f).Nodup:=by
  rw [List.Nodup,List.pairwise_map];refine List.Pairwise.imp_of_mem (λ{i j} U aC cI e=>cI ?_) (List.nodup_range (n:=n));have U:=(h i (by grind)).2.2.1;have aC:=(h j (by grind)).2.2.1;grind
 rw [nM.count,(List.nodup_range (n:=n)).count];have:a∈(List.range n).map f<->a∈List.range n:=by
  rw [List.mem_map,List.mem_range];constructor
  ·rintro ⟨i,U,rfl⟩;exact (h i (by grind)).1
  ·intro bf;exact ⟨g a,by rw [List.mem_range];exact (h a bf).2.1,(h a bf).2.2.2⟩
 grind
structure tf {ao:Type} (d:ao) (l m:List ao) (f g:Nat->Nat):Prop where
 len:m.length=l.length
 eV:∀ i,i<l.length->m.getD i d=l.getD (f i) d
 lW:yQ l.length f g
theorem tf.symm {ao:Type} {d:ao} {l m:List ao} {f g:Nat->Nat} (h:tf d l m f g):tf d m l g f where
 len:=h.len.symm
 eV:=λi U=>by
  rw [h.len] at U;have:=h.lW i U;rw [h.eV (g i) this.2.1,this.2.2.2]
 lW:=by rw [h.len];exact h.lW.symm
theorem tf.mem {ao:Type} {d:ao} {l m:List ao} {f g:Nat->Nat} (h:tf d l m f g):∀ x∈m,x∈l:=λx au=>by
 obtain ⟨i,U,rfl⟩:=List.mem_iff_getElem.1 au;have M:=h.eV i (by have:=h.len;omega);have aa:=(h.lW i (by have:=h.len;omega)).1;grind
theorem tf.of_map {ao:Type} {d:ao} (l:List ao) {f g:Nat->Nat} (h:yQ l.length f g):tf d l ((List.range l.length).map λi=>l.getD (f i) d) f g where
 len:=by simp
 eV:=λi U=>by grind
 lW:=h
structure iI (s o:a3) (eh nq aQ eg κ κ':Nat->Nat):Prop where
 Ba:o.1=s.1
 aB:o.2.1=s.2.1
 q1:tf V_ s.2.2.1 o.2.2.1 aQ eg
 jS:tf V9 s.2.2.2.1 o.2.2.2.1 eh nq
 u9:tf fB s.2.2.2.2.1 o.2.2.2.2.1 κ κ'
 AS:o.2.2.2.2.2=s.2.2.2.2.2
variable {s o:a3} {eh nq aQ eg κ κ':Nat->Nat}
theorem iI.symm (h:iI s o eh nq aQ eg κ κ'):iI o s nq eh eg aQ κ' κ:=⟨h.Ba.symm,h.aB.symm,h.q1.symm,h.jS.symm,h.u9.symm,h.AS.symm⟩
theorem iI.XA (h:iI s o eh nq aQ eg κ κ'):yN (dJ s) (dJ o):=by
 have e:dJ o=dJ (pd s o.2.1 o.2.2.2.2.1):=rfl;rw [e,<-amf s];refine Xy κ' (λk ak=>?_) (λa b bf af u_=>?_) (by rw [h.aB]) λi _=>by rw [h.aB];omega
 ·have ar:=h.u9.lW k ak;have aL:=h.u9.eV (κ' k) ar.2.1;rw [ar.2.2.2] at aL;refine ⟨by have:=h.u9.len;omega,?_⟩;grind
 ·have M:=(h.u9.lW a bf).2.2.2;have aa:=(h.u9.lW b af).2.2.2;grind
def nr (n:Nat) (eh eg:Nat->Nat) (y:List Int):List Int:=(List.range n).map λi=>if y.getD (eh i) 0=-1 then -1 else ((eg (y.getD (eh i) 0).toNat:Nat):Int)
theorem Bb {n:Nat} {y:List Int} {i:Nat} (U:i<n):(nr n eh eg y).getD i 0=if y.getD (eh i) 0=-1 then -1 else ((eg (y.getD (eh i) 0).toNat:Nat):Int):=by
 unfold nr;grind
theorem Pq {y:List Int} {i:Nat}:¬y.getD i 0∈y.take i<->∀ j,j<i->j<y.length->y.getD j 0≠y.getD i 0:=by
 rw [List.mem_take_iff_getElem];grind
theorem iI.Ed (h:iI s o eh nq aQ eg κ κ') {i:Nat} (U:i<s.2.2.2.1.length):hV o (i:Int)=hV s ((eh i:Nat):Int):=by
 unfold hV;simp only [Int.toNat_natCast];exact h.jS.eV i U
theorem iI.H5 (h:iI s o eh nq aQ eg κ κ') {p:Nat} (ar:p<s.2.2.1.length):hI o ((eg p:Nat):Int)=hI s (p:Int):=by
 unfold hI;simp only [Int.toNat_natCast];have:=h.q1.lW p ar;have aL:=h.q1.eV (eg p) this.2.1;grind
theorem amg {y:List Int} (aJ:∀ i,i<y.length->u7 s y i) {a b:Nat} (bf:a<y.length) (af:b<y.length) (aI:y.getD a 0≠-1) (e:y.getD a 0=y.getD b 0):a=b:=by
 rcases Nat.lt_trichotomy a b with h | h | h
 ·rcases aJ b af with k | ⟨_,_,k⟩
  ·omega
  ·exact absurd e (Pq.1 k a h bf)
 ·exact h
 ·rcases aJ a bf with k | ⟨_,_,k⟩
  ·omega
  ·exact absurd e.symm (Pq.1 k b h af)
theorem iI.seq (h:iI s o eh nq aQ eg κ κ') {y:List Int} (aJ:y∈f' s):nr s.2.2.2.1.length eh eg y∈f' o:=by
 obtain ⟨aw,aL⟩:=q7.1 aJ;have hlen:(nr s.2.2.2.1.length eh eg y).length=s.2.2.2.1.length:=by simp [nr]
 refine q7.2 ⟨by rw [hlen,h.jS.len],λi U=>?_⟩;rw [hlen] at U;have XB:=(h.jS.lW i U).1;unfold u7;rw [Bb U];by_cases aI:y.getD (eh i) 0=-1
 ·omega
 ·rw [if_neg aI];rcases aL (eh i) (by omega) with k | ⟨⟨aS,amh⟩,aY,bK⟩
  ·omega
  ·have ar:(y.getD (eh i) 0).toNat<s.2.2.1.length:=by omega
   have bt:=h.q1.lW _ ar;refine .inr ⟨⟨by omega,by have:=h.q1.len;omega⟩,?_,?_⟩
   ·rw [h.Ed U,h.H5 ar,show (((y.getD (eh i) 0).toNat:Nat):Int)=y.getD (eh i) 0 by omega];exact aY
   ·have:((eg (y.getD (eh i) 0).toNat:Nat):Int)=(nr s.2.2.2.1.length eh eg y).getD i 0:=by rw [Bb U,if_neg aI]
    rw [this,Pq];intro j aC qF e;rw [hlen] at qF;have iN:=(h.jS.lW j qF).1;rw [Bb U,if_neg aI,Bb qF] at e;by_cases tW:y.getD (eh j) 0=-1
    ·omega
    ·rw [if_neg tW] at e;rcases aL (eh j) (by omega) with k' | ⟨⟨atH,atI⟩,_,_⟩
     ·omega
     ·have vG:=h.q1.lW (y.getD (eh j) 0).toNat (by omega);have bq:eg (y.getD (eh j) 0).toNat=eg (y.getD (eh i) 0).toNat:=by omega
      have cF:(y.getD (eh j) 0).toNat=(y.getD (eh i) 0).toNat:=by grind
      have hd:=amg aL (a:=eh j) (b:=eh i) (by omega) (by omega) tW (by omega);have bV:=(h.jS.lW j qF).2.2.1;have d_:=(h.jS.lW i U).2.2.1;grind
theorem iI.qo (h:iI s o eh nq aQ eg κ κ') {y:List Int} (aJ:y∈f' s) {i:Nat} (U:i<s.2.2.2.1.length):nZ o (nr s.2.2.2.1.length eh eg y) i=nZ s y (eh i):=by
 obtain ⟨aw,aL⟩:=q7.1 aJ;have XB:=(h.jS.lW i U).1;unfold nZ;rw [Bb U];by_cases aI:y.getD (eh i) 0=-1
 ·grind
 ·rw [if_neg aI];rcases aL (eh i) (by omega) with k | ⟨⟨aS,amh⟩,_,_⟩
  ·omega
  ·rw [if_neg (by omega),if_neg (by omega),h.Ed U,h.H5 (by omega),show (((y.getD (eh i) 0).toNat:Nat):Int)=y.getD (eh i) 0 by omega,h.Ba];have:∀ x p,kB o x p=kB s x p:=λx p=>by unfold kB;rw [h.AS]
   grind
theorem iI.XC (h:iI s o eh nq aQ eg κ κ') {y:List Int} (aJ:y∈f' s):yO s y o (nr s.2.2.2.1.length eh eg y):=λaR=>by
 have aw:=(q7.1 aJ).1;have hlen:(nr s.2.2.2.1.length eh eg y).length=s.2.2.2.1.length:=by simp [nr]
 have M:=Pp.1 aR;have aa:(dZ o (nr s.2.2.2.1.length eh eg y)).2=true:=Pp.2 λi U=>by
  rw [hlen] at U;rw [h.qo aJ U];have:=(h.jS.lW i U).1;grind
 refine ⟨aa,_,_,List.Sublist.refl _,fC.refl Xr _,?_⟩;rw [Xz aR,Xz aa,aw,hlen];have e:((List.range s.2.2.2.1.length).flatMap λi=>(nZ o (nr s.2.2.2.1.length eh eg y) i).getD [])=((List.range s.2.2.2.1.length).map eh).flatMap λi=>(nZ s y i).getD []:=by
  rw [List.flatMap_map];exact IB λi U=>by rw [h.qo aJ (by grind)]
 rw [e];exact (h.jS.lW.u4.flatMap_right _).symm
theorem ami {l m:List Int} (h:l.Perm m):l.foldl (·+·) 0=m.foldl (·+·) 0:=h.foldl_eq' (λx _ y _ z=>by omega) 0
theorem iI.amj (h:iI s o eh nq aQ eg κ κ') {y:List Int} (aJ:y∈f' s):ho o (nr s.2.2.2.1.length eh eg y)=ho s y:=by
 obtain ⟨aw,aL⟩:=q7.1 aJ;have hlen:(nr s.2.2.2.1.length eh eg y).length=s.2.2.2.1.length:=by simp [nr]
 unfold ho;rw [hlen,aw];have e:((List.range s.2.2.2.1.length).map λ(i:Nat)=>if (nr s.2.2.2.1.length eh eg y).getD i 0=-1 then 0 else (hV o (i:Int)).2.2.2.2)=(((List.range s.2.2.2.1.length).map eh).map λ(i:Nat)=>if y.getD i 0=-1 then 0 else (hV s (i:Int)).2.2.2.2):=by
  rw [List.map_map];refine List.map_congr_left λi U=>?_;have U:i<s.2.2.2.1.length:=by grind
  have XB:=(h.jS.lW i U).1;simp only [Function.comp];rw [Bb U,h.Ed U];omega
 rw [e];exact ami (h.jS.lW.u4.map _)
theorem iI.amk (h:iI s o eh nq aQ eg κ κ') {y:List Int} (aJ:y∈f' s) (hc:y.contains (-1)=false):(nr s.2.2.2.1.length eh eg y).contains (-1)=false:=by
 have aw:=(q7.1 aJ).1;rw [List.contains_eq_mem,decide_eq_false_iff_not] at hc ⊢;intro hm;obtain ⟨i,U,e⟩:=List.mem_map.1 hm;grind
theorem iI.XD (h:iI s o eh nq aQ eg κ κ') (aj:gm s) (al:gm o):Po s o 0:=λy aJ ax=>
 ⟨_,h.seq aJ,amb aj al h.XA (h.XC aJ) ax,by rw [h.amj aJ];omega⟩
theorem iI.Pr (h:iI s o eh nq aQ eg κ κ') (aj:gm s) (al:gm o):Ew s o:=λy aJ hc af=>
 ⟨_,h.seq aJ,h.amk aJ hc,Xs aj al h.XA (h.XC aJ) af⟩
theorem iI.aml (h:iI s o eh nq aQ eg κ κ') (iV:f_ s true=0):f_ o true=0:=by
 obtain ⟨aS,_,aY,_⟩:=nY iV;obtain ⟨bH,b2⟩:=H4 aS;have:kc o=0:=by
  unfold kc;rw [if_neg (by rw [h.Ba];omega),if_pos];simp only [o',Bool.and_eq_true,decide_eq_true_eq,List.all_eq_true] at b2 ⊢;obtain ⟨⟨⟨⟨⟨⟨⟨⟨bN,b1⟩,bC⟩,c9⟩,dE⟩,dF⟩,dH⟩,dP⟩,dK⟩:=b2;rw [h.aB,h.Ba,h.AS,h.q1.len,h.jS.len,h.u9.len];exact ⟨⟨⟨⟨⟨⟨⟨⟨bN,b1⟩,bC⟩,λp ar=>c9 p (h.q1.mem p ar)⟩,dE⟩,λx au=>dF x (h.jS.mem x au)⟩,dH⟩,λe he=>dP e (h.u9.mem e he)⟩,dK⟩
 unfold f_;rw [if_neg (by omega),if_neg (by decide),h.Ba];exact aY
theorem iI.mI (h:iI s o eh nq aQ eg κ κ') (aA:gH s):gH o:=by
 unfold gH;rw [h.Ba,h.aB,h.q1.len,h.jS.len,h.u9.len];exact ⟨aA.1,aA.2.1,aA.2.2.1,aA.2.2.2.1,aA.2.2.2.2.1,λp ar=>aA.2.2.2.2.2.1 p (h.q1.mem p ar),λx au=>aA.2.2.2.2.2.2 x (h.jS.mem x au)⟩
theorem iI.ik (h:iI s o eh nq aQ eg κ κ') (aA:gH s) (iV:f_ s true=0):ta o true=ta s true/\wL o=wL s:=by
 have wO:=h.aml iV;have al:=h.mI aA;have aj:=q2 aA (nY iV).1;have yR:=q2 al (nY wO).1;rw [Xv aA iV,Xv al wO,IF aA iV,IF al wO];have M:=(h.XD aj yR).Xt;have aa:=(h.symm.XD yR aj).Xt;have e:yG o=yG s:=by omega
 have bq:hB o=hB s:=by
  have ek:=Xu s;have ht:=Xu o;by_cases c:0<=hB s
  ·have k:=(h.Pr aj yR).IE c;have aY:=(h.symm.Pr yR aj).IE k.1;omega
  ·by_cases b2:0<=hB o
   ·have aY:=(h.symm.Pr yR aj).IE b2;omega
   ·omega
 grind
end Go.Fer
namespace Go.Fer
open A (ab)
set_option linter.unusedVariables false
set_option linter.unusedSimpArgs false
section
variable {s:a3} {x:e2} {y:List Int} {p:Int}
end
section
variable {s:a3} {y:List Int}
theorem amm (ar:q0 s y=true) (aR:(dZ s y).2=true):y∈f' s:=by
 have aw:=(W4 ar).1;refine q7.2 ⟨aw,λi U=>?_⟩;unfold q0 at ar;rw [Bool.and_eq_true,List.all_eq_true] at ar;have M:=ar.1 i (by grind);have aa:=Pp.1 aR i U;unfold wz at M;simp only [Bool.or_eq_true,decide_eq_true_eq,Bool.and_eq_true,H2,Bool.not_eq_true',List.contains_eq_mem,decide_eq_false_iff_not] at M;rcases M with M | ⟨M,an⟩
 ·exact .inl M
 ·refine .inr ⟨M,λe=>?_,an⟩;unfold nZ at aa;rw [if_neg (by omega)] at aa;unfold kB at aa;grind
theorem amn (h:0<=iU s y):(dZ s y).2=true:=by
 rw [wN] at h;grind
theorem amo (ar:q0 s y=true) (hc:y.contains (-1)=false) (h:0<=iU s y):0<=hB s/\hB s<=iU s y:=by
 have aJ:=amm ar (amn h);rcases yM s with ⟨_,aa⟩ | ⟨M,_,an⟩
 ·have:=aa y aJ hc;omega
 ·exact ⟨M,an y aJ hc h⟩
end
end Go.Fer
namespace Go.Fer
open A (ab)
set_option linter.unusedVariables false
set_option linter.unusedSimpArgs false
theorem XE {s:a3} {aB:List Int} {D:List e_} (hc:sa s) (M:aB.length<=2000000) (aa:D.length<=2000001):gH (pd s aB D):=Xw hc.mI (by omega) (by omega)
end Go.Fer
namespace Go.Fer
open A (ab)
set_option linter.unusedVariables false
set_option linter.unusedSimpArgs false
theorem XF {l:List Int} {k i:Nat} {v:Int} (ak:k<l.length):(l.set k v).getD i 0=if i=k then v else l.getD i 0:=by
 grind
theorem XG:∀ (fit:List (List Int)) {aB:List Int} {k:Nat},k<aB.length->fA fit (aB.set k (aB.getD k 0+1))<=fA fit aB+1
 | [],_,_,_=>by simp [fA]
 | j::bO,aB,k,ak=>by
  have aO:=λ(st:List Int) (h:k<st.length)=>XG bO (aB:=st) h;refine OC ?_ λs aA ar=>?_
  ·have:=aO aB ak;have:=OA j bO aB;omega
  ·by_cases e:s.toNat=k
   ·rw [e,List.set_set,XF ak,if_pos rfl];have bq:aB.set k (aB.getD k 0+1 - 1)=aB:=by
     simp_all
    rw [bq];have:=OA j bO aB;omega
   ·rw [XF ak,if_neg e] at ar ⊢;rw [List.set_comm _ _ (λh=>e h.symm)];have M:=aO (aB.set s.toNat (aB.getD s.toNat 0 - 1)) (by grind);have cF:(aB.set s.toNat (aB.getD s.toNat 0 - 1)).getD k 0=aB.getD k 0:=by
     grind
    rw [cF] at M;have aa:=OB bO aA ar;omega
def lz (s:a3) (k:Nat):a3:=pd s (s.2.1.set k (s.2.1.getD k 0+1)) s.2.2.2.2.1
theorem XH {s:a3} (h:s.2.2.2.2.1=[]):dJ s=(List.range s.2.1.length).map λ(i:Nat)=>((0:Int),(i:Int),s.2.1.getD i 0):=by simp [dJ,h]
theorem Ps {s:a3} (h:s.2.2.2.2.1=[]):ga (dJ s)=s.2.1:=by
 rw [XH h];refine List.ext_getElem (by simp [ga]) λi M aa=>?_;simp [ga,List.getD_eq_getElem?_getD,aa]
theorem Pt {s:a3} (h:s.2.2.2.2.1=[]) (t:ir):g9 (dJ s) t=((List.range s.2.1.length).filter λ(i:Nat)=>decide (0<=t.1)&&t.2.contains (i:Int)).map λ(i:Nat)=>(i:Int):=by
 unfold g9;rw [XH h,List.length_map,List.length_range];congr 1;refine List.filter_congr λi U=>?_;rw [List.mem_range] at U;unfold tc;grind
theorem XI {s:a3} {y:List Int} (M:(dZ s y).2=true) (aa:kg (dZ s y).1=true):iU s y=((dZ s y).1.length:Int) - kD (dJ s) (dZ s y).1/\0<=iU s y:=by
 rw [wN,M,aa];have:=td (dJ s) (dZ s y).1;grind
theorem amp {s:a3} (aA:gH s) (iV:f_ s true=0) (aN:s.2.2.2.2.1=[]) {k:Nat} (ak:k<s.2.1.length) (M:s.2.1.getD k 0<10) (hc:sa s) (aW:0<=hB s) :
  f_ (lz s k) true=0/\0<=hB (lz s k)/\hB (lz s k)<=hB s/\hB s<=hB (lz s k)+1:=by
 have aj:=q2 aA (nY iV).1;have al:=XE (aB:=s.2.1.set k (s.2.1.getD k 0+1)) (D:=s.2.2.2.2.1) hc (by rw [List.length_set];exact hc.2.1) (by grind);have wO:f_ (lz s k) true=0:=ame iV (by simp) (λn aI=>by
  rcases List.mem_or_eq_of_mem_set aI with aI | aI
  ·exact aj.aB n aI
  ·have:0<=s.2.1.getD k 0:=(aj.aB _ (by grind)).1;omega) aj.H6 aj.Ee
 have yR:gm (lz s k):=q2 al (nY wO).1;have pW:yN (dJ s) (dJ (lz s k)):=Xy (s:=s) (aB:=s.2.1) (stock':=s.2.1.set k (s.2.1.getD k 0+1)) (D:=s.2.2.2.2.1) (D':=s.2.2.2.2.1) id (λk ak=>⟨ak,Int.le_refl _,rfl,Int.le_refl _⟩) (λa b _ _ h=>h) (by simp) λi U=>by
  grind
 have lP:Ew s (lz s k):=amc aj yR pW (λy=>amd) λy _=>yO.refl rfl;obtain ⟨aK,bq⟩:=lP.IE aW;refine ⟨wO,aK,bq,?_⟩;rcases yM (lz s k) with ⟨aa,_⟩ | ⟨_,⟨y,l6,kn,oE⟩,_⟩
 ·omega
 ·have af:0<=iU (lz s k) y:=by omega
  have aR:dZ (lz s k) y=dZ s y:=rfl;have DY:=wN (s:=lz s k) y;rw [aR] at DY;by_cases Ad:((dZ s y).2&&kg (dZ s y).1)=true
  ·rw [if_pos Ad] at DY;simp only [Bool.and_eq_true] at Ad;obtain ⟨e0,gE⟩:=XI Ad.1 Ad.2;have hm:kD (dJ (lz s k)) (dZ s y).1<=kD (dJ s) (dZ s y).1+1:=by
    unfold kD;rw [Ps (s:=lz s k) aN,Ps aN];have amq:(λt=>g9 (dJ (lz s k)) t)=λt=>g9 (dJ s) t:=by
     funext t;rw [Pt (s:=lz s k) aN,Pt aN];show ((List.range (s.2.1.set k _).length).filter _).map _=_;simp
    rw [show g9 (dJ (lz s k))=g9 (dJ s) from amq];exact XG _ ak
   rcases yM s with ⟨aa,_⟩ | ⟨_,_,an⟩
   ·omega
   ·have:=an y (by rw [q7] at l6 ⊢;exact l6) kn gE;omega
  grind
def jB (s:a3) (a0:List Int):List (Int×Int)×Bool:=((gP s a0).1.map λj=>(j.1,j.2.1),(gP s a0).2)
theorem amr {w:aT} (ak:eo w true=0) {j:Int×Int} (aC:fN w j.1 j.2=true):oC w j.1 j.2=AQ w j:=by
 unfold oC AQ;congr 1;refine List.filter_congr λi U=>?_;rw [List.mem_range] at U;have j':e3 w (i:Int)=true:=lq.2 ⟨by omega,by omega⟩;unfold nS;grind
theorem ams {s:a3} {a0:List Int}:∀ j∈(gP s a0).1,0<=j.2.2:=λj aC=>by
 unfold gP at aC;split at aC
 ·obtain ⟨i,_,h⟩:=List.mem_flatMap.1 aC;unfold iq at h;split at h
  ·grind
  ·cases aN:kB s (hV s (i:Int)) (hI s (a0.getD i 0)) with
   | none=>grind
   | some d=>
    rw [aN] at h;simp only [Option.map_some,Option.getD_some,List.mem_map] at h;obtain ⟨_,_,rfl⟩:=h;exact Xc aN
 grind
theorem amt {s:a3} (aA:gH s) (iV:f_ s true=0) (aN:s.2.2.2.2.1=[]) {a0:List Int} (ar:q0 s a0=true) (hc:a0.contains (-1)=false) (aI:(jB s a0).2=true) (aw:(jB s a0).1.length<=10)
  (dr:∀ j∈(jB s a0).1,fN s.1 j.1 j.2=true) (ax:∀ j∈(jB s a0).1,∃ i:Nat,i<s.2.1.length/\(nS s.1 (i:Int) j.1 j.2).1=1) :
  ∃ n,D3 s.1 s.2.1 (jB s a0).1=(n,0)/\0<=n/\n<=((jB s a0).1.length:Int)/\0<=hB s/\hB s<=((jB s a0).1.length:Int) - n:=by
 have aj:=q2 aA (nY iV).1;have Dg:=(nY iV).2.2.1;have aC:=Et s a0;have amu:∀ j∈(gP s a0).1,fN s.1 j.1 j.2.1=true:=λj h=>dr (j.1,j.2.1) (List.mem_map.2 ⟨j,h,rfl⟩);have amv:nl s.1 s.2.1 (jB s a0).1=true:=HR.2 ⟨aj.p3,aj.aB,aw,dr⟩;have s5:=N8 aj.uW amv;have aW:∀ i,i<s.2.1.length->0<=s.2.1.getD i 0:=λi U=>(aj.aB _ (by grind)).1;have qZ:(dZ s a0).1.map (g9 (dJ s))=jA s.1 (jB s a0).1:=by
  rw [aC.2,List.map_map];unfold jA jB;rw [List.map_map];refine List.map_congr_left λj h=>?_;show g9 (dJ s) (u6 s j)=AQ s.1 (j.1,j.2.1);rw [Pt aN,<-amr Dg (amu j h)];show _=oC s.1 j.1 j.2.1;unfold oC;rw [aj.p3];congr 1;refine List.filter_congr λi U=>?_;rw [List.mem_range] at U;rw [Bool.eq_iff_iff];simp only [u6,Bool.and_eq_true,decide_eq_true_eq,List.contains_eq_mem,IA];constructor
  ·omega
  ·intro dx;exact ⟨decide_eq_true (ams j h),by omega,by omega,dx⟩
 have hlen:(dZ s a0).1.length=(jB s a0).1.length:=by rw [aC.2];simp [jB]
 have atJ:kD (dJ s) (dZ s a0).1=fA (jA s.1 (jB s a0).1) s.2.1:=by
  unfold kD;rw [qZ,Ps aN]
 have cI:kg (dZ s a0).1=true:=by
  unfold kg;rw [List.all_eq_true,aC.2];intro t aR;obtain ⟨j,h,rfl⟩:=List.mem_map.1 aR;obtain ⟨i,U,M⟩:=ax (j.1,j.2.1) (List.mem_map.2 ⟨j,h,rfl⟩);have hm:(i:Int)∈oC s.1 j.1 j.2.1:=IA.2 ⟨by omega,by have:=aj.p3;omega,M⟩;have aw:oC s.1 j.1 j.2.1≠[]:=λe=>by grind
  simp [u6,aw]
 obtain ⟨e0,gE⟩:=XI (by rw [aC.1];exact aI) cI;have XJ:=ak2 s5 aW;rw [<-akZ] at XJ;have af:=Eg (jA s.1 (jB s a0).1) s.2.1;have gW:(jA s.1 (jB s a0).1).length=(jB s a0).1.length:=by grind
 rw [gW] at XJ af;obtain ⟨bN,b1⟩:=amo ar hc gE;refine ⟨fA (jA s.1 (jB s a0).1) s.2.1,?_,af.1,af.2,bN,?_⟩
 ·unfold D3;grind
 omega
end Go.Fer
namespace Go.Fer.H
open A (ab)
set_option linter.unusedVariables false
set_option maxRecDepth 100000
abbrev bk:Type:=Int×Int×Int×Int×Int×Int
abbrev r8:Type:=Int×Int×Int×Int×Int×Int×Int
abbrev b6:Type:=List (Int×Int)×List bk×List Int×List (Int×Int)×r8
abbrev ay:Type:=bk×Int
abbrev hW:Type:=List Int×List (List ay)
abbrev jC:Type:=b6×List bk×List (Option hW)
abbrev ew:Type:=List (Int×Int)×List bk×List Int×List (Int×Int)×Int×Int×Int×Int×Int×Int×Int×List bk×List (Option hW)×Unit
abbrev cC (l:List (Int×Int)) (a b:Int):List (Int×Int):=m4 (k:=.int .i64) (v:=.int .i64) l a b
abbrev jU:ai:=.st (.aG (.int .i64) (.aG (.int .i64) (.aG (.int .i64) (.aG (.int .i64) (.aG (.int .i64) (.int .i64))))))
abbrev lX (l:List (Int×bk)) (a:Int) (b:bk):List (Int×bk):=m4 (k:=.int .i64) (v:=jU) l a b
abbrev amw:List UInt8:=0::1::(List.replicate 2 2++(List.replicate 4 3++(List.replicate 8 4++(List.replicate 16 5++(List.replicate 32 6++(List.replicate 64 7++List.replicate 128 8))))))
abbrev _root_.Prod.b5 {eI eJ eK eL eM eE eF:Type} (x:eI×eJ×eK×eL×eM×eE×eF):eE:=x.2.2.2.2.2.1
abbrev _root_.Prod.cR {eI eJ eK eL eM eE eF eR:Type} (x:eI×eJ×eK×eL×eM×eE×eF×eR):eF:=x.2.2.2.2.2.2.1
abbrev _root_.Prod.cW {eI eJ eK eL eM eE eF eR e4:Type} (x:eI×eJ×eK×eL×eM×eE×eF×eR×e4):eR:=x.2.2.2.2.2.2.2.1
abbrev _root_.Prod.cX {eI eJ eK eL eM eE eF eR e4 e':Type} (x:eI×eJ×eK×eL×eM×eE×eF×eR×e4×e'):e4:=x.2.2.2.2.2.2.2.2.1
abbrev _root_.Prod.c2 {eI eJ eK eL eM eE eF eR e4 e' fq:Type} (x:eI×eJ×eK×eL×eM×eE×eF×eR×e4×e'×fq):e':=x.2.2.2.2.2.2.2.2.2.1
abbrev _root_.Prod.c1 {eI eJ eK eL eM eE eF eR e4 e' fq fD:Type} (x:eI×eJ×eK×eL×eM×eE×eF×eR×e4×e'×fq×fD):fq:=x.2.2.2.2.2.2.2.2.2.2.1
abbrev _root_.Prod.cS {eI eJ eK eL eM eE eF eR e4 e' fq fD gb:Type} (x:eI×eJ×eK×eL×eM×eE×eF×eR×e4×e'×fq×fD×gb):fD:=x.2.2.2.2.2.2.2.2.2.2.2.1
abbrev _root_.Prod.cY {eI eJ eK eL eM eE eF eR e4 e' fq fD gb gz:Type} (x:eI×eJ×eK×eL×eM×eE×eF×eR×e4×e'×fq×fD×gb×gz):gb:=x.2.2.2.2.2.2.2.2.2.2.2.2.1
abbrev _root_.Prod.c3 {eI eJ eK eL eM eE eF eR e4 e' fq fD gb gz gQ:Type} (x:eI×eJ×eK×eL×eM×eE×eF×eR×e4×e'×fq×fD×gb×gz×gQ):gz:=x.2.2.2.2.2.2.2.2.2.2.2.2.2.1
abbrev _root_.Prod.dv {eI eJ eK eL eM eE eF eR e4 e' fq fD gb gz gQ g_:Type} (x:eI×eJ×eK×eL×eM×eE×eF×eR×e4×e'×fq×fD×gb×gz×gQ×g_):gQ:=x.2.2.2.2.2.2.2.2.2.2.2.2.2.2.1
abbrev _root_.Prod.dG {eI eJ eK eL eM eE eF eR e4 e' fq fD gb gz gQ g_ hC:Type} (x:eI×eJ×eK×eL×eM×eE×eF×eR×e4×e'×fq×fD×gb×gz×gQ×g_×hC):g_:=x.2.2.2.2.2.2.2.2.2.2.2.2.2.2.2.1
abbrev _root_.Prod.dL {eI eJ eK eL eM eE eF eR e4 e' fq fD gb gz gQ g_ hC hX:Type} (x:eI×eJ×eK×eL×eM×eE×eF×eR×e4×e'×fq×fD×gb×gz×gQ×g_×hC×hX):hC:=x.2.2.2.2.2.2.2.2.2.2.2.2.2.2.2.2.1
abbrev _root_.Prod.df {eI eJ eK eL eM eE eF eR e4 e' fq fD gb gz gQ g_ hC hX iv:Type} (x:eI×eJ×eK×eL×eM×eE×eF×eR×e4×e'×fq×fD×gb×gz×gQ×g_×hC×hX×iv):hX:=x.2.2.2.2.2.2.2.2.2.2.2.2.2.2.2.2.2.1
abbrev _root_.Prod.dg {eI eJ eK eL eM eE eF eR e4 e' fq fD gb gz gQ g_ hC hX iv iW:Type} (x:eI×eJ×eK×eL×eM×eE×eF×eR×e4×e'×fq×fD×gb×gz×gQ×g_×hC×hX×iv×iW):iv:=x.2.2.2.2.2.2.2.2.2.2.2.2.2.2.2.2.2.2.1
abbrev _root_.Prod.dh {eI eJ eK eL eM eE eF eR e4 e' fq fD gb gz gQ g_ hC hX iv iW jD:Type} (x:eI×eJ×eK×eL×eM×eE×eF×eR×e4×e'×fq×fD×gb×gz×gQ×g_×hC×hX×iv×iW×jD):iW:=x.2.2.2.2.2.2.2.2.2.2.2.2.2.2.2.2.2.2.2.1
abbrev _root_.Prod.di {eI eJ eK eL eM eE eF eR e4 e' fq fD gb gz gQ g_ hC hX iv iW jD kh:Type} (x:eI×eJ×eK×eL×eM×eE×eF×eR×e4×e'×fq×fD×gb×gz×gQ×g_×hC×hX×iv×iW×jD×kh):jD:=x.2.2.2.2.2.2.2.2.2.2.2.2.2.2.2.2.2.2.2.2.1
abbrev _root_.Prod.ds {eI eJ eK eL eM eE eF eR e4 e' fq fD gb gz gQ g_ hC hX iv iW jD kh k0:Type} (x:eI×eJ×eK×eL×eM×eE×eF×eR×e4×e'×fq×fD×gb×gz×gQ×g_×hC×hX×iv×iW×jD×kh×k0):kh:=x.2.2.2.2.2.2.2.2.2.2.2.2.2.2.2.2.2.2.2.2.2.1
abbrev _root_.Prod.dt {eI eJ eK eL eM eE eF eR e4 e' fq fD gb gz gQ g_ hC hX iv iW jD kh k0 lY:Type} (x:eI×eJ×eK×eL×eM×eE×eF×eR×e4×e'×fq×fD×gb×gz×gQ×g_×hC×hX×iv×iW×jD×kh×k0×lY):k0:=x.2.2.2.2.2.2.2.2.2.2.2.2.2.2.2.2.2.2.2.2.2.2.1
abbrev _root_.Prod.dp {eI eJ eK eL eM eE eF eR e4 e' fq fD gb gz gQ g_ hC hX iv iW jD kh k0 lY mY:Type} (x:eI×eJ×eK×eL×eM×eE×eF×eR×e4×e'×fq×fD×gb×gz×gQ×g_×hC×hX×iv×iW×jD×kh×k0×lY×mY):lY:=x.2.2.2.2.2.2.2.2.2.2.2.2.2.2.2.2.2.2.2.2.2.2.2.1
abbrev _root_.Prod.dz {eI eJ eK eL eM eE eF eR e4 e' fq fD gb gz gQ g_ hC hX iv iW jD kh k0 lY mY n0:Type} (x:eI×eJ×eK×eL×eM×eE×eF×eR×e4×e'×fq×fD×gb×gz×gQ×g_×hC×hX×iv×iW×jD×kh×k0×lY×mY×n0):mY:=x.2.2.2.2.2.2.2.2.2.2.2.2.2.2.2.2.2.2.2.2.2.2.2.2.1
abbrev _root_.Prod.ei {eI eJ eK eL eM eE eF eR e4 e' fq fD gb gz gQ g_ hC hX iv iW jD kh k0 lY mY n0 pe:Type} (x:eI×eJ×eK×eL×eM×eE×eF×eR×e4×e'×fq×fD×gb×gz×gQ×g_×hC×hX×iv×iW×jD×kh×k0×lY×mY×n0×pe):n0:=x.2.2.2.2.2.2.2.2.2.2.2.2.2.2.2.2.2.2.2.2.2.2.2.2.2.1
abbrev _root_.Prod.ej {eI eJ eK eL eM eE eF eR e4 e' fq fD gb gz gQ g_ hC hX iv iW jD kh k0 lY mY n0 pe q8:Type} (x:eI×eJ×eK×eL×eM×eE×eF×eR×e4×e'×fq×fD×gb×gz×gQ×g_×hC×hX×iv×iW×jD×kh×k0×lY×mY×n0×pe×q8):pe:=x.2.2.2.2.2.2.2.2.2.2.2.2.2.2.2.2.2.2.2.2.2.2.2.2.2.2.1
abbrev _root_.Prod.iX {eI eJ eK eL eM eE eF eR e4 e' fq fD gb gz gQ g_ hC hX iv iW jD kh k0 lY mY n0 pe q8 th:Type} (x:eI×eJ×eK×eL×eM×eE×eF×eR×e4×e'×fq×fD×gb×gz×gQ×g_×hC×hX×iv×iW×jD×kh×k0×lY×mY×n0×pe×q8×th):q8:=x.2.2.2.2.2.2.2.2.2.2.2.2.2.2.2.2.2.2.2.2.2.2.2.2.2.2.2.1
abbrev _root_.Prod.jE {eI eJ eK eL eM eE eF eR e4 e' fq fD gb gz gQ g_ hC hX iv iW jD kh k0 lY mY n0 pe q8 th wP:Type} (x:eI×eJ×eK×eL×eM×eE×eF×eR×e4×e'×fq×fD×gb×gz×gQ×g_×hC×hX×iv×iW×jD×kh×k0×lY×mY×n0×pe×q8×th×wP):th:=x.2.2.2.2.2.2.2.2.2.2.2.2.2.2.2.2.2.2.2.2.2.2.2.2.2.2.2.2.1
abbrev _root_.Prod.jF {eI eJ eK eL eM eE eF eR e4 e' fq fD gb gz gQ g_ hC hX iv iW jD kh k0 lY mY n0 pe q8 th wP Bc:Type} (x:eI×eJ×eK×eL×eM×eE×eF×eR×e4×e'×fq×fD×gb×gz×gQ×g_×hC×hX×iv×iW×jD×kh×k0×lY×mY×n0×pe×q8×th×wP×Bc):wP:=x.2.2.2.2.2.2.2.2.2.2.2.2.2.2.2.2.2.2.2.2.2.2.2.2.2.2.2.2.2.1
abbrev _root_.Prod.Bd {eI eJ eK eL eM eE eF eR e4 e' fq fD gb gz gQ g_ hC hX iv iW jD kh k0 lY mY n0 pe q8 th wP Bc IG:Type} (x:eI×eJ×eK×eL×eM×eE×eF×eR×e4×e'×fq×fD×gb×gz×gQ×g_×hC×hX×iv×iW×jD×kh×k0×lY×mY×n0×pe×q8×th×wP×Bc×IG):Bc:=x.2.2.2.2.2.2.2.2.2.2.2.2.2.2.2.2.2.2.2.2.2.2.2.2.2.2.2.2.2.2.1
abbrev _root_.Prod.IH {eI eJ eK eL eM eE eF eR e4 e' fq fD gb gz gQ g_ hC hX iv iW jD kh k0 lY mY n0 pe q8 th wP Bc IG amx:Type} (x:eI×eJ×eK×eL×eM×eE×eF×eR×e4×e'×fq×fD×gb×gz×gQ×g_×hC×hX×iv×iW×jD×kh×k0×lY×mY×n0×pe×q8×th×wP×Bc×IG×amx):IG:=x.2.2.2.2.2.2.2.2.2.2.2.2.2.2.2.2.2.2.2.2.2.2.2.2.2.2.2.2.2.2.2.1
def XK (amy:b6×Int×(Int->A Int)->A ((Int×Int)×Int)) (amz:Int×Option b6->A Int) (x:b6×Int):A ((Int×Int)×Int):=
 A.bind (amy (x.1,x.2,λiF=>amz (iF,some x.1))) λy=>A.pure y
def XL (amA:b6->A Bool) (amB:List bk->A (List bk×Bool)) (x:b6):A Int:=
 A.bind (amA x) λy=>if (!y)=true then A.pure 90 else A.bind (amB x.2.1) λy=>if (!y.2)=true then A.pure 91 else A.pure 0
def XM (amC:b6->A Int) (amD:List bk×Unit->A (Bool×List bk×Unit)) (amE:(Int×Int×Int×Int×Int×Int->A Bool)×List bk×Unit->A ((Nat×Nat)×List bk×Unit)) (Pu:List Int×ew->A (ew)) (amF:bk×Option b6->A Bool) (x:b6×(Option jC->A Bool)):A (Option jC×Int):=
 A.bind (amC x.1) λy=>if decide (y≠0)=true then A.pure (none,y) else A.bind (amD (x.1.2.1,())) λy=>A.ah True (A.ah True (A.bind (amE (λiF=>amF (iF,some x.1),y.2.1,())) (λy=>A.ah True (A.bind (A.bind (x.2 (some (x.1,List.drop y.1.1 (List.take y.1.2 y.2.1),[]))) (λcu=>if (!cu)=true then A.bind (A.pure (none,1)) λr=>A.pure (ab.done r) else A.pure (ab.next (x.1.1,x.1.2.1,x.1.2.2.1,x.1.2.2.2.1,x.1.2.2.2.2.1,x.1.b5,x.1.cR,x.1.cW,x.1.cX,x.1.c2,x.1.2.2.2.2.2.2.2.2.2.2,y.1,y.2.1,[],())))) (ab.bx (λ(G:List (Int×Int)×List bk×List Int×List (Int×Int)×Int×Int×Int×Int×Int×Int×Int×(Nat×Nat)×List bk×List (Option hW)×Unit)=>A.bind (Pu ([],G.1,G.2.1,G.2.2.1,G.2.2.2.1,G.2.2.2.2.1,G.b5,G.cR,G.cW,G.cX,G.c2,G.c1,List.drop G.cS.1 (List.take G.cS.2 G.cY),G.c3,())) λy=>A.ah True (if decide (Int.ofNat (List.length y.cY)=0)=true then A.pure (none,3) else A.pure (some ((y.1,y.2.1,y.2.2.1,y.2.2.2.1,y.2.2.2.2.1,y.b5,y.cR,y.cW,y.cX,y.c2,y.c1),y.cS,y.cY),0))))))))
def amG (x:Int×Int×Int):A Bool:=
 A.pure (decide (x.2.1<=x.1)&&decide (x.1<=x.2.2))
def XN (amH:List Int×Unit->A (List Int×Unit)) (amI:(List Int->Prop)×Unit->A (List Int×Unit)) (x:List Int->Prop):A (List Int):=
 A.bind (amI (x,())) λy=>A.bind (amH (y.1,())) λy=>A.pure y.1
def XO (amJ:b6×(Option jC->A Bool)->A (Option jC×Int)) (amK:Option jC×(Option hW->A (Int×Bool))->A ((Int×Int)×Bool)) (amL:Option jC×Option Int->A Bool) (amM:Option hW×Option (Option jC)×Option Int×Option (Int->A Int)->A (Int×Bool)) (x:b6×Int×(Int->A Int)):A ((Int×Int)×Int):=
 A.bind (amJ (x.1,λiF=>amL (iF,some x.2.1))) λy=>if decide (y.2≠0)=true then A.pure ((0,0),y.2) else A.bind (amK (y.1,λiF=>amM (iF,some y.1,some x.2.1,some x.2.2))) λy=>if (!y.2)=true then A.pure ((0,0),3) else A.pure (y.1,0)
def XP (amN:r8×Int->A Int) (x:Int×Option b6):A Int:=
 A.bind (amN ((Option.getD x.2 ([],[],[],[],0,0,0,0,0,0,0)).2.2.2.2,x.1)) λy=>A.pure y
def XQ (x:r8×Int):A Int:=
 letI c:=x.1.2;letI b:=IntKind.wrap .i64 (x.2-x.1.1);letI a:=IntKind.wrap .i64 (c.2.1*IntKind.wrap .i64 (Int.tdiv (IntKind.wrap .i64 (IntKind.wrap .i64 (Add.add (if b > 0 then b else 0) c.1)-1)) c.1));if decide (x.2>=c.2.2.2.1)=true then A.pure x.1.b5 else A.ah (c.1≠0) (A.pure (if a<c.2.2.1 then a else c.2.2.1))
def XR (x:Option jC×(Option hW->A (Int×Bool))):A ((Int×Int)×Bool):=
 letI b:=(Option.getD x.1 (([],[],[],[],0,0,0,0,0,0,0),[],[])).2.2;A.bind (A.ah (Option.isSome x.1=true) (A.loop (λ(G:(Option hW->A (Int×Bool))×Bool×List (Option hW)×Int×Int×(Int×Int)×Unit)=>letI c:=G.2.2;letI a:=c.2.2.1;if decide (a<c.2.1)=true then A.bind (A.ah (0<=a/\a<Int.ofNat (List.length c.1)) (A.bind (G.1 (List.getD c.1 (Int.toNat a) none)) (λy=>if (!y.2)=true then A.pure (ab.next (G.1,G.2.1,c.1,c.2.1,a,G.b5,())) else if (!G.2.1)=true then A.pure (ab.next (G.1,true,c.1,c.2.1,a,(y.1,y.1),())) else A.pure (ab.next (G.1,G.2.1,c.1,c.2.1,a,(if y.1<G.b5.1 then y.1 else G.b5.1,if y.1 > G.b5.2 then y.1 else G.b5.2),()))))) (ab.bx (λ(G:(Option hW->A (Int×Bool))×Bool×List (Option hW)×Int×Int×(Int×Int)×Unit)=>A.pure (ab.next (G.1,G.2.1,G.2.2.1,G.2.2.2.1,IntKind.wrap .i64 (Add.add G.2.2.2.2.1 1),G.b5,())))) else A.bind (A.pure (ab.next (G.2.1,G.b5,()))) λr=>A.pure (ab.done r)) (x.2,false,b,Int.ofNat (List.length b),0,(0,0),()))) (ab.bx (λ(G:Bool×(Int×Int)×Unit)=>A.pure (G.2.1,G.1)))
def XS (lZ:Int×Int×Int->A Bool) (x:Int):A Bool:=
 A.bind (lZ (x,0,99)) λy=>A.pure y
def amO (amP:Option (Option hW)×Option (Option jC)->List ay->Prop) (x:Option jC×Option hW):A (List ay->Prop):=
 A.pure (amP (some x.2,some x.1))
def XT (lZ:Int×Int×Int->A Bool) (Pv:List bk×(Int×Int×Int×Int×Int×Int->A Bool)->A Bool) (amQ:Int×Int×Int×Int×Int×Int×Int->A Bool) (Nz:List Int×(Int->A Bool)->A Bool) (amR:bk×Option b6->A Bool) (amS:Int->A Bool) (x:b6):A Bool:=
 letI k:=Int.ofNat (List.length x.1);letI d:=decide (k > 3)||decide (Int.ofNat (List.length x.2.1) > 12)||decide (Int.ofNat (List.length x.2.2.1) > 12)||decide (Int.ofNat (List.length x.2.2.2.1) > 4);A.bind (cJ (!d) (amQ x.2.2.2.2) false) λy=>if (d||!y)=true then A.pure false else A.bind (A.loop (λ(G:List (Int×Int)×Int×Int×b6×Unit)=>letI l:=G.2.2.1;letI e:=List.getD G.1 (Int.toNat l) (0,0);if decide (l<G.2.1)=true then A.ah (0<=l/\l<Int.ofNat (List.length G.1)) (A.bind (lZ (e.1,-30,e.2)) (λy=>if (!y||decide (e.2 > 30))=true then A.bind (A.bind (A.pure false) (λr=>A.pure (ab.done r))) λr=>A.pure (ab.done r) else A.pure (ab.next (G.1,G.2.1,IntKind.wrap .i64 (Add.add l 1),G.2.2.2.1,())))) else A.bind (A.pure (ab.next (G.2.2.2.1,()))) λr=>A.pure (ab.done r)) (x.1,k,0,x,())) (ab.bx (λ(G:b6×Unit)=>A.bind (A.loop (λ(G:List (Int×Int)×Int×Int×b6×Unit)=>letI m:=G.2.2.2.1;letI f:=G.2.2.1;letI j:=decide (f > 0);letI i:=IntKind.wrap .i64 (f-1);letI b:=List.getD G.1 (Int.toNat f) (0,0);letI a:=!(A.val (lZ (b.1,0,b.2)) false)||decide (b.2 > 9999);letI h:=(!a)=true;letI c:=(!a&&j)=true;letI g:=c->c/\True/\True;if decide (f<G.2.1)=true then A.ah (0<=f/\f<Int.ofNat (List.length G.1)) (A.ah (lZ (b.1,0,b.2)).dU (A.ah ((!(!(A.val (lZ (b.1,0,b.2)) false)))=true->(!(!(A.val (lZ (b.1,0,b.2)) false)))=true/\True/\True) (A.ah ((!(!(A.val (lZ (b.1,0,b.2)) false)))=true->((!(!(A.val (lZ (b.1,0,b.2)) false)))=true/\True)/\True/\True) (A.ah (True/\((!(A.val (lZ (b.1,0,b.2)) false))=false->(!(!(A.val (lZ (b.1,0,b.2)) false)))=true)) (A.ah (h->(h/\True)/\True/\True) (A.ah (h->True/\True/\h) (A.ah g (A.ah g (A.ah (c->(c/\True)/\True/\True) (A.ah (c->(c/\c)/\(0<=i/\i<Int.ofNat (List.length m.2.2.2.1))/\True) (A.ah g (A.ah g (A.ah (c->(c/\c)/\True/\True) (A.ah (h->(h/\(j=true->c))/\True/\True) (A.ah (True/\(a=false->h)) (if (a||j&&decide (b.1<=(List.getD m.2.2.2.1 (Int.toNat i) (0,0)).2))=true then A.bind (A.bind (A.pure false) (λr=>A.pure (ab.done r))) λr=>A.pure (ab.done r) else A.pure (ab.next (G.1,G.2.1,IntKind.wrap .i64 (Add.add f 1),m,())))))))))))))))))) else A.bind (A.pure (ab.next (m,()))) λr=>A.pure (ab.done r)) (G.1.2.2.2.1,Int.ofNat (List.length G.1.2.2.2.1),0,G.1,())) (ab.bx (λ(G:b6×Unit)=>A.bind (Pv (G.1.2.1,λx=>amR (x,some G.1))) λy=>A.bind (cJ (!y) (Nz (G.1.2.2.1,amS)) false) λcu=>A.pure (!y&&!cu)))))
def amT (Pw:(List Int->Prop)->A (List Int)) (Px:List (Int×bk)->A (List Int->Prop)) (x:List bk):A (List bk×Bool):=
 A.bind (A.loop (λ(G:List bk×Int×Int×List (Int×bk)×Unit)=>letI d:=G.2.2.1;letI b:=G.2.2.2.1;letI a:=List.getD G.1 (Int.toNat d) (0,0,0,0,0,0);if decide (d<G.2.1)=true then A.ah (0<=d/\d<Int.ofNat (List.length G.1)) (if (Option.isSome (Option.map (λx=>x.2) (List.find? (λp=>decide (a.1=p.1)) b))&&!(decide ((Option.getD (Option.map (λx=>x.2) (List.find? (λp=>decide (a.1=p.1)) b)) (0,0,0,0,0,0)).1=a.1)&&(decide ((Option.getD (Option.map (λx=>x.2) (List.find? (λp=>decide (a.1=p.1)) b)) (0,0,0,0,0,0)).2.1=a.2.1)&&(decide ((Option.getD (Option.map (λx=>x.2) (List.find? (λp=>decide (a.1=p.1)) b)) (0,0,0,0,0,0)).2.2.1=a.2.2.1)&&(decide ((Option.getD (Option.map (λx=>x.2) (List.find? (λp=>decide (a.1=p.1)) b)) (0,0,0,0,0,0)).2.2.2.1=a.2.2.2.1)&&(decide ((Option.getD (Option.map (λx=>x.2) (List.find? (λp=>decide (a.1=p.1)) b)) (0,0,0,0,0,0)).2.2.2.2.1=a.2.2.2.2.1)&&decide ((Option.getD (Option.map (λx=>x.2) (List.find? (λp=>decide (a.1=p.1)) b)) (0,0,0,0,0,0)).2.2.2.2.2=a.2.2.2.2.2)))))))=true then A.bind (A.bind (A.pure ([],false)) (λr=>A.pure (ab.done r))) λr=>A.pure (ab.done r) else A.pure (ab.next (G.1,G.2.1,IntKind.wrap .i64 (Add.add d 1),lX b a.1 a,()))) else A.bind (A.pure (ab.next (b,()))) λr=>A.pure (ab.done r)) (x,Int.ofNat (List.length x),0,[],())) (ab.bx (λ(G:List (Int×bk)×Unit)=>A.bind (A.bind (Px G.1) (λy=>A.bind (Pw y) λy=>A.loop (λ(G:List Int×Int×Int×List bk×List (Int×bk)×Unit)=>letI c:=G.2.2;if decide (c.1<G.2.1)=true then A.ah (0<=c.1/\c.1<Int.ofNat (List.length G.1)) (A.ah (bT (Add.add (List.length c.2.1) (Add.add 0 1))) (A.pure (ab.next (G.1,G.2.1,IntKind.wrap .i64 (Add.add c.1 1),c.2.1++[Option.getD (Option.map (λx=>x.2) (List.find? (λp=>decide (List.getD G.1 (Int.toNat c.1) 0=p.1)) c.2.2.1)) (0,0,0,0,0,0)],c.2.2.1,())))) else A.bind (A.pure (ab.next (c.2.1,()))) λr=>A.pure (ab.done r)) (y,Int.ofNat (List.length y),0,[],G.1,()))) (ab.bx (λ(G:List bk×Unit)=>A.pure (G.1,true)))))
def XU (x:b6×Int×Int):A Int:=
 A.bind (A.loop (λ(G:Int×Int×Int×List (Int×Int)×Int×Int×Unit)=>letI c:=G.2.2.2;letI b:=IntKind.wrap .i64 (G.2.1-1);letI a:=List.getD c.1 (Int.toNat G.b5) (0,0);if decide (G.b5<c.2.1)=true then A.ah (0<=G.b5/\G.b5<Int.ofNat (List.length c.1)) (A.pure (ab.next (G.1,G.2.1,IntKind.wrap .i64 (G.2.2.1-(if IntKind.wrap .i64 (Add.add (IntKind.wrap .i64 ((if b<a.2 then b else a.2)-(if G.1 > a.1 then G.1 else a.1))) 1) > 0 then IntKind.wrap .i64 (Add.add (IntKind.wrap .i64 ((if b<a.2 then b else a.2)-(if G.1 > a.1 then G.1 else a.1))) 1) else 0)),c.1,c.2.1,IntKind.wrap .i64 (Add.add G.b5 1),()))) else A.bind (A.pure (ab.next (G.2.2.1,()))) λr=>A.pure (ab.done r)) (x.2.1,x.2.2,IntKind.wrap .i64 (x.2.2-x.2.1),x.1.2.2.2.1,Int.ofNat (List.length x.1.2.2.2.1),0,())) (ab.bx (λ(G:Int×Unit)=>A.pure G.1))
def XV (iS:List Int×Int->A Bool) (x:bk×Option b6):A Bool:=
 A.bind (iS ((Option.getD x.2 ([],[],[],[],0,0,0,0,0,0,0)).2.2.1,x.1.1)) λy=>A.pure y
def XW (Pv:List bk×(Int×Int×Int×Int×Int×Int->A Bool)->A Bool) (amU:bk×Option Int->A Bool) (x:Option jC×Option Int):A Bool:=
 A.ah (Option.isSome x.1=true) (A.bind (Pv ((Option.getD x.1 (([],[],[],[],0,0,0,0,0,0,0),[],[])).2.1,λiF=>amU (iF,some (Option.getD x.2 0)))) (λy=>A.pure y))
def amV (Py:List bk×(Int×Int×Int×Int×Int×Int->A Bool)->A Int) (x:List bk×(Int×Int×Int×Int×Int×Int->A Bool)):A Bool:=
 A.bind (Py x) λy=>A.pure (decide (y>=0))
def amW (x:bk×Option Int):A Bool:=
 A.pure (decide (x.1.1=Option.getD x.2 0)&&decide (x.1.2.2.2.1=1))
def XX (amX:Option jC×Option hW->A (List ay->Prop)) (x:Option hW×Option (Option jC)×Option Int×Option (Int->A Int)):A (Int×Bool):=
 A.bind (amX (Option.getD x.2.1 none,x.1)) λy=>A.bind (A.any y) λL=>A.bind (ju (λ(G:Int×(Int->A Int)×Int×Bool×Unit) (y:bk×Int)=>A.bind (if decide (y.1.1=G.1)=true then A.bind (G.2.1 y.2) λy=>A.pure (dc.ret,y,true,()) else A.pure (dc.normal,G.2.2.1,G.2.2.2.1,())) λp=>A.pure (p.1,G.1,G.2.1,p.2.1,p.2.2.1,())) L (Option.getD x.2.2.1 0,Option.getD x.2.2.2 λx=>{ dU:=False,bP:=λx=>False },0,false,())) λp=>qy (A.pure (0,false)) (λid=>if id=0 then A.pure (0,false) else A.fail) (A.pure (p.2.2.2.1,p.2.2.2.2.1)) p.1
def XY (lZ:Int×Int×Int->A Bool) (x:Int×Int×Int×Int×Int×Int×Int):A Bool:=
 A.bind (A.loop (λ(G:Int×Int×r8×List Int×Unit)=>letI a:=G.2;if decide (a.1<G.1)=true then A.ah (0<=a.1/\a.1<Int.ofNat (List.length a.2.2.1)) (A.bind (lZ (List.getD a.2.2.1 (Int.toNat a.1) 0,0,100000)) (λy=>if (!y)=true then A.bind (A.bind (A.pure false) (λr=>A.pure (ab.done r))) λr=>A.pure (ab.done r) else A.pure (ab.next (G.1,IntKind.wrap .i64 (Add.add a.1 1),a.2.1,a.2.2.1,())))) else A.bind (A.pure (ab.next (a.2.1,()))) λr=>A.pure (ab.done r)) (Int.ofNat (Add.add (Add.add (Add.add (Add.add 0 1) 1) 1) 1),0,x,[x.2.2.1,x.2.2.2.1,x.b5,x.2.2.2.2.2.2],())) (ab.bx (λ(G:r8×Unit)=>A.bind (lZ (G.1.1,0,9999)) λy=>A.bind (cJ y (lZ (G.1.2.1,1,9999)) false) λcu=>A.bind (cJ (y&&cu) (lZ (G.1.2.2.2.2.1,1,9999)) false) λet=>A.pure (y&&cu&&et)))
def XZ (amY:b6×Int×Int×Int×Int×Int×Int->A Bool) (x:bk×Option b6):A Bool:=
 A.bind (amY (Option.getD x.2 ([],[],[],[],0,0,0,0,0,0,0),x.1)) λy=>A.pure (!y)
def X0 (lZ:Int×Int×Int->A Bool) (II:Int->A Bool) (x:b6×Int×Int×Int×Int×Int×Int):A Bool:=
 letI c:=x.2.2.2.2;letI a:=decide (c.1=1)||decide (c.1=2)&&decide (c.2.2=0);A.bind (cJ a (II x.2.1) false) λy=>A.bind (cJ (a&&y) (II c.2.2) false) λcu=>A.bind (cJ (a&&y&&cu) (lZ (x.2.2.1,0,IntKind.wrap .i64 (Int.ofNat (List.length x.1.1)-1))) false) λet=>letI b:=a&&y&&cu&&et;A.bind (cJ b (lZ (x.2.2.2.1,0,9999)) false) λjx=>A.bind (cJ (b&&jx) (lZ (x.b5,0,9)) false) λmi=>A.pure (b&&jx&&mi)
def X1 (II:Int->A Bool) (x:Int):A Bool:=
 A.bind (II x) λy=>A.pure (!y)
def amZ (am0:Option (List (Int×bk))->List Int->Prop) (x:List (Int×bk)):A (List Int->Prop):=
 A.pure (am0 (some x))
def X2 (atK:Int->A Int) (am1:Int->A Int) (x:Int):A Int:=
 A.bind (am1 x) λy=>A.pure y
def am2 (x:List bk×(Int×Int×Int×Int×Int×Int->A Bool)):A Int:=
 A.bind (A.loop (λ(G:List bk×(Int×Int×Int×Int×Int×Int->A Bool)×Int×Int×Unit)=>letI a:=G.2.2.2.1;if decide (a<G.2.2.1)=true then A.ah (0<=a/\a<Int.ofNat (List.length G.1)) (A.bind (G.2.1 (List.getD G.1 (Int.toNat a) (0,0,0,0,0,0))) (λy=>if y=true then A.bind (A.bind (A.pure a) (λr=>A.pure (ab.done r))) λr=>A.pure (ab.done r) else A.pure (ab.next (G.1,G.2.1,G.2.2.1,IntKind.wrap .i64 (Add.add a 1),())))) else A.bind (A.pure (ab.next ())) λr=>A.pure (ab.done r)) (x.1,x.2,Int.ofNat (List.length x.1),0,())) (ab.bx (λ(G:Unit)=>A.pure (-1)))
def X3 (Ex:Int->A Bool) (x:Int×Int):A Bool:=
 A.bind (Ex x.1) λy=>A.bind (cJ y (Ex x.2) false) λcu=>A.pure (y&&!cu||decide (x.1<x.2))
def Ey (x:Int):A Int:=
 A.bind (if decide (x>=4294967296)=true then A.ah ((0:Int)<=32) (A.pure (ab.next (gL .u64 x 32,32,()))) else A.pure (ab.next (x,0,()))) (ab.bx (λ(G:Int×Int×Unit)=>A.bind (if decide (G.1>=65536)=true then A.ah ((0:Int)<=16) (A.pure (ab.next (gL .u64 G.1 16,IntKind.wrap .i64 (Add.add G.2.1 16),()))) else A.pure (ab.next (G.1,G.2.1,()))) (ab.bx (λ(G:Int×Int×Unit)=>A.bind (if decide (G.1>=256)=true then A.ah ((0:Int)<=8) (A.pure (ab.next (gL .u64 G.1 8,IntKind.wrap .i64 (Add.add G.2.1 8),()))) else A.pure (ab.next (G.1,G.2.1,()))) (ab.bx (λ(G:Int×Int×Unit)=>letI a:=IntKind.wrap .u8 G.1;A.ah (0<=a/\a<Int.ofNat 256) (A.pure (IntKind.wrap .i64 (Add.add G.2.1 (IntKind.wrap .i64 (Int.ofNat (List.getD amw (Int.toNat a) 0).1.1.1)))))))))))
def X4 (x:List Int):A (List Int):=
 A.bind (A.any (λb=>b=true->x=[])) λy=>if y=true then A.pure [] else A.ah (bT (Add.add 0 (List.length x))) (A.pure ([]++x))
def X5 (am3:Int×Int->A Int) (x:ay×bk×Int):A Int:=
 A.bind (am3 (x.1.2,x.2.2)) λy=>A.pure y
def X6 (Ex:Int->A Bool) (x:Int×Int):A Int:=
 A.bind (Ex x.1) λy=>A.bind (Ex x.2) λcu=>if y=true then if cu=true then A.pure 0 else A.pure (-1) else if cu=true then A.pure 1 else if decide (x.1<x.2)=true then A.pure (-1) else if decide (x.1 > x.2)=true then A.pure 1 else A.pure 0
def X7 (x:Int):A Bool:=
 A.pure (decide (x≠x))
def X8 (x:(List Int->Prop)×Unit):A (List Int×Unit):=
 A.bind (A.any x.1) λL=>A.bind (ju (λ(G:List Int×Unit) (y:Int)=>A.bind (A.ah (bT (Add.add (List.length G.1) (Add.add 0 1))) (A.pure (dc.normal,G.1++[y],()))) λp=>A.pure (p.1,p.2.1,())) L ([],())) λp=>qy (A.pure (p.2.1,())) (λid=>if id=0 then A.pure (p.2.1,()) else A.fail) A.fail p.1
def X9 (am4:(List Int->Prop)×Unit->A (List Int×Unit)) (x:(List Int->Prop)×Unit):A (List Int×Unit):=
 A.bind (am4 (x.1,())) λy=>A.pure (y.1,())
def X_ (Py:List bk×(Int×Int×Int×Int×Int×Int->A Bool)->A Int) (x:(Int×Int×Int×Int×Int×Int->A Bool)×List bk×Unit):A ((Nat×Nat)×List bk×Unit):=
 A.bind (Py (x.2.1,x.1)) λy=>if decide (y=-1)=true then A.pure ((0,List.length x.2.1),x.2.1,()) else A.bind (A.loop (λ(G:(Int×Int×Int×Int×Int×Int->A Bool)×Int×Int×List bk×Unit)=>letI g:=G.2.1;letI f:=G.2.2;letI e:=List.getD f.2.1 (Int.toNat f.1) (0,0,0,0,0,0);letI c:=Int.ofNat (List.length f.2.1);if decide (f.1<c)=true then A.bind (A.ah (0<=f.1/\f.1<c) (A.bind (G.1 e) (λy=>if (!y)=true then A.ah (0<=g/\g<c) (A.pure (ab.next (G.1,IntKind.wrap .i64 (Add.add g 1),f.1,List.set f.2.1 (Int.toNat g) e,()))) else A.pure (ab.next (G.1,g,f.1,f.2.1,()))))) (ab.bx (λ(G:(Int×Int×Int×Int×Int×Int->A Bool)×Int×Int×List bk×Unit)=>A.pure (ab.next (G.1,G.2.1,IntKind.wrap .i64 (Add.add G.2.2.1 1),G.2.2.2.1,())))) else A.bind (A.pure (ab.next (g,f.2.1,()))) λr=>A.pure (ab.done r)) (x.1,y,IntKind.wrap .i64 (Add.add y 1),x.2.1,())) (ab.bx (λ(G:Int×List bk×Unit)=>letI d:=Int.toNat G.1;letI b:=Int.ofNat (List.length G.2.1);letI a:=List.take d G.2.1++List.replicate (Int.toNat b-d) (0,0,0,0,0,0)++List.drop (Add.add d (List.length (List.replicate (Int.toNat b-d) ((0,0,0,0,0,0):bk)))) G.2.1;A.ah (0<=G.1/\G.1<=b/\b<=b) (A.ah True (A.ah ((0:Int)<=0/\0<=G.1/\G.1<=Int.ofNat (List.length a)) (A.pure ((Int.toNat 0,d),a,()))))))
def IJ (Pz:b6×Int×Int->A Int) (x:Nat×Option hW×Option jC×(Nat×(List ay->Prop)×List ay×Bool)×Unit):A ((Nat×(List ay->Prop)×List ay×Bool)×Unit):=
 A.ah (Option.isSome x.2.1=true) (A.loop (λ(G:Nat×Option jC×List (List ay)×Int×(Nat×(List ay->Prop)×List ay×Bool)×Unit)=>letI g:=G.2.2.2;if decide (g.1<10)=true then A.bind (A.ah (0<=g.1/\g.1<Int.ofNat 10) (A.loop (λ(G:Nat×Option jC×List ay×Int×List (List ay)×Int×(Nat×(List ay->Prop)×List ay×Bool)×Unit)=>letI h:=G.cR;letI f:=G.2.2;letI d:=Int.ofNat (List.length f.1);letI i:=0<=f.2.1/\f.2.1<d;letI c:=IntKind.wrap .i64 (Add.add f.2.1 1);letI b:=List.getD f.1 (Int.toNat f.2.1) ((0,0,0,0,0,0),0);letI a:=((Option.getD G.2.1 (([],[],[],[],0,0,0,0,0,0,0),[],[])).1,b.2,(List.getD f.1 (Int.toNat c) ((0,0,0,0,0,0),0)).2);if decide (c<d)=true then A.ah i (A.ah (Option.isSome G.2.1=true) (A.ah i (A.ah (0<=c/\c<d) (A.ah (Pz a).dU (A.bind (A.ah (G.1=h.1/\h.2.2.2=false/\(∃ (T:List ay),h.2.1 (h.2.2.1++(b.1,A.val (Pz a) 0)::T))) (A.any (λx=>True))) (λy=>letI e:=(h.1,h.2.1,h.2.2.1++[(b.1,A.val (Pz a) 0)],!y);if (!y)=true then A.bind (A.bind (A.bind (A.pure (e,())) (λr=>A.pure (ab.done r))) (λr=>A.pure (ab.done r))) λr=>A.pure (ab.done r) else A.pure (ab.next (G.1,G.2.1,f.1,IntKind.wrap .i64 (Add.add f.2.1 2),f.2.2.1,G.b5,e,())))))))) else A.bind (A.pure (ab.next (G.1,G.2.1,f.2.2.1,G.b5,h,()))) λr=>A.pure (ab.done r)) (G.1,G.2.1,List.getD G.2.2.1 (Int.toNat g.1) [],0,G.2.2.1,g.1,g.2.1,()))) (ab.bx (λ(G:Nat×Option jC×List (List ay)×Int×(Nat×(List ay->Prop)×List ay×Bool)×Unit)=>A.pure (ab.next (G.1,G.2.1,G.2.2.1,IntKind.wrap .i64 (Add.add G.2.2.2.1 1),G.2.2.2.2.1,())))) else A.bind (A.pure (g.2.1,())) λr=>A.pure (ab.done r)) (x.1,x.2.2.1,(Option.getD x.2.1 ([],[[],[],[],[],[],[],[],[],[],[]])).2,0,x.2.2.2.1,()))
def X' (Ya:Int×Int->A Bool) (x:Int×Int×List Int×Unit):A (List Int×Unit):=
 A.loop (λ(G:Int×Int×Int×List Int×Unit)=>if decide (G.2.2.1<G.2.1)=true then A.bind (A.loop (λ(G:Int×Int×Int×Int×List Int×Unit)=>letI c:=G.2.2.2;letI i:=decide (c.1 > G.1);letI f:=List.getD c.2.1 (Int.toNat c.1) 0;letI d:=Int.ofNat (List.length c.2.1);letI h:=0<=c.1/\c.1<d;letI b:=IntKind.wrap .i64 (c.1-1);letI e:=List.getD c.2.1 (Int.toNat b) 0;letI g:=List.set c.2.1 (Int.toNat c.1) e;letI a:=i=true;letI j:=a->a/\True/\True;A.ah (a->(a/\a)/\h/\True) (A.ah j (A.ah (a->(a/\True)/\True/\True) (A.ah (a->(a/\a)/\(0<=b/\b<d)/\True) (A.ah j (A.ah (a->(a/\a/\True)/\(Ya (f,e)).dU/\True) (A.ah (True/\(a->a)) (if (i&&A.val (Ya (f,e)) false)=true then A.ah (0<=b/\b<d) (A.ah h (A.ah h (A.ah (0<=b/\b<Int.ofNat (List.length g)) (A.pure (ab.next (G.1,G.2.1,G.2.2.1,b,List.set g (Int.toNat b) f,())))))) else A.bind (A.pure (ab.next (G.1,G.2.1,G.2.2.1,c.2.1,()))) λr=>A.pure (ab.done r))))))))) (G.1,G.2.1,G.2.2.1,G.2.2.1,G.2.2.2.1,())) (ab.bx (λ(G:Int×Int×Int×List Int×Unit)=>A.pure (ab.next (G.1,G.2.1,IntKind.wrap .i64 (Add.add G.2.2.1 1),G.2.2.2.1,())))) else A.bind (A.pure (G.2.2.2.1,())) λr=>A.pure (ab.done r)) (x.1,x.2.1,IntKind.wrap .i64 (Add.add x.1 1),x.2.2.1,())
def Yb (x:Int×Int×(ay×bk×Int->A Int)×List ay×Unit):A (List ay×Unit):=
 A.loop (λ(G:Int×Int×(ay×bk×Int->A Int)×Int×List ay×Unit)=>letI i:=G.2.2.2;if decide (i.1<G.2.1)=true then A.bind (A.loop (λ(G:Int×Int×(ay×bk×Int->A Int)×Int×Int×List ay×Unit)=>letI k:=G.2.2;letI d:=Int.ofNat (List.length G.b5);letI c:=k.2.2.1;letI j:=0<=c/\c<d;letI g:=decide (c > G.1);letI f:=List.getD G.b5 (Int.toNat c) ((0,0,0,0,0,0),0);letI b:=IntKind.wrap .i64 (c-1);letI e:=List.getD G.b5 (Int.toNat b) ((0,0,0,0,0,0),0);letI h:=List.set G.b5 (Int.toNat c) e;letI a:=g=true;letI l:=a->a/\True/\True;A.ah (a->(a/\a)/\j/\True) (A.ah l (A.ah (a->(a/\True)/\True/\True) (A.ah (a->(a/\a)/\(0<=b/\b<d)/\True) (A.ah l (A.ah (a->a/\a/\a/\True) (A.bind (cJ g (k.1 (f,e)) 0) (λy=>if (g&&decide (y<0))=true then A.ah (0<=b/\b<d) (A.ah j (A.ah j (A.ah (0<=b/\b<Int.ofNat (List.length h)) (A.pure (ab.next (G.1,G.2.1,k.1,k.2.1,b,List.set h (Int.toNat b) f,())))))) else A.bind (A.pure (ab.next (G.1,G.2.1,k.1,k.2.1,G.b5,()))) λr=>A.pure (ab.done r))))))))) (G.1,G.2.1,G.2.2.1,i.1,i.1,i.2.1,())) (ab.bx (λ(G:Int×Int×(ay×bk×Int->A Int)×Int×List ay×Unit)=>A.pure (ab.next (G.1,G.2.1,G.2.2.1,IntKind.wrap .i64 (Add.add G.2.2.2.1 1),G.2.2.2.2.1,())))) else A.bind (A.pure (i.2.1,())) λr=>A.pure (ab.done r)) (x.1,x.2.1,x.2.2.1,IntKind.wrap .i64 (Add.add x.1 1),x.2.2.2.1,())
def PA (x:Nat×List (Int×bk)×(Nat×(List Int->Prop)×List Int×Bool)×Unit):A ((Nat×(List Int->Prop)×List Int×Bool)×Unit):=
 A.bind (A.pure ()) λy=>A.loop (λ(G:Nat×(Nat×(List Int->Prop)×List Int×Bool)×(Option r8×List (Int×bk))×Unit)=>letI b:=G.2.1;letI a:=G.2.2.1;A.bind (FR a.2) λy=>if Option.isSome y=true then A.bind (A.ah (Option.isSome (mK a.1 a.2 y)=true) (A.pure ())) λcu=>A.bind (A.ah (G.1=b.1/\b.2.2.2=false/\(∃ (T:List Int),b.2.1 (b.2.2.1++Option.getD (Option.map (λx=>x.1) (mK a.1 a.2 y)) 0::T))) (A.any (λx=>True))) λet=>if (!et)=true then A.bind (A.pure ((b.1,b.2.1,b.2.2.1++[Option.getD (Option.map (λx=>x.1) (mK a.1 a.2 y)) 0],!et),())) λr=>A.pure (ab.done r) else A.pure (ab.next (G.1,(b.1,b.2.1,b.2.2.1++[Option.getD (Option.map (λx=>x.1) (mK a.1 a.2 y)) 0],!et),(mK a.1 a.2 y,CE a.2 y),())) else A.bind (A.pure (b,())) λr=>A.pure (ab.done r)) (x.1,x.2.2.1,(none,x.2.1),())
def am5 (Pw:(List Int->Prop)->A (List Int)) (Px:List (Int×bk)->A (List Int->Prop)) (x:List bk×Unit):A (Bool×List bk×Unit):=
 A.bind (A.loop (λ(G:List bk×Int×Int×List (Int×bk)×Unit)=>letI d:=G.2.2.1;letI b:=G.2.2.2.1;letI a:=List.getD G.1 (Int.toNat d) (0,0,0,0,0,0);if decide (d<G.2.1)=true then A.ah (0<=d/\d<Int.ofNat (List.length G.1)) (if (Option.isSome (Option.map (λx=>x.2) (List.find? (λp=>decide (a.1=p.1)) b))&&!(decide ((Option.getD (Option.map (λx=>x.2) (List.find? (λp=>decide (a.1=p.1)) b)) (0,0,0,0,0,0)).1=a.1)&&(decide ((Option.getD (Option.map (λx=>x.2) (List.find? (λp=>decide (a.1=p.1)) b)) (0,0,0,0,0,0)).2.1=a.2.1)&&(decide ((Option.getD (Option.map (λx=>x.2) (List.find? (λp=>decide (a.1=p.1)) b)) (0,0,0,0,0,0)).2.2.1=a.2.2.1)&&(decide ((Option.getD (Option.map (λx=>x.2) (List.find? (λp=>decide (a.1=p.1)) b)) (0,0,0,0,0,0)).2.2.2.1=a.2.2.2.1)&&(decide ((Option.getD (Option.map (λx=>x.2) (List.find? (λp=>decide (a.1=p.1)) b)) (0,0,0,0,0,0)).2.2.2.2.1=a.2.2.2.2.1)&&decide ((Option.getD (Option.map (λx=>x.2) (List.find? (λp=>decide (a.1=p.1)) b)) (0,0,0,0,0,0)).2.2.2.2.2=a.2.2.2.2.2)))))))=true then A.bind (A.bind (A.pure (false,[],())) (λr=>A.pure (ab.done r))) λr=>A.pure (ab.done r) else A.pure (ab.next (G.1,G.2.1,IntKind.wrap .i64 (Add.add d 1),lX b a.1 a,()))) else A.bind (A.pure (ab.next (b,()))) λr=>A.pure (ab.done r)) (x.1,Int.ofNat (List.length x.1),0,[],())) (ab.bx (λ(G:List (Int×bk)×Unit)=>A.bind (A.bind (Px G.1) (λy=>A.bind (Pw y) λy=>A.loop (λ(G:List Int×Int×Int×List bk×List (Int×bk)×Unit)=>letI c:=G.2.2;if decide (c.1<G.2.1)=true then A.ah (0<=c.1/\c.1<Int.ofNat (List.length G.1)) (A.ah (bT (Add.add (List.length c.2.1) (Add.add 0 1))) (A.pure (ab.next (G.1,G.2.1,IntKind.wrap .i64 (Add.add c.1 1),c.2.1++[Option.getD (Option.map (λx=>x.2) (List.find? (λp=>decide (List.getD G.1 (Int.toNat c.1) 0=p.1)) c.2.2.1)) (0,0,0,0,0,0)],c.2.2.1,())))) else A.bind (A.pure (ab.next (c.2.1,()))) λr=>A.pure (ab.done r)) (y,Int.ofNat (List.length y),0,[],G.1,()))) (ab.bx (λ(G:List bk×Unit)=>A.pure (true,G.1,())))))
def Yc (am6:List Int->A (List Int)) (ti:(ay×bk×Int->A Int)×List ay×Unit->A (List ay×Unit)) (tj:ay×bk×Int->A Int) (x:List Int×ew):A (Option hW×Bool×ew):=
 A.bind (A.bind (am6 x.1) (λy=>A.pure (ab.next (x.1,y,x.2.1,x.2.2.1,x.2.2.2.1,x.2.2.2.2.1,x.b5,x.cR,x.cW,x.cX,x.c2,x.c1,x.cS,x.cY,x.c3,[],[],[],[],[],[],[],[],[],[],())))) (ab.bx (λ(G:List Int×List Int×List (Int×Int)×List bk×List Int×List (Int×Int)×Int×Int×Int×Int×Int×Int×Int×List bk×List (Option hW)×List ay×List ay×List ay×List ay×List ay×List ay×List ay×List ay×List ay×List ay×Unit)=>A.bind (A.ah True (A.loop (λ(G:List Int×List bk×Int×Int×List Int×List ay×List ay×List ay×List ay×List ay×List ay×List ay×List ay×List ay×List ay×ew)=>letI lU:=G.1;letI ll:=G.c2;letI g2:=G.cX;letI pb:=G.cW;letI fe:=G.cR;letI q9:=G.b5;letI ij:=G.iX;letI nu:=G.ej;letI bK:=G.ei;letI r9:=G.dz;letI i3:=G.dp;letI an:=G.dt;letI iD:=G.ds;letI f3:=G.di;letI cF:=G.dh;letI d3:=G.dg;letI cw:=G.df;letI jN:=G.dL;letI bC:=G.dG;letI lG:=G.c3;letI c8:=G.cY;letI v2:=G.cS;letI hz:=G.c1;letI hx:=G.dv;letI s2:=G.2.1;letI d1:=G.2.2.1;letI e0:=G.2.2.2;letI pf:=e0.1;letI jL:=e0.2.1;letI a:=List.getD s2 (Int.toNat pf) (0,0,0,0,0,0);letI nL:=a.2.1;letI eN:=a.2.2.1;letI bN:=a.2.2.2;letI iM:=bN.1;letI oE:=bN.2.2;letI kn:=bN.2.1;letI m:=0<=nL/\nL<Int.ofNat (List.length lU);letI l:=IntKind.wrap .i64 (Add.add eN (List.getD lU (Int.toNat nL) 0));if decide (pf<d1)=true then A.bind (A.ah (0<=pf/\pf<Int.ofNat (List.length s2)) (A.ah (0<=kn/\kn<Int.ofNat 10) (if kn=Int.ofNat (Add.add 8 1) then A.ah True (A.ah (0<=Int.ofNat (Add.add 8 1)/\Int.ofNat (Add.add 8 1)<Int.ofNat 10) (A.ah m (A.ah (bT (Add.add (List.length hx) (Add.add 0 1))) (A.ah True (A.ah (0<=Int.ofNat (Add.add 8 1)/\Int.ofNat (Add.add 8 1)<Int.ofNat 10) (A.pure (ab.next (lU,s2,d1,pf,jL,q9,fe,pb,g2,ll,hz,v2,c8,lG,hx++[((a.1,nL,eN,iM,Int.ofNat (Add.add 8 1),oE),l)],bC,jN,cw,d3,cF,f3,iD,an,i3,r9,bK,nu,ij,())))))))) else if kn=Int.ofNat (Add.add 7 1) then A.ah True (A.ah (0<=Int.ofNat (Add.add 7 1)/\Int.ofNat (Add.add 7 1)<Int.ofNat 10) (A.ah m (A.ah (bT (Add.add (List.length lG) (Add.add 0 1))) (A.ah True (A.ah (0<=Int.ofNat (Add.add 7 1)/\Int.ofNat (Add.add 7 1)<Int.ofNat 10) (A.pure (ab.next (lU,s2,d1,pf,jL,q9,fe,pb,g2,ll,hz,v2,c8,lG++[((a.1,nL,eN,iM,Int.ofNat (Add.add 7 1),oE),l)],hx,bC,jN,cw,d3,cF,f3,iD,an,i3,r9,bK,nu,ij,())))))))) else if kn=Int.ofNat (Add.add 6 1) then A.ah True (A.ah (0<=Int.ofNat (Add.add 6 1)/\Int.ofNat (Add.add 6 1)<Int.ofNat 10) (A.ah m (A.ah (bT (Add.add (List.length c8) (Add.add 0 1))) (A.ah True (A.ah (0<=Int.ofNat (Add.add 6 1)/\Int.ofNat (Add.add 6 1)<Int.ofNat 10) (A.pure (ab.next (lU,s2,d1,pf,jL,q9,fe,pb,g2,ll,hz,v2,c8++[((a.1,nL,eN,iM,Int.ofNat (Add.add 6 1),oE),l)],lG,hx,bC,jN,cw,d3,cF,f3,iD,an,i3,r9,bK,nu,ij,())))))))) else if kn=Int.ofNat (Add.add 5 1) then A.ah True (A.ah (0<=Int.ofNat (Add.add 5 1)/\Int.ofNat (Add.add 5 1)<Int.ofNat 10) (A.ah m (A.ah (bT (Add.add (List.length v2) (Add.add 0 1))) (A.ah True (A.ah (0<=Int.ofNat (Add.add 5 1)/\Int.ofNat (Add.add 5 1)<Int.ofNat 10) (A.pure (ab.next (lU,s2,d1,pf,jL,q9,fe,pb,g2,ll,hz,v2++[((a.1,nL,eN,iM,Int.ofNat (Add.add 5 1),oE),l)],c8,lG,hx,bC,jN,cw,d3,cF,f3,iD,an,i3,r9,bK,nu,ij,())))))))) else if kn=Int.ofNat (Add.add 4 1) then A.ah True (A.ah (0<=Int.ofNat (Add.add 4 1)/\Int.ofNat (Add.add 4 1)<Int.ofNat 10) (A.ah m (A.ah (bT (Add.add (List.length hz) (Add.add 0 1))) (A.ah True (A.ah (0<=Int.ofNat (Add.add 4 1)/\Int.ofNat (Add.add 4 1)<Int.ofNat 10) (A.pure (ab.next (lU,s2,d1,pf,jL,q9,fe,pb,g2,ll,hz++[((a.1,nL,eN,iM,Int.ofNat (Add.add 4 1),oE),l)],v2,c8,lG,hx,bC,jN,cw,d3,cF,f3,iD,an,i3,r9,bK,nu,ij,())))))))) else if kn=Int.ofNat (Add.add 3 1) then A.ah True (A.ah (0<=Int.ofNat (Add.add 3 1)/\Int.ofNat (Add.add 3 1)<Int.ofNat 10) (A.ah m (A.ah (bT (Add.add (List.length ll) (Add.add 0 1))) (A.ah True (A.ah (0<=Int.ofNat (Add.add 3 1)/\Int.ofNat (Add.add 3 1)<Int.ofNat 10) (A.pure (ab.next (lU,s2,d1,pf,jL,q9,fe,pb,g2,ll++[((a.1,nL,eN,iM,Int.ofNat (Add.add 3 1),oE),l)],hz,v2,c8,lG,hx,bC,jN,cw,d3,cF,f3,iD,an,i3,r9,bK,nu,ij,())))))))) else if kn=Int.ofNat (Add.add 2 1) then A.ah True (A.ah (0<=Int.ofNat (Add.add 2 1)/\Int.ofNat (Add.add 2 1)<Int.ofNat 10) (A.ah m (A.ah (bT (Add.add (List.length g2) (Add.add 0 1))) (A.ah True (A.ah (0<=Int.ofNat (Add.add 2 1)/\Int.ofNat (Add.add 2 1)<Int.ofNat 10) (A.pure (ab.next (lU,s2,d1,pf,jL,q9,fe,pb,g2++[((a.1,nL,eN,iM,Int.ofNat (Add.add 2 1),oE),l)],ll,hz,v2,c8,lG,hx,bC,jN,cw,d3,cF,f3,iD,an,i3,r9,bK,nu,ij,())))))))) else if kn=Int.ofNat (Add.add 1 1) then A.ah True (A.ah (0<=Int.ofNat (Add.add 1 1)/\Int.ofNat (Add.add 1 1)<Int.ofNat 10) (A.ah m (A.ah (bT (Add.add (List.length pb) (Add.add 0 1))) (A.ah True (A.ah (0<=Int.ofNat (Add.add 1 1)/\Int.ofNat (Add.add 1 1)<Int.ofNat 10) (A.pure (ab.next (lU,s2,d1,pf,jL,q9,fe,pb++[((a.1,nL,eN,iM,Int.ofNat (Add.add 1 1),oE),l)],g2,ll,hz,v2,c8,lG,hx,bC,jN,cw,d3,cF,f3,iD,an,i3,r9,bK,nu,ij,())))))))) else if kn=Int.ofNat (Add.add 0 1) then A.ah True (A.ah (0<=Int.ofNat (Add.add 0 1)/\Int.ofNat (Add.add 0 1)<Int.ofNat 10) (A.ah m (A.ah (bT (Add.add (List.length fe) (Add.add 0 1))) (A.ah True (A.ah (0<=Int.ofNat (Add.add 0 1)/\Int.ofNat (Add.add 0 1)<Int.ofNat 10) (A.pure (ab.next (lU,s2,d1,pf,jL,q9,fe++[((a.1,nL,eN,iM,Int.ofNat (Add.add 0 1),oE),l)],pb,g2,ll,hz,v2,c8,lG,hx,bC,jN,cw,d3,cF,f3,iD,an,i3,r9,bK,nu,ij,())))))))) else A.ah True (A.ah (0<=Int.ofNat 0/\Int.ofNat 0<Int.ofNat 10) (A.ah m (A.ah (bT (Add.add (List.length q9) (Add.add 0 1))) (A.ah True (A.ah (0<=Int.ofNat 0/\Int.ofNat 0<Int.ofNat 10) (A.pure (ab.next (lU,s2,d1,pf,jL,q9++[((a.1,nL,eN,iM,Int.ofNat 0,oE),l)],fe,pb,g2,ll,hz,v2,c8,lG,hx,bC,jN,cw,d3,cF,f3,iD,an,i3,r9,bK,nu,ij,()))))))))))) (ab.bx (λ(G:List Int×List bk×Int×Int×List Int×List ay×List ay×List ay×List ay×List ay×List ay×List ay×List ay×List ay×List ay×ew)=>A.pure (ab.next (G.1,G.2.1,G.2.2.1,IntKind.wrap .i64 (Add.add G.2.2.2.1 1),G.2.2.2.2.1,G.b5,G.cR,G.cW,G.cX,G.c2,G.c1,G.cS,G.cY,G.c3,G.dv,G.dG,G.dL,G.df,G.dg,G.dh,G.di,G.ds,G.dt,G.dp,G.dz,G.ei,G.ej,G.iX,())))) else A.bind (A.pure (ab.next (jL,q9,fe,pb,g2,ll,hz,v2,c8,lG,hx,bC,jN,cw,d3,cF,f3,iD,an,i3,r9,bK,nu,ij,()))) λr=>A.pure (ab.done r)) (G.1,G.c3,Int.ofNat (List.length G.c3),0,G.2.1,G.dG,G.dL,G.df,G.dg,G.dh,G.di,G.ds,G.dt,G.dp,G.dz,G.2.2.1,G.2.2.2.1,G.2.2.2.2.1,G.b5,G.cR,G.cW,G.cX,G.c2,G.c1,G.cS,G.cY,G.c3,G.dv,()))) (ab.bx (λ(G:List Int×List ay×List ay×List ay×List ay×List ay×List ay×List ay×List ay×List ay×List ay×ew)=>A.bind (A.ah True (A.ah (0=Int.ofNat 0) (A.bind (A.ah (0<=Int.ofNat 0/\Int.ofNat 0<Int.ofNat 10) (A.bind (ti (tj,G.2.1,())) (λy=>A.loop (λ(G:Int×Int×Int×List Int×List ay×List ay×List ay×List ay×List ay×List ay×List ay×List ay×List ay×List ay×ew)=>letI bH:=G.2.2;letI Ez:=bH.2.2.1;letI so:=List.getD Ez (Int.toNat bH.1) ((0,0,0,0,0,0),0);if decide (bH.1<G.2.1)=true then A.ah (0<=bH.1/\bH.1<Int.ofNat (List.length Ez)) (A.bind (A.ah ((2:Int)≠0) (if decide (Int.tmod bH.1 (2:Int)=1)=true then A.pure (ab.next (bH.1,2,G.1,G.2.1,bH.1,so,bH.2.1,Ez,G.b5,G.cR,G.cW,G.cX,G.c2,G.c1,G.cS,G.cY,G.c3,G.dv,G.dG,G.dL,G.df,G.dg,G.dh,G.di,G.ds,G.dt,G.dp,G.dz,G.ei,G.ej,())) else A.pure (ab.next (bH.1,1,G.1,G.2.1,bH.1,so,bH.2.1,Ez,G.b5,G.cR,G.cW,G.cX,G.c2,G.c1,G.cS,G.cY,G.c3,G.dv,G.dG,G.dL,G.df,G.dg,G.dh,G.di,G.ds,G.dt,G.dp,G.dz,G.ei,G.ej,())))) (ab.bx (λ(G:Int×Int×Int×Int×Int×ay×List Int×List ay×List ay×List ay×List ay×List ay×List ay×List ay×List ay×List ay×List ay×ew)=>letI A_:=decide (G.1 > 0);letI l6:=IntKind.wrap .i64 (G.1-1);letI n:=decide (G.b5.1.2.2.2.1≠G.2.1);letI dO:=(!n)=true;letI b:=(!n&&A_)=true;letI lb:=b->b/\True/\True;A.ah (dO->(dO/\True)/\True/\True) (A.ah (dO->True/\True/\dO) (A.ah lb (A.ah (b->(b/\True)/\True/\True) (A.ah (b->(b/\b)/\(0<=l6/\l6<Int.ofNat (List.length G.cW))/\True) (A.ah lb (A.ah lb (A.ah (b->(b/\b)/\True/\True) (A.ah (dO->(dO/\(A_=true->b))/\True/\True) (A.ah (True/\(n=false->dO)) (if (n||A_&&decide (G.b5.2=(List.getD G.cW (Int.toNat l6) ((0,0,0,0,0,0),0)).2))=true then A.bind (A.bind (A.bind (A.pure (none,false,G.df,G.dg,G.dh,G.di,G.ds,G.dt,G.dp,G.dz,G.ei,G.ej,G.iX,G.jE,G.jF,())) (λr=>A.pure (ab.done r))) (λr=>A.pure (ab.done r))) λr=>A.pure (ab.done r) else A.pure (ab.next (G.2.2.1,G.2.2.2.1,IntKind.wrap .i64 (Add.add G.2.2.2.2.1 1),G.cR,G.cW,G.cX,G.c2,G.c1,G.cS,G.cY,G.c3,G.dv,G.dG,G.dL,G.df,G.dg,G.dh,G.di,G.ds,G.dt,G.dp,G.dz,G.ei,G.ej,G.iX,G.jE,G.jF,()))))))))))))))) else A.bind (A.pure (ab.next (G.1,bH.2.1,Ez,G.b5,G.cR,G.cW,G.cX,G.c2,G.c1,G.cS,G.cY,G.c3,G.dv,G.dG,G.dL,G.df,G.dg,G.dh,G.di,G.ds,G.dt,G.dp,G.dz,G.ei,G.ej,()))) λr=>A.pure (ab.done r)) (Int.ofNat 0,Int.ofNat (List.length y.1),0,G.1,y.1,G.2.2.1,G.2.2.2.1,G.2.2.2.2.1,G.b5,G.cR,G.cW,G.cX,G.c2,G.c1,G.cS,G.cY,G.c3,G.dv,G.dG,G.dL,G.df,G.dg,G.dh,G.di,G.ds,G.dt,G.dp,())))) (ab.bx (λ(G:Int×List Int×List ay×List ay×List ay×List ay×List ay×List ay×List ay×List ay×List ay×List ay×ew)=>A.ah (IntKind.wrap .i64 (Add.add G.1 1)=Int.ofNat 1) (A.bind (A.ah (0<=Int.ofNat 1/\Int.ofNat 1<Int.ofNat 10) (A.bind (ti (tj,G.2.2.2.1,())) (λy=>A.loop (λ(G:Int×Int×Int×List Int×List ay×List ay×List ay×List ay×List ay×List ay×List ay×List ay×List ay×List ay×ew)=>letI aK:=G.2.2;letI e6:=List.getD G.b5 (Int.toNat aK.1) ((0,0,0,0,0,0),0);if decide (aK.1<G.2.1)=true then A.ah (0<=aK.1/\aK.1<Int.ofNat (List.length G.b5)) (A.bind (A.ah ((2:Int)≠0) (if decide (Int.tmod aK.1 (2:Int)=1)=true then A.pure (ab.next (aK.1,2,G.1,G.2.1,aK.1,e6,aK.2.1,aK.2.2.1,G.b5,G.cR,G.cW,G.cX,G.c2,G.c1,G.cS,G.cY,G.c3,G.dv,G.dG,G.dL,G.df,G.dg,G.dh,G.di,G.ds,G.dt,G.dp,G.dz,G.ei,G.ej,())) else A.pure (ab.next (aK.1,1,G.1,G.2.1,aK.1,e6,aK.2.1,aK.2.2.1,G.b5,G.cR,G.cW,G.cX,G.c2,G.c1,G.cS,G.cY,G.c3,G.dv,G.dG,G.dL,G.df,G.dg,G.dh,G.di,G.ds,G.dt,G.dp,G.dz,G.ei,G.ej,())))) (ab.bx (λ(G:Int×Int×Int×Int×Int×ay×List Int×List ay×List ay×List ay×List ay×List ay×List ay×List ay×List ay×List ay×List ay×ew)=>letI c9:=decide (G.1 > 0);letI lH:=IntKind.wrap .i64 (G.1-1);letI o:=decide (G.b5.1.2.2.2.1≠G.2.1);letI hH:=(!o)=true;letI c:=(!o&&c9)=true;letI j9:=c->c/\True/\True;A.ah (hH->(hH/\True)/\True/\True) (A.ah (hH->True/\True/\hH) (A.ah j9 (A.ah (c->(c/\True)/\True/\True) (A.ah (c->(c/\c)/\(0<=lH/\lH<Int.ofNat (List.length G.cX))/\True) (A.ah j9 (A.ah j9 (A.ah (c->(c/\c)/\True/\True) (A.ah (hH->(hH/\(c9=true->c))/\True/\True) (A.ah (True/\(o=false->hH)) (if (o||c9&&decide (G.b5.2=(List.getD G.cX (Int.toNat lH) ((0,0,0,0,0,0),0)).2))=true then A.bind (A.bind (A.bind (A.pure (none,false,G.df,G.dg,G.dh,G.di,G.ds,G.dt,G.dp,G.dz,G.ei,G.ej,G.iX,G.jE,G.jF,())) (λr=>A.pure (ab.done r))) (λr=>A.pure (ab.done r))) λr=>A.pure (ab.done r) else A.pure (ab.next (G.2.2.1,G.2.2.2.1,IntKind.wrap .i64 (Add.add G.2.2.2.2.1 1),G.cR,G.cW,G.cX,G.c2,G.c1,G.cS,G.cY,G.c3,G.dv,G.dG,G.dL,G.df,G.dg,G.dh,G.di,G.ds,G.dt,G.dp,G.dz,G.ei,G.ej,G.iX,G.jE,G.jF,()))))))))))))))) else A.bind (A.pure (ab.next (G.1,aK.2.1,aK.2.2.1,G.b5,G.cR,G.cW,G.cX,G.c2,G.c1,G.cS,G.cY,G.c3,G.dv,G.dG,G.dL,G.df,G.dg,G.dh,G.di,G.ds,G.dt,G.dp,G.dz,G.ei,G.ej,()))) λr=>A.pure (ab.done r)) (Int.ofNat 1,Int.ofNat (List.length y.1),0,G.2.1,G.2.2.1,y.1,G.2.2.2.2.1,G.b5,G.cR,G.cW,G.cX,G.c2,G.c1,G.cS,G.cY,G.c3,G.dv,G.dG,G.dL,G.df,G.dg,G.dh,G.di,G.ds,G.dt,G.dp,G.dz,())))) (ab.bx (λ(G:Int×List Int×List ay×List ay×List ay×List ay×List ay×List ay×List ay×List ay×List ay×List ay×ew)=>A.ah (IntKind.wrap .i64 (Add.add G.1 1)=Int.ofNat 2) (A.bind (A.ah (0<=Int.ofNat 2/\Int.ofNat 2<Int.ofNat 10) (A.bind (ti (tj,G.2.2.2.2.1,())) (λy=>A.loop (λ(G:Int×Int×Int×List Int×List ay×List ay×List ay×List ay×List ay×List ay×List ay×List ay×List ay×List ay×ew)=>letI f1:=G.2.2;letI gM:=List.getD G.cR (Int.toNat f1.1) ((0,0,0,0,0,0),0);if decide (f1.1<G.2.1)=true then A.ah (0<=f1.1/\f1.1<Int.ofNat (List.length G.cR)) (A.bind (A.ah ((2:Int)≠0) (if decide (Int.tmod f1.1 (2:Int)=1)=true then A.pure (ab.next (f1.1,2,G.1,G.2.1,f1.1,gM,f1.2.1,f1.2.2.1,G.b5,G.cR,G.cW,G.cX,G.c2,G.c1,G.cS,G.cY,G.c3,G.dv,G.dG,G.dL,G.df,G.dg,G.dh,G.di,G.ds,G.dt,G.dp,G.dz,G.ei,G.ej,())) else A.pure (ab.next (f1.1,1,G.1,G.2.1,f1.1,gM,f1.2.1,f1.2.2.1,G.b5,G.cR,G.cW,G.cX,G.c2,G.c1,G.cS,G.cY,G.c3,G.dv,G.dG,G.dL,G.df,G.dg,G.dh,G.di,G.ds,G.dt,G.dp,G.dz,G.ei,G.ej,())))) (ab.bx (λ(G:Int×Int×Int×Int×Int×ay×List Int×List ay×List ay×List ay×List ay×List ay×List ay×List ay×List ay×List ay×List ay×ew)=>letI vS:=decide (G.1 > 0);letI b1:=IntKind.wrap .i64 (G.1-1);letI p:=decide (G.b5.1.2.2.2.1≠G.2.1);letI h5:=(!p)=true;letI d:=(!p&&vS)=true;letI lJ:=d->d/\True/\True;A.ah (h5->(h5/\True)/\True/\True) (A.ah (h5->True/\True/\h5) (A.ah lJ (A.ah (d->(d/\True)/\True/\True) (A.ah (d->(d/\d)/\(0<=b1/\b1<Int.ofNat (List.length G.c2))/\True) (A.ah lJ (A.ah lJ (A.ah (d->(d/\d)/\True/\True) (A.ah (h5->(h5/\(vS=true->d))/\True/\True) (A.ah (True/\(p=false->h5)) (if (p||vS&&decide (G.b5.2=(List.getD G.c2 (Int.toNat b1) ((0,0,0,0,0,0),0)).2))=true then A.bind (A.bind (A.bind (A.pure (none,false,G.df,G.dg,G.dh,G.di,G.ds,G.dt,G.dp,G.dz,G.ei,G.ej,G.iX,G.jE,G.jF,())) (λr=>A.pure (ab.done r))) (λr=>A.pure (ab.done r))) λr=>A.pure (ab.done r) else A.pure (ab.next (G.2.2.1,G.2.2.2.1,IntKind.wrap .i64 (Add.add G.2.2.2.2.1 1),G.cR,G.cW,G.cX,G.c2,G.c1,G.cS,G.cY,G.c3,G.dv,G.dG,G.dL,G.df,G.dg,G.dh,G.di,G.ds,G.dt,G.dp,G.dz,G.ei,G.ej,G.iX,G.jE,G.jF,()))))))))))))))) else A.bind (A.pure (ab.next (G.1,f1.2.1,f1.2.2.1,G.b5,G.cR,G.cW,G.cX,G.c2,G.c1,G.cS,G.cY,G.c3,G.dv,G.dG,G.dL,G.df,G.dg,G.dh,G.di,G.ds,G.dt,G.dp,G.dz,G.ei,G.ej,()))) λr=>A.pure (ab.done r)) (Int.ofNat 2,Int.ofNat (List.length y.1),0,G.2.1,G.2.2.1,G.2.2.2.1,y.1,G.b5,G.cR,G.cW,G.cX,G.c2,G.c1,G.cS,G.cY,G.c3,G.dv,G.dG,G.dL,G.df,G.dg,G.dh,G.di,G.ds,G.dt,G.dp,G.dz,())))) (ab.bx (λ(G:Int×List Int×List ay×List ay×List ay×List ay×List ay×List ay×List ay×List ay×List ay×List ay×ew)=>A.ah (IntKind.wrap .i64 (Add.add G.1 1)=Int.ofNat 3) (A.bind (A.ah (0<=Int.ofNat 3/\Int.ofNat 3<Int.ofNat 10) (A.bind (ti (tj,G.b5,())) (λy=>A.loop (λ(G:Int×Int×Int×List Int×List ay×List ay×List ay×List ay×List ay×List ay×List ay×List ay×List ay×List ay×ew)=>letI ek:=G.2.2;letI oN:=List.getD G.cW (Int.toNat ek.1) ((0,0,0,0,0,0),0);if decide (ek.1<G.2.1)=true then A.ah (0<=ek.1/\ek.1<Int.ofNat (List.length G.cW)) (A.bind (A.ah ((2:Int)≠0) (if decide (Int.tmod ek.1 (2:Int)=1)=true then A.pure (ab.next (ek.1,2,G.1,G.2.1,ek.1,oN,ek.2.1,ek.2.2.1,G.b5,G.cR,G.cW,G.cX,G.c2,G.c1,G.cS,G.cY,G.c3,G.dv,G.dG,G.dL,G.df,G.dg,G.dh,G.di,G.ds,G.dt,G.dp,G.dz,G.ei,G.ej,())) else A.pure (ab.next (ek.1,1,G.1,G.2.1,ek.1,oN,ek.2.1,ek.2.2.1,G.b5,G.cR,G.cW,G.cX,G.c2,G.c1,G.cS,G.cY,G.c3,G.dv,G.dG,G.dL,G.df,G.dg,G.dh,G.di,G.ds,G.dt,G.dp,G.dz,G.ei,G.ej,())))) (ab.bx (λ(G:Int×Int×Int×Int×Int×ay×List Int×List ay×List ay×List ay×List ay×List ay×List ay×List ay×List ay×List ay×List ay×ew)=>letI gi:=decide (G.1 > 0);letI gE:=IntKind.wrap .i64 (G.1-1);letI q:=decide (G.b5.1.2.2.2.1≠G.2.1);letI db:=(!q)=true;letI e:=(!q&&gi)=true;letI lK:=e->e/\True/\True;A.ah (db->(db/\True)/\True/\True) (A.ah (db->True/\True/\db) (A.ah lK (A.ah (e->(e/\True)/\True/\True) (A.ah (e->(e/\e)/\(0<=gE/\gE<Int.ofNat (List.length G.c1))/\True) (A.ah lK (A.ah lK (A.ah (e->(e/\e)/\True/\True) (A.ah (db->(db/\(gi=true->e))/\True/\True) (A.ah (True/\(q=false->db)) (if (q||gi&&decide (G.b5.2=(List.getD G.c1 (Int.toNat gE) ((0,0,0,0,0,0),0)).2))=true then A.bind (A.bind (A.bind (A.pure (none,false,G.df,G.dg,G.dh,G.di,G.ds,G.dt,G.dp,G.dz,G.ei,G.ej,G.iX,G.jE,G.jF,())) (λr=>A.pure (ab.done r))) (λr=>A.pure (ab.done r))) λr=>A.pure (ab.done r) else A.pure (ab.next (G.2.2.1,G.2.2.2.1,IntKind.wrap .i64 (Add.add G.2.2.2.2.1 1),G.cR,G.cW,G.cX,G.c2,G.c1,G.cS,G.cY,G.c3,G.dv,G.dG,G.dL,G.df,G.dg,G.dh,G.di,G.ds,G.dt,G.dp,G.dz,G.ei,G.ej,G.iX,G.jE,G.jF,()))))))))))))))) else A.bind (A.pure (ab.next (G.1,ek.2.1,ek.2.2.1,G.b5,G.cR,G.cW,G.cX,G.c2,G.c1,G.cS,G.cY,G.c3,G.dv,G.dG,G.dL,G.df,G.dg,G.dh,G.di,G.ds,G.dt,G.dp,G.dz,G.ei,G.ej,()))) λr=>A.pure (ab.done r)) (Int.ofNat 3,Int.ofNat (List.length y.1),0,G.2.1,G.2.2.1,G.2.2.2.1,G.2.2.2.2.1,y.1,G.cR,G.cW,G.cX,G.c2,G.c1,G.cS,G.cY,G.c3,G.dv,G.dG,G.dL,G.df,G.dg,G.dh,G.di,G.ds,G.dt,G.dp,G.dz,())))) (ab.bx (λ(G:Int×List Int×List ay×List ay×List ay×List ay×List ay×List ay×List ay×List ay×List ay×List ay×ew)=>A.ah (IntKind.wrap .i64 (Add.add G.1 1)=Int.ofNat 4) (A.bind (A.ah (0<=Int.ofNat 4/\Int.ofNat 4<Int.ofNat 10) (A.bind (ti (tj,G.cR,())) (λy=>A.loop (λ(G:Int×Int×Int×List Int×List ay×List ay×List ay×List ay×List ay×List ay×List ay×List ay×List ay×List ay×ew)=>letI M:=G.2.2;letI dR:=List.getD G.cX (Int.toNat M.1) ((0,0,0,0,0,0),0);if decide (M.1<G.2.1)=true then A.ah (0<=M.1/\M.1<Int.ofNat (List.length G.cX)) (A.bind (A.ah ((2:Int)≠0) (if decide (Int.tmod M.1 (2:Int)=1)=true then A.pure (ab.next (M.1,2,G.1,G.2.1,M.1,dR,M.2.1,M.2.2.1,G.b5,G.cR,G.cW,G.cX,G.c2,G.c1,G.cS,G.cY,G.c3,G.dv,G.dG,G.dL,G.df,G.dg,G.dh,G.di,G.ds,G.dt,G.dp,G.dz,G.ei,G.ej,())) else A.pure (ab.next (M.1,1,G.1,G.2.1,M.1,dR,M.2.1,M.2.2.1,G.b5,G.cR,G.cW,G.cX,G.c2,G.c1,G.cS,G.cY,G.c3,G.dv,G.dG,G.dL,G.df,G.dg,G.dh,G.di,G.ds,G.dt,G.dp,G.dz,G.ei,G.ej,())))) (ab.bx (λ(G:Int×Int×Int×Int×Int×ay×List Int×List ay×List ay×List ay×List ay×List ay×List ay×List ay×List ay×List ay×List ay×ew)=>letI d4:=decide (G.1 > 0);letI b2:=IntKind.wrap .i64 (G.1-1);letI s:=decide (G.b5.1.2.2.2.1≠G.2.1);letI b4:=(!s)=true;letI f:=(!s&&d4)=true;letI fc:=f->f/\True/\True;A.ah (b4->(b4/\True)/\True/\True) (A.ah (b4->True/\True/\b4) (A.ah fc (A.ah (f->(f/\True)/\True/\True) (A.ah (f->(f/\f)/\(0<=b2/\b2<Int.ofNat (List.length G.cS))/\True) (A.ah fc (A.ah fc (A.ah (f->(f/\f)/\True/\True) (A.ah (b4->(b4/\(d4=true->f))/\True/\True) (A.ah (True/\(s=false->b4)) (if (s||d4&&decide (G.b5.2=(List.getD G.cS (Int.toNat b2) ((0,0,0,0,0,0),0)).2))=true then A.bind (A.bind (A.bind (A.pure (none,false,G.df,G.dg,G.dh,G.di,G.ds,G.dt,G.dp,G.dz,G.ei,G.ej,G.iX,G.jE,G.jF,())) (λr=>A.pure (ab.done r))) (λr=>A.pure (ab.done r))) λr=>A.pure (ab.done r) else A.pure (ab.next (G.2.2.1,G.2.2.2.1,IntKind.wrap .i64 (Add.add G.2.2.2.2.1 1),G.cR,G.cW,G.cX,G.c2,G.c1,G.cS,G.cY,G.c3,G.dv,G.dG,G.dL,G.df,G.dg,G.dh,G.di,G.ds,G.dt,G.dp,G.dz,G.ei,G.ej,G.iX,G.jE,G.jF,()))))))))))))))) else A.bind (A.pure (ab.next (G.1,M.2.1,M.2.2.1,G.b5,G.cR,G.cW,G.cX,G.c2,G.c1,G.cS,G.cY,G.c3,G.dv,G.dG,G.dL,G.df,G.dg,G.dh,G.di,G.ds,G.dt,G.dp,G.dz,G.ei,G.ej,()))) λr=>A.pure (ab.done r)) (Int.ofNat 4,Int.ofNat (List.length y.1),0,G.2.1,G.2.2.1,G.2.2.2.1,G.2.2.2.2.1,G.b5,y.1,G.cW,G.cX,G.c2,G.c1,G.cS,G.cY,G.c3,G.dv,G.dG,G.dL,G.df,G.dg,G.dh,G.di,G.ds,G.dt,G.dp,G.dz,())))) (ab.bx (λ(G:Int×List Int×List ay×List ay×List ay×List ay×List ay×List ay×List ay×List ay×List ay×List ay×ew)=>A.ah (IntKind.wrap .i64 (Add.add G.1 1)=Int.ofNat 5) (A.bind (A.ah (0<=Int.ofNat 5/\Int.ofNat 5<Int.ofNat 10) (A.bind (ti (tj,G.cW,())) (λy=>A.loop (λ(G:Int×Int×Int×List Int×List ay×List ay×List ay×List ay×List ay×List ay×List ay×List ay×List ay×List ay×ew)=>letI i1:=G.2.2;letI ct:=List.getD G.c2 (Int.toNat i1.1) ((0,0,0,0,0,0),0);if decide (i1.1<G.2.1)=true then A.ah (0<=i1.1/\i1.1<Int.ofNat (List.length G.c2)) (A.bind (A.ah ((2:Int)≠0) (if decide (Int.tmod i1.1 (2:Int)=1)=true then A.pure (ab.next (i1.1,2,G.1,G.2.1,i1.1,ct,i1.2.1,i1.2.2.1,G.b5,G.cR,G.cW,G.cX,G.c2,G.c1,G.cS,G.cY,G.c3,G.dv,G.dG,G.dL,G.df,G.dg,G.dh,G.di,G.ds,G.dt,G.dp,G.dz,G.ei,G.ej,())) else A.pure (ab.next (i1.1,1,G.1,G.2.1,i1.1,ct,i1.2.1,i1.2.2.1,G.b5,G.cR,G.cW,G.cX,G.c2,G.c1,G.cS,G.cY,G.c3,G.dv,G.dG,G.dL,G.df,G.dg,G.dh,G.di,G.ds,G.dt,G.dp,G.dz,G.ei,G.ej,())))) (ab.bx (λ(G:Int×Int×Int×Int×Int×ay×List Int×List ay×List ay×List ay×List ay×List ay×List ay×List ay×List ay×List ay×List ay×ew)=>letI hd:=decide (G.1 > 0);letI d2:=IntKind.wrap .i64 (G.1-1);letI t:=decide (G.b5.1.2.2.2.1≠G.2.1);letI s1:=(!t)=true;letI g:=(!t&&hd)=true;letI gl:=g->g/\True/\True;A.ah (s1->(s1/\True)/\True/\True) (A.ah (s1->True/\True/\s1) (A.ah gl (A.ah (g->(g/\True)/\True/\True) (A.ah (g->(g/\g)/\(0<=d2/\d2<Int.ofNat (List.length G.cY))/\True) (A.ah gl (A.ah gl (A.ah (g->(g/\g)/\True/\True) (A.ah (s1->(s1/\(hd=true->g))/\True/\True) (A.ah (True/\(t=false->s1)) (if (t||hd&&decide (G.b5.2=(List.getD G.cY (Int.toNat d2) ((0,0,0,0,0,0),0)).2))=true then A.bind (A.bind (A.bind (A.pure (none,false,G.df,G.dg,G.dh,G.di,G.ds,G.dt,G.dp,G.dz,G.ei,G.ej,G.iX,G.jE,G.jF,())) (λr=>A.pure (ab.done r))) (λr=>A.pure (ab.done r))) λr=>A.pure (ab.done r) else A.pure (ab.next (G.2.2.1,G.2.2.2.1,IntKind.wrap .i64 (Add.add G.2.2.2.2.1 1),G.cR,G.cW,G.cX,G.c2,G.c1,G.cS,G.cY,G.c3,G.dv,G.dG,G.dL,G.df,G.dg,G.dh,G.di,G.ds,G.dt,G.dp,G.dz,G.ei,G.ej,G.iX,G.jE,G.jF,()))))))))))))))) else A.bind (A.pure (ab.next (G.1,i1.2.1,i1.2.2.1,G.b5,G.cR,G.cW,G.cX,G.c2,G.c1,G.cS,G.cY,G.c3,G.dv,G.dG,G.dL,G.df,G.dg,G.dh,G.di,G.ds,G.dt,G.dp,G.dz,G.ei,G.ej,()))) λr=>A.pure (ab.done r)) (Int.ofNat 5,Int.ofNat (List.length y.1),0,G.2.1,G.2.2.1,G.2.2.2.1,G.2.2.2.2.1,G.b5,G.cR,y.1,G.cX,G.c2,G.c1,G.cS,G.cY,G.c3,G.dv,G.dG,G.dL,G.df,G.dg,G.dh,G.di,G.ds,G.dt,G.dp,G.dz,())))) (ab.bx (λ(G:Int×List Int×List ay×List ay×List ay×List ay×List ay×List ay×List ay×List ay×List ay×List ay×ew)=>A.ah (IntKind.wrap .i64 (Add.add G.1 1)=Int.ofNat 6) (A.bind (A.ah (0<=Int.ofNat 6/\Int.ofNat 6<Int.ofNat 10) (A.bind (ti (tj,G.cX,())) (λy=>A.loop (λ(G:Int×Int×Int×List Int×List ay×List ay×List ay×List ay×List ay×List ay×List ay×List ay×List ay×List ay×ew)=>letI kv:=G.2.2;letI i2:=List.getD G.c1 (Int.toNat kv.1) ((0,0,0,0,0,0),0);if decide (kv.1<G.2.1)=true then A.ah (0<=kv.1/\kv.1<Int.ofNat (List.length G.c1)) (A.bind (A.ah ((2:Int)≠0) (if decide (Int.tmod kv.1 (2:Int)=1)=true then A.pure (ab.next (kv.1,2,G.1,G.2.1,kv.1,i2,kv.2.1,kv.2.2.1,G.b5,G.cR,G.cW,G.cX,G.c2,G.c1,G.cS,G.cY,G.c3,G.dv,G.dG,G.dL,G.df,G.dg,G.dh,G.di,G.ds,G.dt,G.dp,G.dz,G.ei,G.ej,())) else A.pure (ab.next (kv.1,1,G.1,G.2.1,kv.1,i2,kv.2.1,kv.2.2.1,G.b5,G.cR,G.cW,G.cX,G.c2,G.c1,G.cS,G.cY,G.c3,G.dv,G.dG,G.dL,G.df,G.dg,G.dh,G.di,G.ds,G.dt,G.dp,G.dz,G.ei,G.ej,())))) (ab.bx (λ(G:Int×Int×Int×Int×Int×ay×List Int×List ay×List ay×List ay×List ay×List ay×List ay×List ay×List ay×List ay×List ay×ew)=>letI f4:=decide (G.1 > 0);letI bq:=IntKind.wrap .i64 (G.1-1);letI u:=decide (G.b5.1.2.2.2.1≠G.2.1);letI t1:=(!u)=true;letI h:=(!u&&f4)=true;letI a7:=h->h/\True/\True;A.ah (t1->(t1/\True)/\True/\True) (A.ah (t1->True/\True/\t1) (A.ah a7 (A.ah (h->(h/\True)/\True/\True) (A.ah (h->(h/\h)/\(0<=bq/\bq<Int.ofNat (List.length G.c3))/\True) (A.ah a7 (A.ah a7 (A.ah (h->(h/\h)/\True/\True) (A.ah (t1->(t1/\(f4=true->h))/\True/\True) (A.ah (True/\(u=false->t1)) (if (u||f4&&decide (G.b5.2=(List.getD G.c3 (Int.toNat bq) ((0,0,0,0,0,0),0)).2))=true then A.bind (A.bind (A.bind (A.pure (none,false,G.df,G.dg,G.dh,G.di,G.ds,G.dt,G.dp,G.dz,G.ei,G.ej,G.iX,G.jE,G.jF,())) (λr=>A.pure (ab.done r))) (λr=>A.pure (ab.done r))) λr=>A.pure (ab.done r) else A.pure (ab.next (G.2.2.1,G.2.2.2.1,IntKind.wrap .i64 (Add.add G.2.2.2.2.1 1),G.cR,G.cW,G.cX,G.c2,G.c1,G.cS,G.cY,G.c3,G.dv,G.dG,G.dL,G.df,G.dg,G.dh,G.di,G.ds,G.dt,G.dp,G.dz,G.ei,G.ej,G.iX,G.jE,G.jF,()))))))))))))))) else A.bind (A.pure (ab.next (G.1,kv.2.1,kv.2.2.1,G.b5,G.cR,G.cW,G.cX,G.c2,G.c1,G.cS,G.cY,G.c3,G.dv,G.dG,G.dL,G.df,G.dg,G.dh,G.di,G.ds,G.dt,G.dp,G.dz,G.ei,G.ej,()))) λr=>A.pure (ab.done r)) (Int.ofNat 6,Int.ofNat (List.length y.1),0,G.2.1,G.2.2.1,G.2.2.2.1,G.2.2.2.2.1,G.b5,G.cR,G.cW,y.1,G.c2,G.c1,G.cS,G.cY,G.c3,G.dv,G.dG,G.dL,G.df,G.dg,G.dh,G.di,G.ds,G.dt,G.dp,G.dz,())))) (ab.bx (λ(G:Int×List Int×List ay×List ay×List ay×List ay×List ay×List ay×List ay×List ay×List ay×List ay×ew)=>A.ah (IntKind.wrap .i64 (Add.add G.1 1)=Int.ofNat 7) (A.bind (A.ah (0<=Int.ofNat 7/\Int.ofNat 7<Int.ofNat 10) (A.bind (ti (tj,G.c2,())) (λy=>A.loop (λ(G:Int×Int×Int×List Int×List ay×List ay×List ay×List ay×List ay×List ay×List ay×List ay×List ay×List ay×ew)=>letI aS:=G.2.2;letI Yd:=List.getD G.cS (Int.toNat aS.1) ((0,0,0,0,0,0),0);if decide (aS.1<G.2.1)=true then A.ah (0<=aS.1/\aS.1<Int.ofNat (List.length G.cS)) (A.bind (A.ah ((2:Int)≠0) (if decide (Int.tmod aS.1 (2:Int)=1)=true then A.pure (ab.next (aS.1,2,G.1,G.2.1,aS.1,Yd,aS.2.1,aS.2.2.1,G.b5,G.cR,G.cW,G.cX,G.c2,G.c1,G.cS,G.cY,G.c3,G.dv,G.dG,G.dL,G.df,G.dg,G.dh,G.di,G.ds,G.dt,G.dp,G.dz,G.ei,G.ej,())) else A.pure (ab.next (aS.1,1,G.1,G.2.1,aS.1,Yd,aS.2.1,aS.2.2.1,G.b5,G.cR,G.cW,G.cX,G.c2,G.c1,G.cS,G.cY,G.c3,G.dv,G.dG,G.dL,G.df,G.dg,G.dh,G.di,G.ds,G.dt,G.dp,G.dz,G.ei,G.ej,())))) (ab.bx (λ(G:Int×Int×Int×Int×Int×ay×List Int×List ay×List ay×List ay×List ay×List ay×List ay×List ay×List ay×List ay×List ay×ew)=>letI nc:=decide (G.1 > 0);letI f2:=IntKind.wrap .i64 (G.1-1);letI v:=decide (G.b5.1.2.2.2.1≠G.2.1);letI nb:=(!v)=true;letI i:=(!v&&nc)=true;letI PB:=i->i/\True/\True;A.ah (nb->(nb/\True)/\True/\True) (A.ah (nb->True/\True/\nb) (A.ah PB (A.ah (i->(i/\True)/\True/\True) (A.ah (i->(i/\i)/\(0<=f2/\f2<Int.ofNat (List.length G.dv))/\True) (A.ah PB (A.ah PB (A.ah (i->(i/\i)/\True/\True) (A.ah (nb->(nb/\(nc=true->i))/\True/\True) (A.ah (True/\(v=false->nb)) (if (v||nc&&decide (G.b5.2=(List.getD G.dv (Int.toNat f2) ((0,0,0,0,0,0),0)).2))=true then A.bind (A.bind (A.bind (A.pure (none,false,G.df,G.dg,G.dh,G.di,G.ds,G.dt,G.dp,G.dz,G.ei,G.ej,G.iX,G.jE,G.jF,())) (λr=>A.pure (ab.done r))) (λr=>A.pure (ab.done r))) λr=>A.pure (ab.done r) else A.pure (ab.next (G.2.2.1,G.2.2.2.1,IntKind.wrap .i64 (Add.add G.2.2.2.2.1 1),G.cR,G.cW,G.cX,G.c2,G.c1,G.cS,G.cY,G.c3,G.dv,G.dG,G.dL,G.df,G.dg,G.dh,G.di,G.ds,G.dt,G.dp,G.dz,G.ei,G.ej,G.iX,G.jE,G.jF,()))))))))))))))) else A.bind (A.pure (ab.next (G.1,aS.2.1,aS.2.2.1,G.b5,G.cR,G.cW,G.cX,G.c2,G.c1,G.cS,G.cY,G.c3,G.dv,G.dG,G.dL,G.df,G.dg,G.dh,G.di,G.ds,G.dt,G.dp,G.dz,G.ei,G.ej,()))) λr=>A.pure (ab.done r)) (Int.ofNat 7,Int.ofNat (List.length y.1),0,G.2.1,G.2.2.1,G.2.2.2.1,G.2.2.2.2.1,G.b5,G.cR,G.cW,G.cX,y.1,G.c1,G.cS,G.cY,G.c3,G.dv,G.dG,G.dL,G.df,G.dg,G.dh,G.di,G.ds,G.dt,G.dp,G.dz,())))) (ab.bx (λ(G:Int×List Int×List ay×List ay×List ay×List ay×List ay×List ay×List ay×List ay×List ay×List ay×ew)=>A.ah (IntKind.wrap .i64 (Add.add G.1 1)=Int.ofNat 8) (A.bind (A.ah (0<=Int.ofNat 8/\Int.ofNat 8<Int.ofNat 10) (A.bind (ti (tj,G.c1,())) (λy=>A.loop (λ(G:Int×Int×Int×List Int×List ay×List ay×List ay×List ay×List ay×List ay×List ay×List ay×List ay×List ay×ew)=>letI eS:=G.2.2;letI aY:=List.getD G.cY (Int.toNat eS.1) ((0,0,0,0,0,0),0);if decide (eS.1<G.2.1)=true then A.ah (0<=eS.1/\eS.1<Int.ofNat (List.length G.cY)) (A.bind (A.ah ((2:Int)≠0) (if decide (Int.tmod eS.1 (2:Int)=1)=true then A.pure (ab.next (eS.1,2,G.1,G.2.1,eS.1,aY,eS.2.1,eS.2.2.1,G.b5,G.cR,G.cW,G.cX,G.c2,G.c1,G.cS,G.cY,G.c3,G.dv,G.dG,G.dL,G.df,G.dg,G.dh,G.di,G.ds,G.dt,G.dp,G.dz,G.ei,G.ej,())) else A.pure (ab.next (eS.1,1,G.1,G.2.1,eS.1,aY,eS.2.1,eS.2.2.1,G.b5,G.cR,G.cW,G.cX,G.c2,G.c1,G.cS,G.cY,G.c3,G.dv,G.dG,G.dL,G.df,G.dg,G.dh,G.di,G.ds,G.dt,G.dp,G.dz,G.ei,G.ej,())))) (ab.bx (λ(G:Int×Int×Int×Int×Int×ay×List Int×List ay×List ay×List ay×List ay×List ay×List ay×List ay×List ay×List ay×List ay×ew)=>letI a8:=decide (G.1 > 0);letI ht:=IntKind.wrap .i64 (G.1-1);letI w:=decide (G.b5.1.2.2.2.1≠G.2.1);letI v1:=(!w)=true;letI j:=(!w&&a8)=true;letI ae:=j->j/\True/\True;A.ah (v1->(v1/\True)/\True/\True) (A.ah (v1->True/\True/\v1) (A.ah ae (A.ah (j->(j/\True)/\True/\True) (A.ah (j->(j/\j)/\(0<=ht/\ht<Int.ofNat (List.length G.dG))/\True) (A.ah ae (A.ah ae (A.ah (j->(j/\j)/\True/\True) (A.ah (v1->(v1/\(a8=true->j))/\True/\True) (A.ah (True/\(w=false->v1)) (if (w||a8&&decide (G.b5.2=(List.getD G.dG (Int.toNat ht) ((0,0,0,0,0,0),0)).2))=true then A.bind (A.bind (A.bind (A.pure (none,false,G.df,G.dg,G.dh,G.di,G.ds,G.dt,G.dp,G.dz,G.ei,G.ej,G.iX,G.jE,G.jF,())) (λr=>A.pure (ab.done r))) (λr=>A.pure (ab.done r))) λr=>A.pure (ab.done r) else A.pure (ab.next (G.2.2.1,G.2.2.2.1,IntKind.wrap .i64 (Add.add G.2.2.2.2.1 1),G.cR,G.cW,G.cX,G.c2,G.c1,G.cS,G.cY,G.c3,G.dv,G.dG,G.dL,G.df,G.dg,G.dh,G.di,G.ds,G.dt,G.dp,G.dz,G.ei,G.ej,G.iX,G.jE,G.jF,()))))))))))))))) else A.bind (A.pure (ab.next (G.1,eS.2.1,eS.2.2.1,G.b5,G.cR,G.cW,G.cX,G.c2,G.c1,G.cS,G.cY,G.c3,G.dv,G.dG,G.dL,G.df,G.dg,G.dh,G.di,G.ds,G.dt,G.dp,G.dz,G.ei,G.ej,()))) λr=>A.pure (ab.done r)) (Int.ofNat 8,Int.ofNat (List.length y.1),0,G.2.1,G.2.2.1,G.2.2.2.1,G.2.2.2.2.1,G.b5,G.cR,G.cW,G.cX,G.c2,y.1,G.cS,G.cY,G.c3,G.dv,G.dG,G.dL,G.df,G.dg,G.dh,G.di,G.ds,G.dt,G.dp,G.dz,())))) (ab.bx (λ(G:Int×List Int×List ay×List ay×List ay×List ay×List ay×List ay×List ay×List ay×List ay×List ay×ew)=>A.ah (IntKind.wrap .i64 (Add.add G.1 1)=Int.ofNat 9) (A.bind (A.ah (0<=Int.ofNat 9/\Int.ofNat 9<Int.ofNat 10) (A.bind (ti (tj,G.cS,())) (λy=>A.loop (λ(G:Int×Int×Int×List Int×List ay×List ay×List ay×List ay×List ay×List ay×List ay×List ay×List ay×List ay×ew)=>letI eb:=G.2.2;letI tw:=List.getD G.c3 (Int.toNat eb.1) ((0,0,0,0,0,0),0);if decide (eb.1<G.2.1)=true then A.ah (0<=eb.1/\eb.1<Int.ofNat (List.length G.c3)) (A.bind (A.ah ((2:Int)≠0) (if decide (Int.tmod eb.1 (2:Int)=1)=true then A.pure (ab.next (eb.1,2,G.1,G.2.1,eb.1,tw,eb.2.1,eb.2.2.1,G.b5,G.cR,G.cW,G.cX,G.c2,G.c1,G.cS,G.cY,G.c3,G.dv,G.dG,G.dL,G.df,G.dg,G.dh,G.di,G.ds,G.dt,G.dp,G.dz,G.ei,G.ej,())) else A.pure (ab.next (eb.1,1,G.1,G.2.1,eb.1,tw,eb.2.1,eb.2.2.1,G.b5,G.cR,G.cW,G.cX,G.c2,G.c1,G.cS,G.cY,G.c3,G.dv,G.dG,G.dL,G.df,G.dg,G.dh,G.di,G.ds,G.dt,G.dp,G.dz,G.ei,G.ej,())))) (ab.bx (λ(G:Int×Int×Int×Int×Int×ay×List Int×List ay×List ay×List ay×List ay×List ay×List ay×List ay×List ay×List ay×List ay×ew)=>letI i4:=decide (G.1 > 0);letI aa:=IntKind.wrap .i64 (G.1-1);letI z:=decide (G.b5.1.2.2.2.1≠G.2.1);letI cn:=(!z)=true;letI k:=(!z&&i4)=true;letI fL:=k->k/\True/\True;A.ah (cn->(cn/\True)/\True/\True) (A.ah (cn->True/\True/\cn) (A.ah fL (A.ah (k->(k/\True)/\True/\True) (A.ah (k->(k/\k)/\(0<=aa/\aa<Int.ofNat (List.length G.dL))/\True) (A.ah fL (A.ah fL (A.ah (k->(k/\k)/\True/\True) (A.ah (cn->(cn/\(i4=true->k))/\True/\True) (A.ah (True/\(z=false->cn)) (if (z||i4&&decide (G.b5.2=(List.getD G.dL (Int.toNat aa) ((0,0,0,0,0,0),0)).2))=true then A.bind (A.bind (A.bind (A.pure (none,false,G.df,G.dg,G.dh,G.di,G.ds,G.dt,G.dp,G.dz,G.ei,G.ej,G.iX,G.jE,G.jF,())) (λr=>A.pure (ab.done r))) (λr=>A.pure (ab.done r))) λr=>A.pure (ab.done r) else A.pure (ab.next (G.2.2.1,G.2.2.2.1,IntKind.wrap .i64 (Add.add G.2.2.2.2.1 1),G.cR,G.cW,G.cX,G.c2,G.c1,G.cS,G.cY,G.c3,G.dv,G.dG,G.dL,G.df,G.dg,G.dh,G.di,G.ds,G.dt,G.dp,G.dz,G.ei,G.ej,G.iX,G.jE,G.jF,()))))))))))))))) else A.bind (A.pure (ab.next (G.1,eb.2.1,eb.2.2.1,G.b5,G.cR,G.cW,G.cX,G.c2,G.c1,G.cS,G.cY,G.c3,G.dv,G.dG,G.dL,G.df,G.dg,G.dh,G.di,G.ds,G.dt,G.dp,G.dz,G.ei,G.ej,()))) λr=>A.pure (ab.done r)) (Int.ofNat 9,Int.ofNat (List.length y.1),0,G.2.1,G.2.2.1,G.2.2.2.1,G.2.2.2.2.1,G.b5,G.cR,G.cW,G.cX,G.c2,G.c1,y.1,G.cY,G.c3,G.dv,G.dG,G.dL,G.df,G.dg,G.dh,G.di,G.ds,G.dt,G.dp,G.dz,())))) (ab.bx (λ(G:Int×List Int×List ay×List ay×List ay×List ay×List ay×List ay×List ay×List ay×List ay×List ay×ew)=>A.ah (IntKind.wrap .i64 (Add.add G.1 1)=Int.ofNat 10) (A.pure (ab.next (G.2.1,G.2.2.1,G.2.2.2.1,G.2.2.2.2.1,G.b5,G.cR,G.cW,G.cX,G.c2,G.c1,G.cS,G.cY,G.c3,G.dv,G.dG,G.dL,G.df,G.dg,G.dh,G.di,G.ds,G.dt,G.dp,G.dz,()))))))))))))))))))))))))))))))))))) (ab.bx (λ(G:List Int×List ay×List ay×List ay×List ay×List ay×List ay×List ay×List ay×List ay×List ay×ew)=>A.pure (some (G.1,[G.2.1,G.2.2.1,G.2.2.2.1,G.2.2.2.2.1,G.b5,G.cR,G.cW,G.cX,G.c2,G.c1]),true,G.cS,G.cY,G.c3,G.dv,G.dG,G.dL,G.df,G.dg,G.dh,G.di,G.ds,G.dt,G.dp,())))))))
def Ye (am7:Int×Int×List Int×Unit->A (List Int×Unit)) (x:Int×Int×Int×List Int×Unit):A (List Int×Unit):=
 A.loop (λ(G:Int×Int×Int×Bool×Bool×List Int×Unit)=>if decide (IntKind.wrap .i64 (G.2.1-G.1)<=12)=true then A.bind (am7 (G.1,G.2.1,G.b5,())) λy=>A.bind (A.pure (y.1,())) λr=>A.pure (ab.done r) else A.fail) (x.1,x.2.1,x.2.2.1,true,true,x.2.2.2.1,())
def Yf (am8:Int×Int×(ay×bk×Int->A Int)×List ay×Unit->A (List ay×Unit)) (x:Int×Int×Int×(ay×bk×Int->A Int)×List ay×Unit):A (List ay×Unit):=
 A.loop (λ(G:Int×Int×Int×(ay×bk×Int->A Int)×Bool×Bool×List ay×Unit)=>if decide (IntKind.wrap .i64 (G.2.1-G.1)<=12)=true then A.bind (am8 (G.1,G.2.1,G.2.2.2.1,G.cR,())) λy=>A.bind (A.pure (y.1,())) λr=>A.pure (ab.done r) else A.fail) (x.1,x.2.1,x.2.2.1,x.2.2.2.1,true,true,x.2.2.2.2.1,())
def Yg (Pu:List Int×ew->A (ew)) (am9:List Int×ew->A (Option hW×Bool×ew)) (x:List Int×ew):A (ew):=
 letI d:=Int.ofNat (List.length x.2.1);letI a:=Int.ofNat (List.length x.1);A.ah True (if decide (a=d)=true then A.bind (A.bind (am9 (x.1,x.2.1,x.2.2.1,x.2.2.2.1,x.2.2.2.2.1,x.b5,x.cR,x.cW,x.cX,x.c2,x.c1,x.cS,x.cY,x.c3,())) (λy=>if y.2.1=true then A.ah True (A.ah (bT (Add.add (List.length y.dv) (Add.add 0 1))) (A.ah True (A.pure (ab.next (y.2.2.1,y.2.2.2.1,y.2.2.2.2.1,y.b5,y.cR,y.cW,y.cX,y.c2,y.c1,y.cS,y.cY,y.c3,y.dv++[y.1],()))))) else A.pure (ab.next (y.2.2.1,y.2.2.2.1,y.2.2.2.2.1,y.b5,y.cR,y.cW,y.cX,y.c2,y.c1,y.cS,y.cY,y.c3,y.dv,())))) (ab.bx (λ(G:ew)=>A.pure (G.1,G.2.1,G.2.2.1,G.2.2.2.1,G.2.2.2.2.1,G.b5,G.cR,G.cW,G.cX,G.c2,G.c1,G.cS,G.cY,()))) else A.ah True (A.ah (0<=a/\a<d) (A.loop (λ(G:List Int×Int×Int×ew)=>letI c:=G.2.2;letI b:=G.2.1;letI e:=List.take (Int.toNat b) G.1;A.ah True (A.ah (0<=b/\b<Int.ofNat (List.length c.2.1)) (if decide (c.1<=(List.getD c.2.1 (Int.toNat b) (0,0)).2)=true then A.ah ((0:Int)<=0/\0<=b/\b=b/\b<=Int.ofNat (List.length G.1)) (A.ah (0<Add.add 0 1/\bT (Add.add (List.length e) (Add.add 0 1))) (A.bind (Pu (e++[c.1],c.2.1,c.2.2.1,G.b5,G.cR,G.cW,G.cX,G.c2,G.c1,G.cS,G.cY,G.c3,G.dv,G.dG,())) (λy=>A.pure (ab.next (G.1,b,IntKind.wrap .i64 (Add.add c.1 1),y.1,y.2.1,y.2.2.1,y.2.2.2.1,y.2.2.2.2.1,y.b5,y.cR,y.cW,y.cX,y.c2,y.c1,y.cS,y.cY,()))))) else A.bind (A.pure (c.2.1,c.2.2.1,G.b5,G.cR,G.cW,G.cX,G.c2,G.c1,G.cS,G.cY,G.c3,G.dv,G.dG,())) λr=>A.pure (ab.done r)))) (x.1,a,(List.getD x.2.1 (Int.toNat a) (0,0)).1,x.2.1,x.2.2.1,x.2.2.2.1,x.2.2.2.2.1,x.b5,x.cR,x.cW,x.cX,x.c2,x.c1,x.cS,x.cY,x.c3,()))))
def Yh (am_:Int×Int×Int×List Int×Unit->A (List Int×Unit)) (PC:Int->A Int) (x:List Int×Unit):A (List Int×Unit):=
 letI a:=Int.ofNat (List.length x.1);A.bind (PC (IntKind.wrap .u64 a)) λy=>A.bind (am_ (0,a,y,x.1,())) λy=>A.pure (y.1,())
def Yi (PC:Int->A Int) (am':Int×Int×Int×(ay×bk×Int->A Int)×List ay×Unit->A (List ay×Unit)) (x:(ay×bk×Int->A Int)×List ay×Unit):A (List ay×Unit):=
 letI a:=Int.ofNat (List.length x.2.1);A.bind (PC (IntKind.wrap .u64 a)) λy=>A.bind (am' (0,a,y,x.1,x.2.1,())) λy=>A.pure (y.1,())
end Go.Fer.H
namespace Go.Fer.H
open A (ab)
set_option linter.unusedVariables false
set_option linter.unusedSimpArgs false
abbrev bp:ai:=.int .i64
abbrev dm:ai:=.bool
abbrev hl:ai:=.slice bp
abbrev rR:ai:=.st (.aG bp bp)
abbrev PD:ai:=.st (.aG bp (.aG bp (.aG bp (.aG bp (.aG bp (.aG bp bp))))))
abbrev p_:ai:=.st (.aG (.slice rR) (.aG (.slice jU) (.aG hl (.aG (.slice rR) PD))))
abbrev IK:ai:=.st (.aG jU bp)
abbrev IL:ai:=.st (.aG hl (.array 10 (.slice IK)))
abbrev Be:ai:=.st (.aG p_ (.aG (.slice jU) (.slice (.bQ IL))))
attribute [simp] qL Ub v' A.cN A.kH A.Qm A.hS A.nN A.mg A.je A.sT A.bX A.jf b' ku MQ ab.h'
section
variable {ao:Type}
def x_ (d:ao) (x:List ao×(ao->A Bool)):A Int:=
 A.bind (A.loop (λ(G:List ao×(ao->A Bool)×Int×Int×Unit)=>if decide (G.2.2.2.1<G.2.2.1)=true then A.ah (0<=G.2.2.2.1/\
 G.2.2.2.1<Int.ofNat (List.length G.1)) (A.bind (G.2.1 (List.getD G.1 (Int.toNat G.2.2.2.1) d)) λy=>if y=true then A.bind (A.bind (A.pure
 G.2.2.2.1) λr=>A.pure (ab.done r)) λr=>A.pure (ab.done r) else A.pure (ab.next (G.1,G.2.1,G.2.2.1,IntKind.wrap .i64 (Add.add
 G.2.2.2.1 1),()))) else A.bind (A.pure (ab.next ())) λr=>A.pure (ab.done r)) (x.1,x.2,Int.ofNat (List.length x.1),0,())) (ab.bx λ(G
 : Unit)=>A.pure (-1))
def DN (c:List ao×(ao->A Bool)->A Int) (x:List ao×(ao->A Bool)):A Bool:=A.bind (c x) λy=>A.pure (decide (y>=0))
def im (p:ao->Bool):List ao->Int->Int
 | [],_=>-1
 | x::l,i=>if p x=true then i else im p l (i+1)
theorem Ax (p:ao->Bool):∀ (l:List ao) (i:Int),0<=i->(decide (im p l i>=0))=l.any p
 | [],i,_=>by rfl
 | x::l,i,h=>by
  simp only [im,List.any_cons];by_cases au:p x=true
  ·grind
  ·have:=Ax p l (i+1) (by omega);grind
theorem Ay (p:ao->Bool):∀ (l:List ao) (i:Int),gO (λx (i:Int)=>if p x=true then (.done (.done i):ab Int (ab Unit Int)) else .next (i+1)) (λ_=>.next ()) l i=if l.any p=true then .done (im p l i) else .next ()
 | [],i=>by rfl
 | x::l,i=>by
  simp only [gO,List.any_cons,im];by_cases au:p x=true
  ·grind
  ·have:=Ay p l (i+1);grind
theorem DO {p:ao->Bool}:∀ (l:List ao) (i:Int),¬l.any p=true->im p l i=-1
 | [],_,_=>rfl
 | x::l,i,aI=>by
  simp only [List.any_cons,Bool.or_eq_true,not_or] at aI;simp only [im,aI.1,Bool.false_eq_true,if_false];exact DO l _ aI.2
theorem NN (d:ao) (l:List ao) (f:ao->A Bool) (h:l.length<2 ^ 63) (ax:∀ y∈l,∃ b,f y=A.pure b):x_ d (l,f)=A.pure (im (λy=>(f y).val false) l 0):=by
 unfold x_;rw [A.hT l (λi (b:Int)=>(l,f,(l.length:Int),b,())) (λy (i:Int)=>if (f y).val false=true then (.done (.done i):ab Int (ab Unit Int)) else .next (i+1)) (λ_=>.next ()) (λi b=>b=(i:Int)) 0 ?_ ?_ ?_ ?_]
 ·rw [Ay (λy=>(f y).val false)];by_cases bf:(l.any λy=>(f y).val false)=true
  ·simp [bf]
  ·have:im (λy=>(f y).val false) l 0=-1:=by
    have:∀ (l:List ao) (i:Int),¬(l.any λy=>(f y).val false)=true->im (λy=>(f y).val false) l i=-1:=by
     intro l;induction l with
     | nil=>intro i _;rfl
     | cons x l aO=>
      intro i aI;simp only [List.any_cons,Bool.or_eq_true,not_or] at aI;simp only [im,aI.1,Bool.false_eq_true,if_false];grind
    grind
   simp [bf,this]
 ·rfl
 ·rfl
 ·intro i U b af;subst af;have hw:=bF (n:=(i:Int)+1) (by omega) (by omega);refine ⟨?_,λbg dq=>?_⟩
  ·obtain ⟨b,af⟩:=ax _ (List.getElem_mem U);simp only [cc,dn U,if_true,en U,dd U,A.bL,af,A.nN,A.aX,b',hw];split<;>rfl
  grind
 simp
end
abbrev ls (e:ai):aU:=⟨.aG (.slice e) (.fn e .bool),bp,λx=>x.1.length<2 ^ 63/\∀ y∈x.1,∃ b,x.2 y=A.pure b,λx=>im (λy=>(x.2 y).val false) x.1 0⟩
theorem rV (e:ai) (x):A.bz (x_ e.ee x) ((ls e).sh x):=A.bU λh=>NN e.ee x.1 x.2 h.1 h.2
abbrev jz (e:ai):aU:=⟨.aG (.slice e) (.fn e .bool),dm,λx=>x.1.length<2 ^ 63/\∀ y∈x.1,∃ b,x.2 y=A.pure b,λx=>x.1.any λy=>(x.2 y).val false⟩
theorem rW (e:ai) (x):A.bz (DN (ls e).sh x) ((jz e).sh x):=A.bU λh=>by
 unfold DN;simp only [aU.sh,ls,A.cN];rw [A.ba (by exact h)];exact congrArg A.pure (Ax (λy=>(x.2 y).val false) x.1 0 (by omega))
abbrev q_ (s:bk):Int:=s.1
abbrev qa (s:bk):Int:=s.2.1
abbrev yS (s:bk):Int:=s.2.2.1
abbrev mu (s:bk):Int:=s.2.2.2.1
abbrev u' (s:bk):Int:=s.2.2.2.2.1
abbrev EA (s:bk):Int:=s.2.2.2.2.2
def IM (c:b6):Prop:=c.1.length<2 ^ 63/\c.2.1.length<2 ^ 63/\c.2.2.1.length<2 ^ 63/\c.2.2.2.1.length<2 ^ 63
def c5 (n a4 U:Int):Bool:=decide (a4<=n)&&decide (n<=U)
theorem yT {n a4 U:Int}:c5 n a4 U=true<->a4<=n/\n<=U:=by simp [c5]
def tk (t:r8):Bool:=c5 t.1 0 9999&&c5 t.2.1 1 9999&&c5 t.2.2.2.2.1 1 9999&&c5 t.2.2.1 0 100000&&c5 t.2.2.2.1 0 100000&&c5 t.2.2.2.2.2.1 0 100000&&c5 t.2.2.2.2.2.2 0 100000
def pg (n:Nat) (s:bk):Bool:=c5 (q_ s) 0 99&&c5 (qa s) 0 ((n:Int) - 1)&&c5 (yS s) 0 9999&&c5 (u' s) 0 9&&c5 (EA s) 0 99&&(decide (mu s=1)||decide (mu s=2)&&decide (EA s=0))
abbrev cA:aU:=⟨.aG bp (.aG bp bp),dm,λ_=>True,λx=>c5 x.1 x.2.1 x.2.2⟩
theorem ana (x):A.bz (amG x) (cA.sh x):=A.bU λ_=>rfl
abbrev Bf:aU:=⟨bp,dm,λ_=>True,λx=>c5 x 0 99⟩
theorem anb (x):A.bz (XS cA.sh x) (Bf.sh x):=A.bU λ_=>by
 unfold XS;simp [aU.sh,cA]
abbrev IN:aU:=⟨PD,dm,λ_=>True,λx=>tk x⟩
theorem anc (x):A.bz (XY cA.sh x) (IN.sh x):=A.bU λ_=>by
 unfold XY;rw [A.fv [x.2.2.1,x.2.2.2.1,x.2.2.2.2.2.1,x.2.2.2.2.2.2] (λi (_:Unit)=>(4,(i:Int),x,[x.2.2.1,x.2.2.2.1,x.2.2.2.2.2.1,x.2.2.2.2.2.2],())) (λy b=>if (!c5 y 0 100000)=true then .done (.done false) else .next b) (λ_=>.next (x,())) () ?_ ?_ ?_]
 ·rw [lS (q:=λy=>c5 y 0 100000) _ _ (λ_=>rfl)];show _=A.pure (tk x);unfold tk;simp only [List.all_cons,List.all_nil,Bool.and_true,aU.sh,cA,A.vm,A.aX,A.sT];cases M:c5 x.1 0 9999<;>cases aa:c5 x.2.1 1 9999<;>cases an:c5 x.2.2.2.2.1 1 9999<;>cases c5 x.2.2.1 0 100000<;>cases c5 x.2.2.2.1 0 100000<;>cases c5 x.2.2.2.2.2.1 0 100000<;>cases c5 x.2.2.2.2.2.2 0 100000<;>simp [M,aa,an]
 ·rfl
 ·intro i U b;have eA:i<4:=by omega
  have hw:=bF (n:=(i:Int)+1) (by omega) (by omega);have M:decide ((i:Int)<4)=true:=by grind
  simp only [M,if_true,cc,en U,dd U,A.bL,aU.sh,cA,A.vm,A.aX,b',hw];exact nO (mk:=λ(_:Unit)=>((4:Int),((i+1:Nat):Int),x,[x.2.2.1,x.2.2.2.1,x.2.2.2.2.2.1,x.2.2.2.2.2.2],()))
 simp
abbrev IP:aU:=⟨.aG p_ jU,dm,λx=>x.1.1.length<2 ^ 63,λx=>pg x.1.1.length x.2⟩
theorem ane (x):A.bz (X0 cA.sh Bf.sh x) (IP.sh x):=A.bU λh=>by
 have hw:=bF (n:=(x.1.1.length:Int) - 1) (by omega) (by omega);unfold X0;show _=A.pure (pg x.1.1.length x.2);unfold pg;simp only [aU.sh,cA,Bf,A.vm,A.aX,A.sT,cc,hw];grind
abbrev EB:aU:=⟨.aG jU (.bQ p_),dm,λx=>∃ c:b6,x.2=some c/\c.1.length<2 ^ 63,λx=>!pg (x.2.getD ([],[],[],[],0,0,0,0,0,0,0)).1.length x.1⟩
theorem anf (x):A.bz (XZ IP.sh x) (EB.sh x):=A.bU λh=>by
 obtain ⟨s,o⟩:=x;obtain ⟨c,hc,h⟩:=h;change o=some c at hc;subst hc;unfold XZ;simp only [Option.getD_some,aU.sh,IP,A.cN];simp_all
abbrev Bg:aU:=⟨bp,dm,λ_=>True,λx=>!c5 x 0 99⟩
theorem ang (x):A.bz (X1 Bf.sh x) (Bg.sh x):=A.bU λ_=>by
 unfold X1;simp [aU.sh,Bf]
theorem anh (a b:bk):(decide (a.1=b.1)&&(decide (a.2.1=b.2.1)&&(decide (a.2.2.1=b.2.2.1)&&(decide (a.2.2.2.1=b.2.2.2.1)&&(decide (a.2.2.2.2.1=b.2.2.2.2.1)&&decide (a.2.2.2.2.2=b.2.2.2.2.2))))))=decide (a=b):=by
 grind
def Yj (a b:bk):Bool:=decide (q_ a=q_ b)&&!decide (a=b)
abbrev mj:aU:=⟨.aG hl bp,dm,λx=>x.1.length<2 ^ 63,λx=>x.1.contains x.2⟩
theorem ani (x):A.bz (am2 x) ((ls jU).sh x):=rV jU x
theorem anj (x):A.bz (amV (ls jU).sh x) ((jz jU).sh x):=rW jU x
abbrev IQ:aU:=⟨hl,hl,λx=>x.length<65536,λx=>x⟩
theorem Bh {n:Nat} (h:n<65536):bT n:=by unfold bT;omega
theorem ank (x):A.bz (X4 x) (IQ.sh x):=A.x0 λh=>by
 unfold X4;rw [A.gf];refine ⟨⟨false,by simp⟩,λb af=>?_⟩;change b=true->x=[] at af;cases b with
 | true=>rw [af rfl];exact A.ez.2 rfl
 | false=>
  simp only [Bool.false_eq_true,if_false];exact A.mx.2 ⟨Bh (by grind),A.ez.2 (by simp)⟩
abbrev anl (c:b6):Prop:=c.1.length<=20/\c.2.1.length<=40/\c.2.2.1.length<=60/\c.2.2.2.1.length<=40
abbrev Bi:aU:=⟨bp,dm,λ_=>True,λ_=>false⟩
theorem anm (x):A.bz (X7 x) (Bi.sh x):=A.bU λ_=>by simp [X7]
abbrev IS:aU:=⟨.aG bp bp,bp,λ_=>True,λx=>if x.1<x.2 then -1 else if x.1 > x.2 then 1 else 0⟩
theorem ano (x):A.bz (X6 Bi.sh x) (IS.sh x):=A.bU λ_=>by
 unfold X6;simp only [aU.sh,Bi,A.vm,A.aX,Bool.false_eq_true,if_false,decide_eq_true_eq];grind
abbrev ns:aU:=⟨.aG IK IK,bp,λ_=>True,λx=>if x.1.2<x.2.2 then -1 else if x.1.2 > x.2.2 then 1 else 0⟩
theorem anp (x):A.bz (X5 IS.sh x) (ns.sh x):=A.bU λ_=>by
 unfold X5;simp only [aU.sh,IS,A.vm,A.aX]
abbrev IT:aU:=⟨.aG bp bp,dm,λ_=>True,λx=>decide (x.1<x.2)⟩
theorem anq (x):A.bz (X3 Bi.sh x) (IT.sh x):=A.bU λ_=>by
 unfold X3;simp [aU.sh,Bi]
abbrev PE:aU:=⟨.int .u64,bp,λx=>0<=x/\x<=12,λx=>(Ey x).val 0⟩
theorem anr (x):A.bz (Ey x) (PE.sh x):=A.bU λh=>by
 have key:∃ v,Ey x=A.pure v:=by
  change Int at x;change (0:Int)<=x/\x<=12 at h;unfold Ey;have aK:¬(x>=4294967296):=by omega
  have bq:¬(x>=65536):=by omega
  have cF:¬(x>=256):=by omega
  have hd:IntKind.wrap .u8 x=x:=by
   show (if (false&&decide (x % 2 ^ 8>=(2 ^ (8 - 1):Int)))=true then x % 2 ^ 8 - 2 ^ 8 else x % 2 ^ 8)=x;grind
  have qh:0<=x/\x<Int.ofNat 256:=⟨h.1,by grind⟩
  simp only [decide_eq_true_eq,aK,bq,cF,if_false,A.aX,A.bX,hd,A.ba qh];grind
 obtain ⟨v,aj⟩:=key;simp_all
abbrev IU:aU:=⟨.int .u64,bp,λx=>0<=x/\x<=12,λx=>(Ey x).val 0⟩
theorem ans (f) (x):A.bz (X2 f PE.sh x) (IU.sh x):=A.bU λh=>by
 unfold X2;simp only [aU.sh,A.cN];simp_all
end Go.Fer.H
namespace Go.Fer.H
open A (ab)
set_option linter.unusedVariables false
set_option linter.unusedSimpArgs false
section
variable {ao:Type} (d:ao) (lt:ao->ao->Bool)
def wQ (l:List ao):Nat->List ao
 | 0=>l
 | k+1=>if lt (l.getD (k+1) d) (l.getD k d)=true then wQ ((l.set (k+1) (l.getD k d)).set k (l.getD (k+1) d)) k else l
def qb (e:ao):List ao->List ao
 | []=>[e]
 | a::r=>if lt e a=true then a::qb e r else e::a::r
def va (l:List ao):List ao:=l.foldl (λr e=>qb lt e r) []
def hD (l:List ao):List ao:=(va lt l).reverse
theorem Yk:∀ (r:List ao) (e:ao) (R:List ao),wQ d lt (r.reverse++e::R) r.length=(qb lt e r).reverse++R
 | [],e,R=>rfl
 | a::r,e,R=>by
  have aK:((a::r).reverse++e::R).getD (r.length+1) d=e:=by
   simp
  have bq:((a::r).reverse++e::R).getD r.length d=a:=by
   simp
  show wQ d lt ((a::r).reverse++e::R) (r.length+1)=_;unfold wQ;rw [aK,bq];unfold qb;split
  ·have cF:(((a::r).reverse++e::R).set (r.length+1) a).set r.length e=r.reverse++e::(a::R):=by
    simp
   rw [cF,Yk r e (a::R)];simp
  ·simp
theorem PF (e:ao):∀ r:List ao,(qb lt e r).Perm (e::r)
 | []=>.refl _
 | a::r=>by
  unfold qb;split
  ·exact ((PF e r).cons a).trans (List.Perm.swap e a r)
  rfl
theorem Yl:∀ (l r:List ao),(l.foldl (λr e=>qb lt e r) r).Perm (l++r)
 | [],r=>.refl _
 | x::l,r=>by
  simp only [List.foldl_cons];refine (Yl l _).trans ?_;refine ((PF lt x r).append_left l).trans ?_;simp
theorem Ym (l:List ao):(va lt l).Perm l:=by
 have:=Yl lt l [];rwa [List.append_nil] at this
theorem EC (l:List ao):(hD lt l).Perm l:=(List.reverse_perm _).trans (Ym lt l)
theorem Yn (l:List ao):(va lt l).length=l.length:=(Ym lt l).length_eq
theorem PG (l:List ao):(hD lt l).length=l.length:=(EC lt l).length_eq
theorem ant {l:List ao} {x:ao}:x∈hD lt l<->x∈l:=(EC lt l).mem_iff
theorem anu (l:List ao) (e:ao):va lt (l++[e])=qb lt e (va lt l):=by simp [va]
def n1 (l:List ao) (n:Nat):List ao:=(va lt (l.take n)).reverse++l.drop n
theorem Yo (l:List ao):n1 lt l 1=l:=by
 cases l with
 | nil=>rfl
 | cons x l=>rfl
theorem Yp (l:List ao):n1 lt l l.length=hD lt l:=by simp [n1,hD]
theorem Yq (l:List ao) (n:Nat) (h:n<=l.length):(n1 lt l n).length=l.length:=by
 simp [n1,Yn,Nat.min_eq_left h];omega
theorem Yr {l:List ao} {n:Nat} (h:n<l.length):wQ d lt (n1 lt l n) n=n1 lt l (n+1):=by
 have aK:(va lt (l.take n)).length=n:=by rw [Yn];grind
 have:=Yk d lt (va lt (l.take n)) l[n] (l.drop (n+1));rw [aK] at this;unfold n1;rw [List.drop_eq_getElem_cons h,this,List.take_add_one,List.getElem?_eq_getElem h,Option.toList_some,anu]
theorem PH (cq:∀ a b,lt a b=false->lt b a=true\/lt b a=false) (a5:∀ a b c:ao,lt a b=false->lt b c=false->lt a c=false) (Ys:∀ a b,lt a b=true->lt b a=false) (e:ao):∀ r:List ao,r.Pairwise (λa b=>lt a b=false)->(qb lt e r).Pairwise (λa b=>lt a b=false)
 | [],_=>by simp [qb]
 | a::r,h=>by
  rw [List.pairwise_cons] at h;unfold qb;split
  ·rename_i he;refine List.pairwise_cons.2 ⟨λx au=>?_,PH cq a5 Ys e r h.2⟩;rcases List.mem_cons.1 ((PF lt e r).mem_iff.1 au) with rfl | au
   ·exact Ys _ _ he
   ·exact h.1 x au
  ·rename_i he;have he:lt e a=false:=by grind
   refine List.pairwise_cons.2 ⟨λx au=>?_,List.pairwise_cons.2 h⟩;grind
end
def hq (a b:Int):Bool:=decide (a<b)
def iJ (a b:ay):Bool:=decide (a.2<b.2)
theorem Yt:∀ (l r:List Int),r.Pairwise (λa b=>hq a b=false)->(l.foldl (λr e=>qb hq e r) r).Pairwise (λa b=>hq a b=false)
 | [],r,h=>h
 | x::l,r,h=>Yt l _ (PH hq (λa b _=>by simp) (λa b c M aa=>by simp [hq] at *;omega) (λa b h=>by simp [hq] at *;omega) x r h)
theorem Yu (l:List Int):(hD hq l).Pairwise (·<=·):=by
 have:=Yt l [] .nil;unfold hD;rw [List.pairwise_reverse];exact this.imp λh=>by simp [hq] at h;exact h
theorem Yv:∀ (l r:List ay),r.Pairwise (λa b=>iJ a b=false)->(l.foldl (λr e=>qb iJ e r) r).Pairwise (λa b=>iJ a b=false)
 | [],r,h=>h
 | x::l,r,h=>Yv l _ (PH iJ (λa b _=>by simp) (λa b c M aa=>by simp [iJ] at *;omega) (λa b h=>by simp [iJ] at *;omega) x r h)
theorem anv (l:List ay):(hD iJ l).Pairwise λa b=>a.2<=b.2:=by
 have:=Yv l [] .nil;unfold hD;rw [List.pairwise_reverse];exact this.imp λh=>by simp [iJ] at h;exact h
theorem Yw {l m:List Int} (h:m.Pairwise (·<=·)) (ar:l.Perm m):hD hq l=m:=
 List.Perm.eq_of_pairwise (λa b _ _ M aa=>by omega) (Yu l) h ((EC hq l).trans ar)
theorem Yx {l m:List Int} (ar:l.Perm m):hD hq l=hD hq m:=Yw (Yu m) (ar.trans (EC hq m).symm)
theorem Yy {ao:Type} {d:ao} {lt:ao->ao->Bool} {G aQ:Type} {body:G->A (ab G aQ)} {s0:G} (mk:Nat->List ao->G) (fin:List ao->aQ) (hR:Nat) (fT:List ao) (kt:s0=mk hR fT) (nD:hR<fT.length)
  (aA:∀ k l,l.length=fT.length->k<fT.length->body (mk k l)=A.pure (if 0<k/\lt (l.getD k d) (l.getD (k - 1) d)=true then .next (mk (k - 1) ((l.set k (l.getD (k - 1) d)).set (k - 1) (l.getD k d))) else .done (fin l))) :
  A.loop body s0=A.pure (fin (wQ d lt fT hR)):=by
 subst kt;have key:∀ k l,l.length=fT.length->k<fT.length->A.loop body (mk k l)=A.pure (fin (wQ d lt l k)):=by
  intro k;induction k with
  | zero=>
   intro l aw ak;exact A.wY (by rw [aA 0 l aw ak,if_neg (by simp)];rfl)
  | succ k aO=>
   intro l aw ak;unfold wQ;by_cases h:lt (l.getD (k+1) d) (l.getD k d)=true
   ·rw [if_pos h,A.Js (s':=mk k ((l.set (k+1) (l.getD k d)).set k (l.getD (k+1) d)))]
    ·exact aO _ (by simpa using aw) (by omega)
    ·rw [aA (k+1) l aw ak,if_pos ⟨by omega,h⟩];rfl
   ·rw [if_neg h];exact A.wY (by grind)
 grind
theorem PI {ao:Type} {l:List ao} {d:ao} {k:Nat}:l.getD ((k:Int) - 1).toNat d=l.getD (k - 1) d:=by
 simp
theorem Yz {ao:Type} {l:List ao} {d:ao} {k:Nat}:l.getD ((k:Int)).toNat d=l.getD k d:=by rfl
theorem YA {G aQ:Type} {c:Bool} {p:Prop} [Decidable p] (h:c=decide p) {x y:A (ab G aQ)} {a b:ab G aQ} (M:p->x=A.pure a) (aa:¬p->y=A.pure b):(if c=true then x else y)=A.pure (if p then a else b):=by
 grind
def IV (x:Int×Int×List Int×Unit):A (List Int×Unit):=A.eT (x.1=0/\x.2.1=(x.2.2.1.length:Int)/\x.2.2.1.length<=12) (hD hq x.2.2.1,())
theorem anw (x):A.bz (X' IT.sh x) (IV x):=A.bU λh=>by
 obtain ⟨a,b,l,u⟩:=x;obtain ⟨M,aa,an⟩:=h;change a=0 at M;change b=(l.length:Int) at aa;change l.length<=12 at an;subst M;subst aa;unfold X';rw [A.fv (List.range (l.length - 1)) (λi (_:Unit)=>(0,(l.length:Int),((i+1:Nat):Int),n1 hq l (i+1),())) (λ_ _=>.next ()) (λ_=>(hD hq l,())) () ?_ ?_ ?_]
 ·rw [g7]
 ·show (0,(l.length:Int),IntKind.wrap .i64 (Add.add 0 1),l,())=(0,(l.length:Int),((0+1:Nat):Int),n1 hq l (0+1),())
  rw [Yo];rfl
 ·intro i U _;have U:i+1<l.length:=by grind
  have aw:=Yq hq l (i+1) (by omega);have hw:=bF (n:=((i+1:Nat):Int)+1) (by omega) (by omega);have aN:decide (((i+1:Nat):Int)<(l.length:Int))=true:=by grind
  simp only [aN,if_true];rw [Yy (d:=0) (lt:=hq) (λk m=>(0,(l.length:Int),((i+1:Nat):Int),(k:Int),m,())) (λm=>.next (0,(l.length:Int),((i+1:Nat):Int),m,())) (i+1) (n1 hq l (i+1)) rfl (by omega) ?_]
  ·simp only [A.aX,A.bX,b',hw,Yr (0:Int) hq U];rfl
  ·intro k m hm ak;have kT:0<k->IntKind.wrap .i64 ((k:Int) - 1)=(k:Int) - 1:=λ_=>bF (by omega) (by omega);by_cases nD:0<k
   ·have ar:decide ((k:Int) > 0)=true:=by grind
    have b4:(0:Int)<=(k:Int)/\(k:Int)<Int.ofNat m.length:=⟨by omega,by grind⟩
    have ct:(0:Int)<=(k:Int) - 1/\(k:Int) - 1<Int.ofNat m.length:=⟨by omega,by omega⟩
    have fc:(0:Int)<=(k:Int) - 1/\(k:Int) - 1<Int.ofNat (m.set k (m.getD (k - 1) 0)).length:=⟨by omega,by grind⟩
    have Bj:((k:Int) - 1)=((k - 1:Nat):Int):=by omega
    simp only [ar,kT nD,b4,ct,forall_const,and_self,true_and,A.bL,aU.sh,IT,A.mg,A.hS,Bool.true_and,PI,Yz,Int.toNat_natCast,fc,A.aX];rw [show ((k:Int) - 1).toNat=k - 1 from by omega];refine YA (p:=0<k/\hq (m.getD k 0) (m.getD (k - 1) 0)=true) ?_ (λ_=>?_) (λ_=>rfl)
    ·simp [hq,nD]
    rw [Bj]
   simp_all
 ·intro _;have e:n1 hq l (l.length - 1+1)=hD hq l:=by
   cases l with
   | nil=>rfl
   | cons x r=>exact Yp hq (x::r)
  have aN:decide (((l.length - 1+1:Nat):Int)<(l.length:Int))=false:=by grind
  simp only [List.length_range,aN,Bool.false_eq_true,if_false,e,A.aX]
def IW (x:Int×Int×(ay×bk×Int->A Int)×List ay×Unit):A (List ay×Unit):=A.eT (x.1=0/\x.2.1=(x.2.2.2.1.length:Int)/\x.2.2.2.1.length<=12/\x.2.2.1=ns.sh) (hD iJ x.2.2.2.1,())
theorem anx (x):A.bz (Yb x) (IW x):=A.bU λh=>by
 obtain ⟨a,b,f,l,u⟩:=x;obtain ⟨M,aa,an,a8⟩:=h;change a=0 at M;change b=(l.length:Int) at aa;change l.length<=12 at an;change f=ns.sh at a8;subst M;subst aa;subst a8;unfold Yb;rw [A.fv (List.range (l.length - 1)) (λi (_:Unit)=>(0,(l.length:Int),ns.sh,((i+1:Nat):Int),n1 iJ l (i+1),())) (λ_ _=>.next ()) (λ_=>(hD iJ l,())) () ?_ ?_ ?_]
 ·rw [g7]
 ·show (0,(l.length:Int),ns.sh,IntKind.wrap .i64 (Add.add 0 1),l,())=(0,(l.length:Int),ns.sh,((0+1:Nat):Int),n1 iJ l (0+1),())
  rw [Yo];rfl
 ·intro i U _;have U:i+1<l.length:=by grind
  have aw:=Yq iJ l (i+1) (by omega);have hw:=bF (n:=((i+1:Nat):Int)+1) (by omega) (by omega);have aN:decide (((i+1:Nat):Int)<(l.length:Int))=true:=by grind
  simp only [aN,if_true];rw [Yy (d:=((0,0,0,0,0,0),0)) (lt:=iJ) (λk m=>(0,(l.length:Int),ns.sh,((i+1:Nat):Int),(k:Int),m,())) (λm=>.next (0,(l.length:Int),ns.sh,((i+1:Nat):Int),m,())) (i+1) (n1 iJ l (i+1)) rfl (by omega) ?_]
  ·simp only [A.aX,A.bX,b',hw,Yr ((0,0,0,0,0,0),0) iJ U];rfl
  ·intro k m hm ak;have kT:0<k->IntKind.wrap .i64 ((k:Int) - 1)=(k:Int) - 1:=λ_=>bF (by omega) (by omega);by_cases nD:0<k
   ·have ar:decide ((k:Int) > 0)=true:=by grind
    have b4:(0:Int)<=(k:Int)/\(k:Int)<Int.ofNat m.length:=⟨by omega,by grind⟩
    have ct:(0:Int)<=(k:Int) - 1/\(k:Int) - 1<Int.ofNat m.length:=⟨by omega,by omega⟩
    have fc:(0:Int)<=(k:Int) - 1/\(k:Int) - 1<Int.ofNat (m.set k (m.getD (k - 1) ((0,0,0,0,0,0),0))).length:=⟨by omega,by grind⟩
    have Bj:((k:Int) - 1)=((k - 1:Nat):Int):=by omega
    simp only [ar,kT nD,b4,ct,forall_const,and_self,true_and,A.bL,aU.sh,ns,A.vm,A.sT,A.aX,if_true,Bool.true_and,PI,Yz,Int.toNat_natCast,fc];rw [show ((k:Int) - 1).toNat=k - 1 from by omega];refine YA (p:=0<k/\iJ (m.getD k ((0,0,0,0,0,0),0)) (m.getD (k - 1) ((0,0,0,0,0,0),0))=true) ?_ (λ_=>?_) (λ_=>rfl)
    ·rw [Bool.eq_iff_iff];simp only [iJ,nD,true_and,decide_eq_true_eq];grind
    rw [Bj]
   ·have anz:k=0:=by omega
    subst anz;simp [cJ]
 ·intro _;have e:n1 iJ l (l.length - 1+1)=hD iJ l:=by
   cases l with
   | nil=>rfl
   | cons x r=>exact Yp iJ (x::r)
  have aN:decide (((l.length - 1+1:Nat):Int)<(l.length:Int))=false:=by grind
  simp only [List.length_range,aN,Bool.false_eq_true,if_false,e,A.aX]
def IX (x:Int×Int×Int×List Int×Unit):A (List Int×Unit):=A.eT (x.1=0/\x.2.1=(x.2.2.2.1.length:Int)/\x.2.2.2.1.length<=12) (hD hq x.2.2.2.1,())
theorem anA (x):A.bz (Ye IV x) (IX x):=A.bU λh=>by
 obtain ⟨a,b,c,l,u⟩:=x;obtain ⟨M,aa,an⟩:=h;change a=0 at M;change b=(l.length:Int) at aa;change l.length<=12 at an;subst M;subst aa;unfold Ye;refine A.wY ?_;have hw:=bF (n:=(l.length:Int) - 0) (by omega) (by omega);have aN:decide ((l.length:Int) - 0<=12)=true:=by grind
 simp only [hw,aN,if_true];unfold IV;simp_all
def IY (x:Int×Int×Int×(ay×bk×Int->A Int)×List ay×Unit):A (List ay×Unit):=A.eT (x.1=0/\x.2.1=(x.2.2.2.2.1.length:Int)/\x.2.2.2.2.1.length<=12/\x.2.2.2.1=ns.sh) (hD iJ x.2.2.2.2.1,())
theorem anB (x):A.bz (Yf IW x) (IY x):=A.bU λh=>by
 obtain ⟨a,b,c,f,l,u⟩:=x;obtain ⟨M,aa,an,a8⟩:=h;change a=0 at M;change b=(l.length:Int) at aa;change l.length<=12 at an;change f=ns.sh at a8;subst M;subst aa;subst a8;unfold Yf;refine A.wY ?_;have hw:=bF (n:=(l.length:Int) - 0) (by omega) (by omega);have aN:decide ((l.length:Int) - 0<=12)=true:=by grind
 simp only [hw,aN,if_true];unfold IW;simp_all
theorem YB {n:Int} (h:0<=n) (aa:n<=12):IntKind.wrap .u64 n=n:=by
 show (if (false&&decide (n % 2 ^ 64>=(2 ^ (64 - 1):Int)))=true then n % 2 ^ 64 - 2 ^ 64 else n % 2 ^ 64)=n;grind
def IZ (x:List Int×Unit):A (List Int×Unit):=A.eT (x.1.length<=12) (hD hq x.1,())
theorem anC (x):A.bz (Yh IX IU.sh x) (IZ x):=A.bU λh=>by
 obtain ⟨l,u⟩:=x;change l.length<=12 at h;unfold Yh;have hw:=YB (n:=(l.length:Int)) (by omega) (by omega);show A.bind (A.eT (0<=IntKind.wrap .u64 (l.length:Int)/\IntKind.wrap .u64 (l.length:Int)<=12) _) _=_;rw [A.cN,A.ba (by omega)];unfold IX;simp_all
def ED (x:(ay×bk×Int->A Int)×List ay×Unit):A (List ay×Unit):=A.eT (x.2.1.length<=12/\x.1=ns.sh) (hD iJ x.2.1,())
theorem anD (x):A.bz (Yi IU.sh IY x) (ED x):=A.bU λh=>by
 obtain ⟨f,l,u⟩:=x;obtain ⟨h,a8⟩:=h;change l.length<=12 at h;change f=ns.sh at a8;subst a8;unfold Yi;have hw:=YB (n:=(l.length:Int)) (by omega) (by omega);show A.bind (A.eT (0<=IntKind.wrap .u64 (l.length:Int)/\IntKind.wrap .u64 (l.length:Int)<=12) _) _=_;rw [A.cN,A.ba (by omega)];unfold IY;simp_all
def Bk (x:(List Int->Prop)×Unit):A (List Int×Unit):=⟨(∃ L,x.1 L)/\∀ L,x.1 L->L.length<60000,λy=>x.1 y.1⟩
theorem YC:∀ (L acc:List Int),L.length+acc.length<60000->ju (λ(G:List Int×Unit) (y:Int)=>A.bind (A.ah (bT (Add.add (List.length G.1) (Add.add 0 1))) (A.pure (dc.normal,G.1++[y],()))) λp=>A.pure (p.1,p.2.1,())) L (acc,())=A.pure (.normal,acc++L,())
 | [],acc,_=>by simp [ju]
 | x::L,acc,h=>by
  simp only [List.length_cons] at h;unfold ju;rw [A.ba (Bh (by grind))];simp only [A.aX];rw [YC L (acc++[x]) (by grind)];simp
theorem anE (x):A.bz (X8 x) (Bk x):=λh=>by
 obtain ⟨S,u⟩:=x;obtain ⟨M,aa⟩:=h;show A.cp _ _;unfold X8;rw [A.gf];refine ⟨M,λL kr=>?_⟩;have kr:S L:=kr;show A.cp (A.bind (ju _ L ([],())) _) _;rw [YC L [] (by grind)];simp only [A.aX,qy,List.nil_append];exact A.ez.2 kr
theorem anF (x):A.bz (X9 Bk x) (Bk x):=λh=>by
 obtain ⟨S,u⟩:=x;show A.cp _ _;unfold X9;rw [A.gf];exact ⟨h,λy aJ=>A.ez.2 aJ⟩
open Classical in
def Bl (S:List Int->Prop):List Int:=if h:∃ L,S L then hD hq h.choose else []
abbrev wR:aU:=⟨.cj bp,hl,λS=>(∃ L,S L)/\(∀ L fx,S L->S fx->L.Perm fx)/\∀ L,S L->L.length<=12,λS=>Bl S⟩
theorem anG (x):A.bz (XN IZ Bk x) (wR.sh x):=A.x0 λh=>by
 obtain ⟨M,aa,an⟩:=h;unfold XN;rw [A.gf];refine ⟨⟨M,λL kr=>by grind⟩,λy aJ=>?_⟩;have aJ:x y.1:=aJ;unfold IZ;show A.cp (A.bind (A.eT _ _) _) _;rw [A.cN,A.mx];refine ⟨an _ aJ,A.ez.2 ?_⟩;show hD hq y.1=Bl x;unfold Bl;rw [dif_pos M];exact Yx (aa _ _ aJ M.choose_spec)
theorem anH {S:List Int->Prop} {L:List Int} (h:S L) (aa:∀ L fx,S L->S fx->L.Perm fx):Bl S=hD hq L:=by
 have M:∃ L,S L:=⟨L,h⟩
 unfold Bl;rw [dif_pos M];exact Yx (aa _ _ M.choose_spec h)
def oF {ao:Type} (x:Option (List (Int×ao))) (L:List Int):Prop:=∃ m,x=some m/\(m.map (·.1)).Perm L
abbrev yU:aU:=⟨.map bp jU,.cj bp,λ_=>True,λx=>oF (some x)⟩
theorem anI (x):A.bz (amZ oF x) (yU.sh x):=A.bU λ_=>rfl
theorem vb {ao:Type} {m:List (Int×ao)} {L:List Int}:oF (some m) L<->(m.map (·.1)).Perm L:=⟨λ⟨dI,h,k⟩=>by grind,λh=>⟨m,rfl,h⟩⟩
theorem anJ {ao:Type} {m:List (Int×ao)} (h:m.length<=12):wR.pre (oF (some m)):=
 ⟨⟨_,vb.2 (.refl _)⟩,λL fx M aa=>(vb.1 M).symm.trans (vb.1 aa),λL kr=>by rw [<-(vb.1 kr).length_eq];grind⟩
theorem anK {ao:Type} {m:List (Int×ao)}:Bl (oF (some m))=hD hq (m.map (·.1)):=
 anH (vb.2 (.refl _)) λL fx M aa=>(vb.1 M).symm.trans (vb.1 aa)
end Go.Fer.H
namespace Go.Fer.H
open A (ab)
set_option linter.unusedVariables false
set_option linter.unusedSimpArgs false
def Bm (s:Int×Int):Bool:=c5 s.1 (-30) s.2&&!decide (s.2 > 30)
def yV (l:List (Int×Int)) (i:Nat):Bool:=c5 (l.getD i (0,0)).1 0 (l.getD i (0,0)).2&&!decide ((l.getD i (0,0)).2 > 9999)&&!(decide (0<i)&&decide ((l.getD i (0,0)).1<=(l.getD (i - 1) (0,0)).2))
def EE (l:List (Int×Int)):Bool:=(List.range l.length).all (yV l)
def EF (c:b6):Bool:=!(decide ((c.1.length:Int) > 3)||decide ((c.2.1.length:Int) > 12)||decide ((c.2.2.1.length:Int) > 12)||decide ((c.2.2.2.1.length:Int) > 4))&&tk c.2.2.2.2
def tl (c:b6):Bool:=EF c&&c.1.all Bm&&c.2.1.all (pg c.1.length)&&c.2.2.1.all (λn=>c5 n 0 99)&&EE c.2.2.2.1
abbrev I0:aU:=⟨p_,dm,IM,λc=>tl c⟩
theorem YD {G aQ β:Type} {mk:β->G} {b:β} {q:Bool} {r:aQ} {m:A (ab G aQ)} (M:q=true->m=A.pure (.next (mk b))) (aa:q=false->m=A.pure (.done r)):m=A.pure (ab.h' mk (if (!q)=true then .done r else .next b)):=by
 cases q
 ·exact aa rfl
 ·exact M rfl
theorem anL {ao:Type} {a t:Bool} {m n:ao}:(if (a||!(if (!a)=true then t else false))=true then m else n)=if (!a&&t)=true then n else m:=by grind
theorem YE {ao:Type} {p:ao->Bool} (l:List ao):(l.any λy=>!p y)=!l.all p:=by grind
theorem anM (x):A.bz (XT cA.sh (jz jU).sh IN.sh (jz bp).sh EB.sh Bg.sh x) (I0.sh x):=A.bU λh=>by
 obtain ⟨aS,aY,bK,fe⟩:=h;unfold XT;show _=A.pure (tl x);simp only [show IN.sh x.2.2.2.2=A.pure (tk x.2.2.2.2) from rfl,A.sT,A.aX,cc,anL];unfold tl;rw [show (!(decide ((x.1.length:Int) > 3)||decide ((x.2.1.length:Int) > 12)||decide ((x.2.2.1.length:Int) > 12)||decide ((x.2.2.2.1.length:Int) > 4))&&tk x.2.2.2.2)=EF x from rfl];cases af:EF x with
 | false=>rfl
 | true=>
  rw [if_pos rfl];rw [A.fv x.1 (λi (_:Unit)=>(x.1,(x.1.length:Int),(i:Int),x,())) (λy b=>if (!Bm y)=true then .done (.done false) else .next b) (λ_=>.next (x,())) () ?_ ?_ ?_]
  ·rw [lS (q:=Bm) _ _ (λ_=>rfl)];cases hc:x.1.all Bm with
   | false=>simp
   | true=>
    simp only [if_true,A.aX,A.bX];rw [A.fv (List.range x.2.2.2.1.length) (λi (_:Unit)=>(x.2.2.2.1,(x.2.2.2.1.length:Int),(i:Int),x,())) (λy b=>if (!yV x.2.2.2.1 y)=true then .done (.done false) else .next b) (λ_=>.next (x,())) () ?_ ?_ ?_]
    ·rw [lS (q:=yV x.2.2.2.1) _ _ (λ_=>rfl)];unfold EE;cases aN:(List.range x.2.2.2.1.length).all (yV x.2.2.2.1) with
     | false=>simp
     | true=>
      simp only [if_true,A.aX,A.bX];have aK:(jz jU).sh (x.2.1,λy=>EB.sh (y,some x))=A.pure (!x.2.1.all (pg x.1.length)):=by
       have ax:∀ y,EB.sh (y,some x)=A.pure (!pg x.1.length y):=λy=>A.eZ ⟨x,rfl,aS⟩ _;refine (A.eZ ⟨aY,λy _=>⟨_,ax y⟩⟩ _).trans ?_;refine congrArg A.pure ?_;rw [<-YE];simp_all
      have bq:(jz bp).sh (x.2.2.1,Bg.sh)=A.pure (!x.2.2.1.all (λn=>c5 n 0 99)):=by
       refine (A.eZ ⟨bK,λy _=>⟨_,rfl⟩⟩ _).trans ?_;refine congrArg A.pure ?_;rw [<-YE];show (x.2.2.1.any λy=>(Bg.sh y).val false)=_;simp only [show ∀ y,Bg.sh y=A.pure (!c5 y 0 99) from λ_=>rfl,A.nN]
      rw [aK,bq];simp only [A.aX,A.sT];grind
    ·rfl
    ·intro i U b;have U:i<x.2.2.2.1.length:=by grind
     have hw:=bF (n:=(i:Int)+1) (by omega) (by omega);have kT:=bF (n:=(i:Int) - 1) (by omega) (by omega);have ke:x.2.2.2.1.getD i (0,0)=x.2.2.2.1[i]:=by grind
     have D5:(decide ((i:Int) > 0))=decide (0<i):=by simp
     have W:decide (0<i)=true->((0:Int)<=(i:Int) - 1/\(i:Int) - 1<(x.2.2.2.1.length:Int)):=λh=>by grind
     refine YD (mk:=λ(_:Unit)=>(x.2.2.2.1,(x.2.2.2.1.length:Int),((i+1:Nat):Int),x,())) (b:=b) ?_ ?_<;>intro bt<;>
     ·simp only [List.getElem_range,yV,ke] at bt;simp only [cc,dn U,if_true,en U,dd U,A.bL,aU.sh,cA,A.vm,A.Ql,A.nN,b',hw,kT,D5,PI,List.getElem_range];revert bt;generalize c5 x.2.2.2.1[i].1 0 x.2.2.2.1[i].2=e0;generalize decide (x.2.2.2.1[i].2 > 9999)=gE;generalize decide (x.2.2.2.1[i].1<=(x.2.2.2.1.getD (i - 1) (0,0)).2)=jN;revert W;generalize decide (0<i)=vS;intro W;cases vS
      ·cases e0<;>cases gE<;>cases jN<;>simp
      ·have W:=W rfl;cases e0<;>cases gE<;>cases jN<;>simp [W,(by omega:(1:Int)<=(i:Int))]
    simp
  ·rfl
  ·intro i U b;have hw:=bF (n:=(i:Int)+1) (by omega) (by omega);refine YD (mk:=λ(_:Unit)=>(x.1,(x.1.length:Int),((i+1:Nat):Int),x,())) (b:=b) ?_ ?_<;>intro bt<;>
   ·simp only [Bm] at bt;simp only [cc,dn U,if_true,en U,dd U,A.bL,aU.sh,cA,A.vm,A.aX,b',hw];grind
  simp
end Go.Fer.H
namespace Go.Fer.H
open A (ab)
set_option linter.unusedVariables false
set_option linter.unusedSimpArgs false
abbrev n2:bk:=(0,0,0,0,0,0)
def ra (l:List bk):Bool:=(List.range l.length).any λi=>(List.range i).any λk=>Yj (l.getD k n2) (l.getD i n2)
def eH (c:b6):Int:=if tl c=true then (if ra c.2.1=true then 91 else 0) else 90
abbrev mT:aU:=⟨p_,bp,IM,λc=>eH c⟩
theorem vc {ao:Type} {l:List ao} {i:Nat} {d:ao} (h:i<l.length):l.getD i d=l[i]:=by grind
def k1 (l:List bk):List bk:=(iE 0 99).filterMap λid=>l.find? λs=>s.1 == id
def gI (c:b6):List bk:=(k1 c.2.1).filter λs=>!c.2.2.1.contains s.1
theorem anN (l:List bk):(k1 l).length<=100:=by
 refine Nat.le_trans (List.length_filterMap_le _ _) ?_;rw [show (iE 0 99).length=100 from by decide];omega
end Go.Fer.H
namespace Go.Fer.H
open A (ab)
set_option linter.unusedVariables false
set_option linter.unusedSimpArgs false
def ki (m:List (Int×bk)) (k:Int):Option bk:=(m.find? λp=>decide (k=p.1)).map (·.2)
def jV (m:List (Int×bk)):List Int:=m.map (·.1)
theorem PJ (p:Int×bk) (m:List (Int×bk)) (k:Int) (v:bk):lX (p::m) k v=if decide (k=p.1)=true then (p.1,v)::m else p::lX m k v:=rfl
theorem PK (k:Int) (v:bk):lX [] k v=[(k,v)]:=rfl
theorem YF (k:Int) (v:bk):∀ m:List (Int×bk),(lX m k v).length<=m.length+1
 | []=>by rw [PK];simp
 | p::m=>by
  rw [PJ];split
  ·simp
  ·simp;exact YF k v m
theorem PL (k:Int) (v:bk) (x:Int):∀ m:List (Int×bk),ki (lX m k v) x=if x=k then some v else ki m x
 | []=>by
  rw [PK];by_cases h:x=k<;>simp [ki,h]
 | p::m=>by
  rw [PJ];have aO:=PL k v x m;unfold ki at aO ⊢;grind
theorem EG (k:Int) (v:bk):∀ m:List (Int×bk),((jV m).Nodup->(jV (lX m k v)).Nodup)/\∀ x,x∈jV (lX m k v)<->x∈jV m\/x=k
 | []=>by rw [PK];simp [jV]
 | p::m=>by
  obtain ⟨M,aa⟩:=EG k v m;rw [PJ];by_cases h:k=p.1
  ·subst h;simp only [decide_true,if_true];refine ⟨λh=>h,λx=>?_⟩;show x∈p.1::jV m<->x∈p.1::jV m\/x=p.1;grind
  ·simp only [h,decide_false,Bool.false_eq_true,if_false];refine ⟨λaI=>?_,λx=>?_⟩
   ·show (p.1::jV (lX m k v)).Nodup;have tW:(p.1::jV m).Nodup:=aI;grind
   ·show x∈p.1::jV (lX m k v)<->x∈p.1::jV m\/x=k;grind
theorem YG {m:List (Int×bk)} {k:Int}:k∈jV m<->(ki m k).isSome=true:=by
 unfold ki jV;simp
def Bn (l:List bk):Prop:=∀ a∈l,∀ b∈l,a.1=b.1->a=b
def rb (l:List bk) (k:Int):Option bk:=l.find? λs=>s.1 == k
def r_:List bk->List (Int×bk)->Option (List (Int×bk))
 | [],m=>some m
 | s::l,m=>if ((ki m s.1).isSome&&!decide ((ki m s.1).getD n2=s))=true then none else r_ l (lX m s.1 s)
structure vd (P:List bk) (m:List (Int×bk)):Prop where
 o3:∀ k,ki m k=rb P k
 nM:(jV m).Nodup
 Bo:Bn P
 EH:m.length<=P.length
theorem YH {l:List bk} {k:Int} {s:bk} (h:rb l k=some s):s∈l/\s.1=k:=by
 unfold rb at h;grind
theorem anO {l:List bk} {k:Int} (h:rb l k=none):∀ s∈l,s.1≠k:=by
 unfold rb at h;grind
theorem vd.nil:vd [] []:=⟨λ_=>rfl,.nil,λa h=>by simp,Nat.le_refl _⟩
theorem Bp:∀ (l P:List bk) (m:List (Int×bk)),vd P m->(Bn (P++l)->∃ dI,r_ l m=some dI/\vd (P++l) dI)/\(¬Bn (P++l)->r_ l m=none)
 | [],P,m,h=>by simp only [List.append_nil];exact ⟨λ_=>⟨m,rfl,h⟩,λaI=>absurd h.Bo aI⟩
 | s::l,P,m,h=>by
  unfold r_;rw [h.o3];cases ax:rb P s.1 with
  | some o=>
   obtain ⟨al,U⟩:=YH ax;by_cases he:o=s
   ·subst he;simp only [Option.isSome_some,Option.getD_some,decide_true,Bool.not_true,Bool.and_false,Bool.false_eq_true,if_false];have:=Bp l (P++[o]) (lX m o.1 o) ⟨λk=>?_,(EG _ _ _).1 h.nM,?_,?_⟩
    ·grind
    ·rw [PL,h.o3];unfold rb at ax ⊢;grind
    ·intro a bf b af u_;simp only [List.mem_append,List.mem_singleton] at bf af;exact h.Bo a (bf.elim id λe=>e ▸ al) b (af.elim id λe=>e ▸ al) u_
    ·have hm:o.1∈jV m:=YG.2 (by rw [h.o3,ax];rfl);have aw:(jV (lX m o.1 o)).length<=(jV m).length:=by
      have M:=(EG o.1 o m).1 h.nM;have aa:jV (lX m o.1 o) ⊆ jV m:=λx au=>by
       rcases ((EG o.1 o m).2 x).1 au with au | au
       ·exact au
       ·exact au ▸ hm
      exact M.length_le_of_subset aa
     have:=h.EH;simp only [jV,List.length_map] at aw;grind
   ·simp only [Option.isSome_some,Option.getD_some,he,decide_false,Bool.not_false,Bool.and_self,if_true];refine ⟨λaI=>absurd (aI o (by grind) s (by simp) U) he,λ_=>trivial⟩
  | none=>
   simp only [Option.isSome_none,Bool.false_and,Bool.false_eq_true,if_false];have:=Bp l (P++[s]) (lX m s.1 s) ⟨λk=>?_,(EG _ _ _).1 h.nM,?_,?_⟩
   ·grind
   ·rw [PL,h.o3];have rN:=ax;unfold rb at ax ⊢;grind
   ·have ax:=anO ax;intro a bf b af u_;simp only [List.mem_append,List.mem_singleton] at bf af;rcases bf with bf | rfl<;>rcases af with af | rfl
    ·exact h.Bo a bf b af u_
    ·exact absurd u_ (ax a bf)
    ·exact absurd u_.symm (ax b af)
    ·rfl
   ·have:=YF s.1 s m;have:=h.EH;grind
theorem I1 (l:List bk):ra l=false<->Bn l:=by
 unfold ra Yj;rw [<-Bool.not_eq_true,List.any_eq_true];constructor
 ·intro h a bf b af u_;obtain ⟨i,U,rfl⟩:=List.mem_iff_getElem.1 bf;obtain ⟨k,ak,rfl⟩:=List.mem_iff_getElem.1 af;by_cases he:l[i]=l[k]
  ·exact he
  ·exfalso;have cI:i≠k:=λe=>he (by grind);rcases Nat.lt_or_gt_of_ne cI with cq | cq
   ·refine h ⟨k,by grind,List.any_eq_true.2 ⟨i,by grind,?_⟩⟩;grind
   ·refine h ⟨i,by grind,List.any_eq_true.2 ⟨k,by grind,?_⟩⟩;grind
 ·rintro h ⟨i,U,ak⟩;obtain ⟨k,ak,hc⟩:=List.any_eq_true.1 ak;simp only [List.mem_range] at U ak;rw [vc U,vc (by omega:k<l.length)] at hc;simp only [Bool.and_eq_true,decide_eq_true_eq,Bool.not_eq_true',decide_eq_false_iff_not] at hc;exact hc.2 (h _ (List.getElem_mem _) _ (List.getElem_mem _) hc.1)
theorem anP {l:List bk}:ra l=true<->¬Bn l:=by rw [<-I1];simp
theorem YI {l:List bk} {m:List (Int×bk)} (h:vd l m) (qA:∀ s∈l,c5 s.1 0 99=true):(hD hq (jV m)).map (λk=>(ki m k).getD n2)=k1 l:=by
 have aK:hD hq (jV m)=(iE 0 99).filter λk=>(rb l k).isSome:=by
  refine Yw ?_ ?_
  ·refine List.Pairwise.filter _ ?_;unfold iE;rw [List.pairwise_map];exact (List.pairwise_lt_range).imp λh=>by omega
  ·refine (List.perm_ext_iff_of_nodup h.nM ?_).2 λk=>?_
   ·refine List.Pairwise.filter _ ?_;unfold iE;rw [List.pairwise_map];exact (List.pairwise_lt_range).imp λh=>by omega
   ·rw [YG,h.o3,List.mem_filter,Ao];refine ⟨λaA=>⟨?_,aA⟩,λaA=>aA.2⟩;obtain ⟨s,aA⟩:=Option.isSome_iff_exists.1 aA;obtain ⟨M,aa⟩:=YH aA;exact aa ▸ yT.1 (qA s M)
 rw [aK];unfold k1;have:∀ L:List Int,(L.filter λk=>(rb l k).isSome).map (λk=>(ki m k).getD n2)=L.filterMap λid=>l.find? λs=>s.1 == id:=by
  intro L;induction L with
  | nil=>rfl
  | cons k L aO=>
   rw [List.filter_cons,List.filterMap_cons];have e:(l.find? λs=>s.1 == k)=rb l k:=rfl;rw [e];cases ax:rb l k with
   | none=>grind
   | some s=>
    have atL:(ki m k).getD n2=s:=by rw [h.o3,ax];rfl
    grind
 grind
theorem anQ {l:List bk} {m:List (Int×bk)} (h:vd l m) (qA:∀ s∈l,c5 s.1 0 99=true):(k1 l).length<=l.length:=by
 rw [<-YI h qA,List.length_map,PG,jV,List.length_map];exact h.EH
theorem YJ {aQ:Type} {r:aQ} {fin:List (Int×bk)->aQ}:∀ (l:List bk) (m:List (Int×bk)),gO (λs m=>if ((ki m s.1).isSome&&!decide ((ki m s.1).getD n2=s))=true then .done r else .next (lX m s.1 s)) fin l m=match r_ l m with | none=>r | some dI=>fin dI
 | [],m=>rfl
 | s::l,m=>by
  simp only [gO,r_];by_cases h:((ki m s.1).isSome&&!decide ((ki m s.1).getD n2=s))=true
  ·grind
  ·simp only [h,Bool.false_eq_true,if_false];exact YJ l _
def Bq (l:List bk):Prop:=l.length<=12/\∀ s∈l,c5 s.1 0 99=true
abbrev I2:aU:=⟨.slice jU,.aG (.slice jU) .bool,Bq,λl=>if ra l=true then ([],false) else (k1 l,true)⟩
theorem anR {m:List (Int×bk)} {iV:List Int} {aQ:Type} (h:iV.length<=12) :
 A.loop (λ(G:List Int×Int×Int×List bk×List (Int×bk)×Unit)=>if decide (G.2.2.1<G.2.1)=true then A.ah (0<=G.2.2.1/\G.2.2.1<Int.ofNat (List.length G.1)) (A.ah (bT
 (Add.add (List.length G.2.2.2.1) (Add.add 0 1))) (A.pure (ab.next (G.1,G.2.1,IntKind.wrap .i64 (Add.add G.2.2.1 1),G.2.2.2.1++[Option.getD
 (Option.map (λx=>x.2) (List.find? (λp=>decide (List.getD G.1 (Int.toNat G.2.2.1) 0=p.1)) G.2.2.2.2.1)) (0,0,0,0,0,0)],G.2.2.2.2.1,())))) else A.bind (A.pure (ab.next (G.2.2.2.1,()))) λr=>A.pure (ab.done r)) (iV,Int.ofNat (List.length iV),0,[],m,())=A.pure (ab.next (iV.map (λk=>(ki m k).getD n2),()):ab (List bk×Unit) aQ):=by
 rw [A.hT iV (λi (b:List bk)=>(iV,(iV.length:Int),(i:Int),b,m,())) (λk b=>.next (b++[(ki m k).getD n2])) (λb=>.next (b,())) (λi b=>b.length=i) [] ?_ ?_ ?_ ?_]
 ·rw [g7,x1];rfl
 ·rfl
 ·rfl
 ·intro i U b af;have hw:=bF (n:=(i:Int)+1) (by omega) (by omega);refine ⟨?_,λbg dq=>?_⟩
  ·simp only [cc,dn U,if_true,en U,dd U,A.bL,b',hw];rw [A.ba (Bh (by grind))];rfl
  grind
 simp
def tm {gJ:Type} (R:A gJ):List bk×Int×Int×List (Int×bk)×Unit->A (ab (List bk×Int×Int×List (Int×bk)×Unit) (ab (List (Int×bk)×Unit) gJ)):=λ(G:List bk×Int×Int×List (Int×bk)×Unit)=>if decide (G.2.2.1<G.2.1)=true then A.ah (0<=G.2.2.1/\G.2.2.1 <
 Int.ofNat (List.length G.1)) (if (Option.isSome (Option.map (λx=>x.2) (List.find? (λp=>decide ((List.getD G.1 (Int.toNat G.2.2.1) (0,0,0,0,0,0)).1=p.1)) G.2.2.2.1))&&!(decide ((Option.getD (Option.map (λx=>x.2) (List.find? (λp=>decide ((List.getD G.1 (Int.toNat G.2.2.1)
 (0,0,0,0,0,0)).1=p.1)) G.2.2.2.1)) (0,0,0,0,0,0)).1=(List.getD G.1 (Int.toNat G.2.2.1) (0,0,0,0,0,0)).1)&&(decide ((Option.getD
 (Option.map (λx=>x.2) (List.find? (λp=>decide ((List.getD G.1 (Int.toNat G.2.2.1) (0,0,0,0,0,0)).1=p.1)) G.2.2.2.1)) (0,0,0,0,0,0)).2.1=(List.getD G.1 (Int.toNat G.2.2.1) (0,0,0,0,0,0)).2.1)&&(decide ((Option.getD (Option.map (λx=>x.2) (List.find? (λp=>
 decide ((List.getD G.1 (Int.toNat G.2.2.1) (0,0,0,0,0,0)).1=p.1)) G.2.2.2.1)) (0,0,0,0,0,0)).2.2.1=(List.getD G.1 (Int.toNat G.2.2.1)
 (0,0,0,0,0,0)).2.2.1)&&(decide ((Option.getD (Option.map (λx=>x.2) (List.find? (λp=>decide ((List.getD G.1 (Int.toNat G.2.2.1) (0,0,0,0,0,0)).1=p.1)) G.2.2.2.1)) (0,0,0,0,0,0)).2.2.2.1=(List.getD G.1 (Int.toNat G.2.2.1) (0,0,0,0,0,0)).2.2.2.1)&&(decide
 ((Option.getD (Option.map (λx=>x.2) (List.find? (λp=>decide ((List.getD G.1 (Int.toNat G.2.2.1) (0,0,0,0,0,0)).1=p.1)) G.2.2.2.1))
 (0,0,0,0,0,0)).2.2.2.2.1=(List.getD G.1 (Int.toNat G.2.2.1) (0,0,0,0,0,0)).2.2.2.2.1)&&decide ((Option.getD (Option.map (λx=>x.2)
 (List.find? (λp=>decide ((List.getD G.1 (Int.toNat G.2.2.1) (0,0,0,0,0,0)).1=p.1)) G.2.2.2.1)) (0,0,0,0,0,0)).2.2.2.2.2=(List.getD
 G.1 (Int.toNat G.2.2.1) (0,0,0,0,0,0)).2.2.2.2.2)))))))=true then A.bind (A.bind R λr=>A.pure (ab.done r)) λr=>
 A.pure (ab.done r) else A.pure (ab.next (G.1,G.2.1,IntKind.wrap .i64 (Add.add G.2.2.1 1),lX G.2.2.2.1 (List.getD G.1 (Int.toNat G.2.2.1)
 (0,0,0,0,0,0)).1 (List.getD G.1 (Int.toNat G.2.2.1) (0,0,0,0,0,0)),()))) else A.bind (A.pure (ab.next (G.2.2.2.1,()))) λr=>A.pure
 (ab.done r)
theorem YK {gJ:Type} {R:A gJ} {l:List bk} (aw:l.length<=12) {i:Nat} (U:i<l.length) (m:List (Int×bk)):tm R (l,(l.length:Int),(i:Int),m,())=if ((ki m l[i].1).isSome&&!decide ((ki m l[i].1).getD n2=l[i]))=true then A.bind (A.bind R λr=>A.pure (ab.done r)) λr=>A.pure (ab.done r) else A.pure (.next (l,(l.length:Int),((i+1:Nat):Int),lX m l[i].1 l[i],())):=by
 have hw:=bF (n:=(i:Int)+1) (by omega) (by omega);have es:=anh ((ki m l[i].1).getD n2) l[i];unfold tm;simp only [cc,dn U,if_true,en U,dd U,A.bL,b',hw];rw [show (Option.map (λx=>x.2) (List.find? (λp=>decide (l[i].1=p.1)) m))=ki m l[i].1 from rfl];grind
theorem YL {gJ:Type} {R:A gJ} {l:List bk} (m:List (Int×bk)):tm R (l,(l.length:Int),(l.length:Int),m,())=A.pure (.done (.next (m,()))):=by
 unfold tm;simp
def Br {gJ:Type} (k:List bk->A gJ):List (Int×bk)×Unit->A gJ:=λ(G:List (Int×bk)×Unit)=>A.bind (A.bind
 (yU.sh G.1) λy=>A.bind (wR.sh y) λy=>A.loop (λ(G:List Int×Int×Int×List bk×
 List (Int×bk)×Unit)=>if decide (G.2.2.1<G.2.1)=true then A.ah (0<=G.2.2.1/\G.2.2.1<Int.ofNat (List.length G.1)) (A.ah (bT
 (Add.add (List.length G.2.2.2.1) (Add.add 0 1))) (A.pure (ab.next (G.1,G.2.1,IntKind.wrap .i64 (Add.add G.2.2.1 1),G.2.2.2.1++[Option.getD
 (Option.map (λx=>x.2) (List.find? (λp=>decide (List.getD G.1 (Int.toNat G.2.2.1) 0=p.1)) G.2.2.2.2.1)) (0,0,0,0,0,0)],G.2.2.2.2.1,())))) else A.bind (A.pure (ab.next (G.2.2.2.1,()))) λr=>A.pure (ab.done r)) (y,Int.ofNat (List.length y),0,[],G.1,())) (ab.bx λ(G
 : List bk×Unit)=>k G.1)
theorem anS {l:List bk} {m:List (Int×bk)} (fs:vd l m) (qA:Bq l) {gJ:Type} (k:List bk->A gJ):Br k (m,())=k (k1 l):=by
 obtain ⟨aw,qA⟩:=qA;have ar:wR.pre (oF (some m)):=anJ (by have:=fs.EH;omega);have e:wR.sh (oF (some m))=A.pure (hD hq (jV m)):=by
  refine (A.eZ ar _).trans (congrArg A.pure ?_);exact anK
 unfold Br;show A.bind (A.bind (yU.sh m) _) _=_;rw [show yU.sh m=A.pure (oF (some m)) from rfl,A.aX,e,A.aX,anR (by rw [PG,jV,List.length_map];have:=fs.EH;omega),A.aX,A.bX,YI fs qA]
theorem YM (l:List bk) (h:Bq l) (hc:ra l=false) {gJ:Type} (k:List bk->A gJ) (R:A gJ) :
  A.bind (A.loop (tm R) (l,Int.ofNat (List.length l),0,[],())) (ab.bx (Br k))=k (k1 l):=by
 have aI:=(I1 l).1 hc;obtain ⟨M,_⟩:=Bp l [] [] .nil;rw [List.nil_append] at M;obtain ⟨m,hm,fs⟩:=M aI;have key:A.loop (tm R) (l,Int.ofNat (List.length l),0,[],())=A.pure (.next (m,())):=by
  have gen:∀ (k:Nat) (i:Nat) (dI:List (Int×bk)),l.length - i=k->i<=l.length->r_ (l.drop i) dI=some m->vd (l.take i) dI->A.loop (tm R) (l,(l.length:Int),(i:Int),dI,())=A.pure (.next (m,())):=by
   intro k;induction k with
   | zero=>
    intro i dI ak U al _;have:i=l.length:=by omega
    subst this;rw [List.drop_length] at al;simp only [r_,Option.some.injEq] at al;subst al;exact A.wY (YL _)
   | succ k aO=>
    intro i dI ak U al Mv;have U:i<l.length:=by omega
    rw [List.drop_eq_getElem_cons U] at al;unfold r_ at al;split at al
    ·cases al
    ·rename_i Cp;refine (A.Js ((YK h.1 U dI).trans (if_neg Cp))).trans ?_;refine aO (i+1) _ (by omega) U al ?_;obtain ⟨ek,_⟩:=Bp [l[i]] (l.take i) dI Mv;have tn:l.take i++[l[i]]=l.take (i+1):=by simp
     rw [tn] at ek;obtain ⟨atM,aK,bq⟩:=ek λa bf b af=>aI a (List.mem_of_mem_take bf) b (List.mem_of_mem_take af);unfold r_ at aK;rw [if_neg Cp] at aK;simp only [r_,Option.some.injEq] at aK;grind
  exact gen l.length 0 [] rfl (Nat.zero_le _) hm .nil
 rw [key,A.aX,A.bX,anS fs h]
theorem anT (l:List bk) (h:Bq l) (hc:ra l=true) {gJ:Type} (k:List bk->A gJ) (r:gJ) :
  A.bind (A.loop (tm (A.pure r)) (l,Int.ofNat (List.length l),0,[],())) (ab.bx (Br k))=A.pure r:=by
 rw [A.fv l (λi (m:List (Int×bk))=>(l,(l.length:Int),(i:Int),m,())) (λs m=>if ((ki m s.1).isSome&&!decide ((ki m s.1).getD n2=s))=true then (.done (.done r):ab (List (Int×bk)) (ab (List (Int×bk)×Unit) _)) else .next (lX m s.1 s)) (λm=>.next (m,())) [] ?_ ?_ ?_]
 ·rw [YJ];obtain ⟨_,aa⟩:=Bp l [] [] .nil;rw [aa (anP.1 hc)];simp
 ·rfl
 ·intro i U m;rw [YK h.1 U m,A.aX,A.aX];exact Ud (mk:=λ(m:List (Int×bk))=>(l,(l.length:Int),((i+1:Nat):Int),m,()))
 ·intro m;exact YL m
theorem anU (x):A.bz (amT wR.sh yU.sh x) (I2.sh x):=A.bU λh=>by
 show A.bind (A.loop (tm (A.pure ([],false))) (x,Int.ofNat (List.length x),0,[],())) (ab.bx (Br λa=>A.pure (a,true)))=A.pure (if ra x=true then ([],false) else (k1 x,true));cases hc:ra x with
 | true=>exact anT x h hc _ _
 | false=>exact YM x h hc _ _
def I3 (x:List bk×Unit):A (Bool×List bk×Unit):=A.eT (Bq x.1/\ra x.1=false) (true,k1 x.1,())
theorem anV (x):A.bz (am5 wR.sh yU.sh x) (I3 x):=A.bU λh=>by
 show A.bind (A.loop (tm (A.pure (false,[],()))) (x.1,Int.ofNat (List.length x.1),0,[],())) (ab.bx (Br λa=>A.pure (true,a,())))=_;exact YM x.1 h.1 h.2 _ _
theorem PM {c:b6} (h:tl c=true):Bq c.2.1:=by
 unfold tl EF at h;simp only [Bool.and_eq_true,List.all_eq_true,Bool.not_eq_true',Bool.or_eq_false_iff,decide_eq_false_iff_not] at h;obtain ⟨⟨⟨⟨⟨bm,_⟩,_⟩,aa⟩,_⟩,_⟩:=h;refine ⟨by omega,λs aA=>?_⟩;have:=aa s aA;unfold pg at this;grind
theorem anW (x):A.bz (XL I0.sh I2.sh x) (mT.sh x):=A.bU λh=>by
 unfold XL;show _=A.pure (eH x);rw [show I0.sh x=A.pure (tl x) from A.eZ h _];unfold eH;cases hc:tl x with
 | false=>simp
 | true=>
  simp only [A.aX,Bool.not_true,Bool.false_eq_true,if_false,if_true];rw [show I2.sh x.2.1=A.pure (if ra x.2.1=true then ([],false) else (k1 x.2.1,true)) from A.eZ (PM hc) _];cases ra x.2.1<;>simp
def I4 (x:(bk->A Bool)×List bk×Unit):A ((Nat×Nat)×List bk×Unit):=A.eT (x.2.1.length<2 ^ 63/\∀ y∈x.2.1,∃ b,x.1 y=A.pure b)
 ((0,(x.2.1.filter λs=>!(x.1 s).val false).length),(x.2.1.filter λs=>!(x.1 s).val false)++List.replicate (x.2.1.length - (x.2.1.filter λs=>!(x.1 s).val false).length) n2,())
theorem YN {ao:Type} (p:ao->Bool):∀ (l:List ao) (i:Int),(l.any p=true->∃ k:Nat,∃ h:k<l.length,im p l i=i+k/\p l[k]=true/\(∀ y∈l.take k,p y=false))
 | [],i,h=>by grind
 | x::l,i,h=>by
  unfold im;by_cases au:p x=true
  ·grind
  ·have oa:p x=false:=by grind
   simp only [List.any_cons,oa,Bool.false_or] at h;obtain ⟨k,ak,M,aa,an⟩:=YN p l (i+1) h;refine ⟨k+1,by grind,by grind,by grind,?_⟩;grind
theorem anX (x):A.bz (X_ (ls jU).sh x) (I4 x):=A.bU λh=>by
 obtain ⟨f,l,u⟩:=x;obtain ⟨M,aa⟩:=h;change l.length<2 ^ 63 at M;change ∀ y∈l,∃ b,f y=A.pure b at aa;unfold X_;rw [show (ls jU).sh (l,f)=A.pure (im (λy=>(f y).val false) l 0) from A.eZ ⟨M,aa⟩ _];rw [A.aX];by_cases bf:(l.any λy=>(f y).val false)=true
 ·obtain ⟨k,ak,aK,bq,cF⟩:=YN (λy=>(f y).val false) l 0 bf;have hw:=bF (n:=(k:Int)+1) (by omega) (by omega);have cI:¬(decide ((0:Int)+k=-1)=true):=by simp
  rw [aK,if_neg cI];generalize bt:(λs=>!(f s).val false)=q at *
  have anY:∀ s,(!(f s).val false)=q s:=λs=>by grind
  have tn:l.take k=(l.take k).filter q:=by
   rw [List.filter_eq_self.2];grind
  have Bj:(l.take (k+1)).filter q=l.take k:=by
   rw [List.take_add_one,List.getElem?_eq_getElem ak,Option.toList_some,List.filter_append,<-tn];grind
  rw [A.fv (l.drop (k+1)) (λi (_:Unit)=>(f,(((l.take (k+1+i)).filter q).length:Int),((k+1+i:Nat):Int),(l.take (k+1+i)).filter q++l.drop ((l.take (k+1+i)).filter q).length,())) (λ_ u=>.next u) (λ_=>.next (((l.filter q).length:Int),l.filter q++l.drop (l.filter q).length,())) () ?_ ?_ ?_]
  ·rw [g7];have hlen:(l.filter q).length<=l.length:=List.length_filter_le _ _;have h3:(l.filter q++l.drop (l.filter q).length).length=l.length:=by grind
   simp only [A.aX,A.bX,cc,h3];rw [A.ba (by omega)];simp only [A.bL,Int.toNat_natCast];have Ea:List.take (l.filter q).length (l.filter q++l.drop (l.filter q).length)=l.filter q:=List.take_left;rw [Ea];refine (A.ba ⟨by omega,by omega,by grind⟩ _).trans ?_;refine congrArg A.pure (Prod.ext rfl (Prod.ext ?_ rfl));show (_++_++_:List bk)=_;exact (congrArg (λz=>_++z) (List.drop_eq_nil_iff.2 (by simp))).trans (List.append_nil _)
  ·show (f,(0:Int)+k,IntKind.wrap .i64 (Add.add ((0:Int)+k) 1),l,())=_;rw [Int.zero_add,b',hw];refine Prod.ext rfl (Prod.ext ?_ (Prod.ext ?_ (Prod.ext ?_ rfl)))
   ·grind
   ·rfl
   ·show l=(l.take (k+1+0)).filter q++l.drop ((l.take (k+1+0)).filter q).length;rw [Nat.add_zero,Bj,List.length_take,Nat.min_eq_left (by omega),List.take_append_drop]
  ·intro i U _;have U:k+1+i<l.length:=by grind
   have hle:((l.take (k+1+i)).filter q).length<=k+i:=by
    have M:=List.length_filter_le q (l.drop (k+1) |>.take i);rw [List.take_add,List.filter_append,List.length_append,Bj];grind
   have cq:((l.take (k+1+i)).filter q).length<l.length:=by omega
   have h4:((l.take (k+1+i)).filter q++l.drop ((l.take (k+1+i)).filter q).length).length=l.length:=by grind
   have hw:=bF (n:=((k+1+i:Nat):Int)+1) (by omega) (by omega);have kT:=bF (n:=(((l.take (k+1+i)).filter q).length:Int)+1) (by omega) (by omega);have e1:k+1+i<((l.take (k+1+i)).filter q++l.drop ((l.take (k+1+i)).filter q).length).length:=by omega
   have B8:((l.take (k+1+i)).filter q).length<((l.take (k+1+i)).filter q++l.drop ((l.take (k+1+i)).filter q).length).length:=by omega
   have ke:((l.take (k+1+i)).filter q++l.drop ((l.take (k+1+i)).filter q).length)[k+1+i]=l[k+1+i]:=by
    rw [List.getElem_append_right (by omega),List.getElem_drop];congr 1;omega
   obtain ⟨b,af⟩:=aa _ (List.getElem_mem U);have aj:q l[k+1+i]=!b:=by rw [<-anY,af,A.nN]
   have tn:(l.take (k+1+(i+1))).filter q=(l.take (k+1+i)).filter q++(if (!b)=true then [l[k+1+i]] else []):=by
    rw [show k+1+(i+1)=k+1+i+1 from rfl,List.take_add_one,List.getElem?_eq_getElem U,Option.toList_some,List.filter_append,List.filter_cons,aj,List.filter_nil]
   simp only [cc,dn e1,if_true,en e1,dd e1,dd B8,A.bL,ke,af,A.aX,b',kT];simp only [Int.toNat_natCast];cases b with
   | true=>
    simp only [Bool.not_true,Bool.false_eq_true,if_false,A.aX,A.bX,hw,ab.h',List.append_nil] at tn ⊢;grind
   | false=>
    simp only [Bool.not_false,if_true,A.aX,A.bX,hw,ab.h'] at tn ⊢;have es:(List.filter q (List.take (k+1+i) l)++List.drop (List.filter q (List.take (k+1+i) l)).length l).set (List.filter q (List.take (k+1+i) l)).length l[k+1+i]=(l.take (k+1+(i+1))).filter q++l.drop ((l.take (k+1+(i+1))).filter q).length:=by
     rw [tn,List.set_append_right _ _ (Nat.le_refl _),Nat.sub_self,List.drop_eq_getElem_cons cq,List.set_cons_zero];simp
    rw [es];have LY:(((l.take (k+1+i)).filter q).length:Int)+1=(((l.take (k+1+(i+1))).filter q).length:Int):=by grind
    grind
  ·intro _;have aw:(l.drop (k+1)).length=l.length - (k+1):=by simp
   have dC:k+1+(l.drop (k+1)).length=l.length:=by omega
   have hle:(l.filter q).length<=l.length:=List.length_filter_le _ _;simp only [dC,List.take_length];rw [if_neg (by grind),A.aX]
 ·rw [DO _ _ bf];have:(l.filter λs=>!(f s).val false)=l:=by
   simp_all
  simp only [decide_true,if_true,this,Nat.sub_self,List.replicate_zero,List.append_nil]
end Go.Fer.H
namespace Go.Fer.H
open A (ab)
set_option linter.unusedVariables false
set_option linter.unusedSimpArgs false
abbrev dC:ay:=((0,0,0,0,0,0),0)
def dT (c:b6) (w:List Int) (u:Int):List ay:=((gI c).filter λs=>decide (u' s=u)).map λs=>(s,yS s+w.getD (qa s).toNat 0)
def bJ (c:b6) (w:List Int) (u:Int):List ay:=hD iJ (dT c w u)
def iw (l:List ay) (i:Nat):Bool:=!(decide (0<i)&&decide ((l.getD i dC).2=(l.getD (i - 1) dC).2))&&decide (mu (l.getD i dC).1=1+((i % 2:Nat):Int))
def ia (l:List ay):Bool:=(List.range l.length).all (iw l)
structure k2 (c:b6):Prop where
 YO:eH c=0
 dO:c.1.length<=3
 e6:c.2.1.length<=12
 lb:c.2.2.1.length<=12
 ll:c.2.2.2.1.length<=4
 nz:tl c=true
 Bo:Bn c.2.1
 anZ:tk c.2.2.2.2=true
 clk:∀ s∈c.1,-30<=s.1/\s.1<=s.2/\s.2<=30
 jW:∀ s∈c.2.1,pg c.1.length s=true
 j1:EE c.2.2.2.1=true
theorem wS {c:b6} (h:eH c=0):k2 c:=by
 have aW:=h;unfold eH at h;split at h
 ·rename_i hc;split at h
  ·omega
  ·rename_i aI;have m_:=hc;unfold tl EF at hc;simp only [Bool.and_eq_true,List.all_eq_true,Bool.not_eq_true',Bool.or_eq_false_iff,decide_eq_false_iff_not] at hc;obtain ⟨⟨⟨⟨⟨⟨⟨⟨bN,b1⟩,bC⟩,c9⟩,dE⟩,dF⟩,dH⟩,dP⟩,dK⟩:=hc;refine ⟨aW,by omega,by omega,by omega,by omega,m_,(I1 _).1 (by grind),dE,λs aA=>?_,dH,dK⟩;have:=dF s aA;unfold Bm at this;simp only [Bool.and_eq_true,Bool.not_eq_true',decide_eq_false_iff_not,yT] at this;omega
 omega
theorem PN {n:Nat} {s:bk}:pg n s=true<->(0<=q_ s/\q_ s<=99)/\(0<=qa s/\qa s<=(n:Int) - 1)/\(0<=yS s/\yS s<=9999)/\(0<=u' s/\u' s<=9)/\(0<=EA s/\EA s<=99)/\(mu s=1\/mu s=2/\EA s=0):=by
 unfold pg;simp only [Bool.and_eq_true,yT,Bool.or_eq_true,decide_eq_true_eq,and_assoc]
theorem k2.mI {c:b6} (h:k2 c):IM c:=⟨by have:=h.dO;omega,by have:=h.e6;omega,by have:=h.lb;omega,by have:=h.ll;omega⟩
theorem k2.an0 {c:b6} (h:k2 c):∃ m,vd c.2.1 m:=by
 obtain ⟨M,_⟩:=Bp c.2.1 [] [] .nil;rw [List.nil_append] at M;obtain ⟨m,_,fs⟩:=M h.Bo;grind
theorem k2.PO {c:b6} (h:k2 c):(gI c).length<=12:=by
 obtain ⟨m,fs⟩:=h.an0;have M:=anQ fs (PM h.nz).2;have aa:=List.length_filter_le (λs:bk=>!c.2.2.1.contains s.1) (k1 c.2.1);have:=h.e6;unfold gI;omega
theorem an1 {l:List bk} {s:bk} (h:s∈k1 l):s∈l:=by
 unfold k1 at h;grind
theorem an2 {c:b6} {s:bk} (h:s∈gI c):s∈c.2.1:=an1 (List.mem_filter.1 h).1
theorem k2.PQ {c:b6} (h:k2 c) {s:bk} (aA:s∈gI c):pg c.1.length s=true:=h.jW s (an2 aA)
def ph (c:b6) (w:List Int):Prop:=w.length=c.1.length/\∀ n∈w,-30<=n/\n<=30
theorem ph.at {c:b6} {w:List Int} (h:ph c w) (aL:k2 c) {s:bk} (aA:s∈gI c):0<=qa s/\qa s<(w.length:Int)/\-30<=w.getD (qa s).toNat 0/\w.getD (qa s).toNat 0<=30:=by
 have M:=(PN.1 (aL.PQ aA)).2.1;have aw:qa s<(w.length:Int):=by rw [h.1];omega
 exact ⟨M.1,aw,h.2 _ (x2 M.1 aw)⟩
theorem YP {c:b6} (h:k2 c) (w:List Int) (u:Int):(bJ c w u).length<=12:=by
 unfold bJ dT;rw [PG,List.length_map];exact Nat.le_trans (List.length_filter_le _ _) h.PO
theorem YQ {c:b6} {w:List Int} {u:Int} {e:ay} (h:e∈bJ c w u):e.1∈gI c/\u' e.1=u/\e.2=yS e.1+w.getD (qa e.1).toNat 0:=by
 unfold bJ at h;rw [ant] at h;unfold dT at h;grind
abbrev an3:aU:=⟨.aG p_ (.aG hl bp),.st (.aG (.slice IK) .bool),λx=>eH x.1=0/\ph x.1 x.2.1,λx=>if ia (bJ x.1 x.2.1 x.2.2)=true then (bJ x.1 x.2.1 x.2.2,true) else ([],false)⟩
theorem l0 (i:Nat):Int.tmod (i:Int) 2=((i % 2:Nat):Int):=by
 rfl
theorem an4 (l:List ay) (i:Nat):(decide ((i:Int) > 0)&&decide ((l.getD i dC).2=(l.getD (i - 1) dC).2)||decide (mu (l.getD i dC).1≠1+((i % 2:Nat):Int)))=!iw l i:=by
 unfold iw;simp
end Go.Fer.H
namespace Go.Fer.H
open A (ab)
set_option linter.unusedVariables false
set_option linter.unusedSimpArgs false
def k3 (a b:Int) (s:Int×Int):Int:=max 0 (min (b - 1) s.2 - max a s.1+1)
def pj (cl:List (Int×Int)) (a b:Int):Int:=cl.foldl (λn s=>n - k3 a b s) (b - a)
def YR (cl:List (Int×Int)):Prop:=cl.length<=4/\∀ s∈cl,0<=s.1/\s.1<=s.2/\s.2<=9999
theorem k2.YS {c:b6} (h:k2 c):YR c.2.2.2.1:=by
 refine ⟨h.ll,λs aA=>?_⟩;have:=h.j1;unfold EE at this;rw [List.all_eq_true] at this;obtain ⟨i,U,rfl⟩:=List.mem_iff_getElem.1 aA;have:=this i (by grind);unfold yV at this;rw [vc U] at this;simp only [Bool.and_eq_true,yT,Bool.not_eq_true',decide_eq_false_iff_not] at this;omega
abbrev I5 (x:b6×Int×Int):Prop:=YR x.1.2.2.2.1/\-100<=x.2.1/\x.2.1<=x.2.2/\x.2.2<=11000
theorem an5 {a b:Int} {s:Int×Int} (bf:-100<=a) (af:b<=11000) (aA:0<=s.1/\s.1<=s.2/\s.2<=9999):0<=k3 a b s/\k3 a b s<=20000:=by
 unfold k3;omega
theorem YT {n:Int}:(if n > 0 then n else 0)=max 0 n:=by omega
theorem YU {a b:Int}:(if a<b then a else b)=min b a:=by omega
theorem an6 {a b:Int}:(if a<b then a else b)=min a b:=by omega
theorem an7 {a b:Int}:(if a > b then a else b)=max b a:=by omega
theorem an8 {a b:Int}:(if a > b then a else b)=max a b:=by omega
abbrev Bs:aU:=⟨.aG p_ (.aG bp bp),bp,I5,λx=>pj x.1.2.2.2.1 x.2.1 x.2.2⟩
theorem an9 (x):A.bz (XU x) (Bs.sh x):=A.bU λh=>by
 obtain ⟨c,a,b⟩:=x;obtain ⟨⟨M,aa⟩,an,a8,bV⟩:=h;change -100<=a at an;change a<=b at a8;change b<=11000 at bV;change c.2.2.2.1.length<=4 at M;change ∀ s∈c.2.2.2.1,_ at aa;unfold XU;have TI:=bF (n:=b - a) (by omega) (by omega);rw [A.hT c.2.2.2.1 (λi (n:Int)=>(a,b,n,c.2.2.2.1,(c.2.2.2.1.length:Int),(i:Int),())) (λs n=>.next (n - k3 a b s)) (λn=>.next (n,())) (λi n=>-(20000*(i:Int))<=n/\n<=20000) (b - a) ?_ ?_ ?_ ?_]
 ·rw [g7,A.aX];rfl
 ·grind
 ·omega
 ·intro i U n aI;have aA:=aa _ (List.getElem_mem U);have hc:=an5 (a:=a) (b:=b) an bV aA;have hw:=bF (n:=(i:Int)+1) (by omega) (by omega);refine ⟨?_,λbg dq=>?_⟩
  ·simp only [Prod.b5,cc,dn U,if_true,en U,dd U,A.bL,b',hw];have cn:=bF (n:=b - 1) (by omega) (by omega);have c8:=bF (n:=min (b - 1) c.2.2.2.1[i].2 - max a c.2.2.2.1[i].1) (by omega) (by omega);have fL:=bF (n:=min (b - 1) c.2.2.2.1[i].2 - max a c.2.2.2.1[i].1+1) (by omega) (by omega);have PR:=bF (n:=n - k3 a b c.2.2.2.1[i]) (by omega) (by omega);simp only [cn,an6,an8,c8,fL,YT];rw [show max (min (b - 1) c.2.2.2.1[i].2 - max a c.2.2.2.1[i].1+1) 0=k3 a b c.2.2.2.1[i] from Int.max_comm _ _,PR];rfl
  grind
 simp
def wT (t:r8) (m:Int):Int:=if m>=t.2.2.2.2.1 then t.2.2.2.2.2.1 else min t.2.2.2.1 ((max 0 (m - t.1)+t.2.1 - 1) / t.2.1*t.2.2.1)
abbrev PS (x:r8×Int):Prop:=tk x.1=true/\-100000<=x.2/\x.2<=20000
abbrev I6:aU:=⟨.aG PD bp,bp,PS,λx=>wT x.1 x.2⟩
theorem YV {t:r8}:tk t=true<->(0<=t.1/\t.1<=9999)/\(1<=t.2.1/\t.2.1<=9999)/\(1<=t.2.2.2.2.1/\t.2.2.2.2.1<=9999)/\(0<=t.2.2.1/\t.2.2.1<=100000)/\(0<=t.2.2.2.1/\t.2.2.2.1<=100000)/\(0<=t.2.2.2.2.2.1/\t.2.2.2.2.2.1<=100000)/\(0<=t.2.2.2.2.2.2/\t.2.2.2.2.2.2<=100000):=by
 unfold tk;simp only [Bool.and_eq_true,yT,and_assoc]
theorem an_ {t:r8} {m:Int} (h:PS (t,m)):0<=(max 0 (m - t.1)+t.2.1 - 1) / t.2.1/\(max 0 (m - t.1)+t.2.1 - 1) / t.2.1<=30000/\0<=(max 0 (m - t.1)+t.2.1 - 1) / t.2.1*t.2.2.1/\(max 0 (m - t.1)+t.2.1 - 1) / t.2.1*t.2.2.1<=3000000000:=by
 obtain ⟨M,aa,an⟩:=h;change -100000<=m at aa;change m<=20000 at an;obtain ⟨bN,b1,bC,c9,dE,dF,dH⟩:=(YV (t:=t)).1 M;have e0:0<=(max 0 (m - t.1)+t.2.1 - 1) / t.2.1:=Int.ediv_nonneg (by omega) (by omega);have gE:(max 0 (m - t.1)+t.2.1 - 1) / t.2.1<=max 0 (m - t.1)+t.2.1 - 1:=Int.ediv_le_self _ (by omega);have jN:(max 0 (m - t.1)+t.2.1 - 1) / t.2.1<=30000:=by omega
 refine ⟨e0,jN,Int.mul_nonneg e0 c9.1,?_⟩;calc (max 0 (m - t.1)+t.2.1 - 1) / t.2.1*t.2.2.1<=30000*100000:=Int.mul_le_mul jN c9.2 c9.1 (by omega)
  _=3000000000:=by decide
theorem an' (x):A.bz (XQ x) (I6.sh x):=A.bU λh=>by
 obtain ⟨t,m⟩:=x;have hu:=an_ h;obtain ⟨M,aa,an⟩:=h;change -100000<=m at aa;change m<=20000 at an;obtain ⟨bN,b1,bC,c9,dE,dF,dH⟩:=(YV (t:=t)).1 M;have cn:=bF (n:=m - t.1) (by omega) (by omega);have c8:=bF (n:=max 0 (m - t.1)+t.2.1) (by omega) (by omega);have fL:=bF (n:=max 0 (m - t.1)+t.2.1 - 1) (by omega) (by omega);have PR:=bF (n:=(max 0 (m - t.1)+t.2.1 - 1) / t.2.1) (by omega) (by omega);have aoa:=bF (n:=(max 0 (m - t.1)+t.2.1 - 1) / t.2.1*t.2.2.1) (by omega) (by omega);have aob:Int.tdiv (max 0 (m - t.1)+t.2.1 - 1) t.2.1=(max 0 (m - t.1)+t.2.1 - 1) / t.2.1:=Int.tdiv_eq_ediv_of_nonneg (by omega);unfold XQ;show _=A.pure (wT t m);unfold wT;simp only [Prod.b5,cn,YT,b',c8,fL,aob,PR,Int.mul_comm t.2.2.1,aoa,YU,decide_eq_true_eq];rw [A.ba (show t.2.1≠0 from by omega)];grind
def lA (c:b6) (w:List Int) (u:Int):List ay:=if ia (bJ c w u)=true then bJ c w u else []
theorem of_eq {c:b6} {w:List Int} {u:Int} (h:eH c=0) (aa:ph c w):an3.sh (c,w,u)=A.pure (lA c w u,ia (bJ c w u)):=by
 refine (A.eZ ⟨h,aa⟩ _).trans (congrArg A.pure ?_);show (if ia (bJ c w u)=true then (bJ c w u,true) else ([],false))=_;unfold lA;grind
def ve (l:List ay):List (ay×ay):=l.zip (l.drop 1)
def EI (cl:List (Int×Int)) (jW:Int) (l:List ay):Option Int:=((ve l).find? λp=>q_ p.1.1 == jW&&mu p.1.1 == 1).map λp=>pj cl p.1.2 p.2.2
def n3 (c:b6) (w:List Int) (jW:Int):Option Int:=(iE 0 9).findSome? λu=>EI c.2.2.2.1 jW (lA c w u)
theorem aoc {l:List ay} {i:Nat} (h:i+1<(hD iJ l).length):(hD iJ l)[i].2<=(hD iJ l)[i+1].2:=by
 have:=List.pairwise_iff_getElem.1 (anv l) i (i+1) (by omega) h (by omega);omega
theorem I7 {c:b6} (aL:k2 c) {w:List Int} (aa:ph c w) {u:Int} {e:ay} (he:e∈bJ c w u):-30<=e.2/\e.2<=10029:=by
 obtain ⟨M,_,an⟩:=YQ he;have aS:=(aa.at aL M).2.2;have aY:=(PN.1 (aL.PQ M)).2.2.1;omega
theorem I8 {c:b6} {w:List Int} {u:Int} {e:ay} (he:e∈lA c w u):e∈bJ c w u:=by
 unfold lA at he;grind
theorem aod {c:b6} {w:List Int} {u:Int} {i:Nat} (h:i+1<(lA c w u).length):(lA c w u)[i].2<=(lA c w u)[i+1].2:=by
 have key:∀ l,lA c w u=l->∀ (h:i+1<l.length),l[i].2<=l[i+1].2:=by
  intro l aw h;unfold lA at aw;split at aw
  ·subst aw;exact aoc h
  grind
 grind
theorem YW {c:b6} (aL:k2 c) {w:List Int} (aa:ph c w) {u:Int} {i:Nat} (h:i+1<(lA c w u).length):I5 (c,(lA c w u)[i].2,(lA c w u)[i+1].2):=by
 have an:=I7 aL aa (I8 (List.getElem_mem (by omega:i<(lA c w u).length)));have a8:=I7 aL aa (I8 (List.getElem_mem h));exact ⟨aL.YS,show -100<=(lA c w u)[i].2 by omega,aod h,show (lA c w u)[i+1].2<=11000 by omega⟩
theorem aoe {l:List ay} {i:Nat} (h:i<(ve l).length):∃ aa:i+1<l.length,(ve l)[i]=(l[i],l[i+1]):=by
 unfold ve at h ⊢;grind
end Go.Fer.H
namespace Go.Fer.H
open A (ab)
set_option linter.unusedVariables false
set_option linter.unusedSimpArgs false
theorem aof {a b:Int} {s:Int×Int} (h:b<=s.1):k3 a b s=0:=by unfold k3;omega
def rT:List (Int×Int)->Prop
 | []=>True
 | s::r=>s.1<=s.2/\(∀ t∈r,s.2<t.1)/\rT r
theorem PT:∀ (cl:List (Int×Int)) (a b n:Int),cl.foldl (λn s=>n - k3 a b s) n=n - (cl.map (k3 a b)).sum
 | [],a,b,n=>by simp
 | s::r,a,b,n=>by simp only [List.foldl_cons,List.map_cons,List.sum_cons];rw [PT r];omega
theorem YX:∀ (cl:List (Int×Int)) (a b:Int),rT cl->a<=b->(cl.map (k3 a b)).sum<=b - a
 | [],a,b,_,h=>by grind
 | s::r,a,b,⟨M,aa,an⟩,h=>by
  simp only [List.map_cons,List.sum_cons];by_cases af:s.2+1<=b
  ·have aO:=YX r (max a (s.2+1)) b an (by omega);have e:r.map (k3 a b)=r.map (k3 (max a (s.2+1)) b):=by
    refine List.map_congr_left λt aR=>?_;have:=aa t aR;unfold k3;omega
   rw [e];have:k3 a b s<=max a (s.2+1) - a:=by unfold k3;omega
   omega
  ·have e:∀ l:List (Int×Int),(∀ t∈l,b<=t.1)->(l.map (k3 a b)).sum=0:=by
    intro l;induction l with
    | nil=>simp
    | cons t l aO=>
     intro aw;simp only [List.map_cons,List.sum_cons];rw [aof (aw t (by simp)),aO λx au=>aw x (by grind)];rfl
   rw [e r λt aR=>by grind];unfold k3;omega
theorem YY:∀ (cl:List (Int×Int)),(∀ i,(h:i+1<cl.length)->cl[i].2<cl[i+1].1)->(∀ s∈cl,s.1<=s.2)->rT cl
 | [],_,_=>trivial
 | s::r,h,aa=>by
  have W:rT r:=YY r (λi U=>by have:=h (i+1) (by grind);grind) λt aR=>aa t (by grind);refine ⟨aa s (by simp),?_,W⟩;cases r with
  | nil=>simp
  | cons t r=>
   have aW:=h 0 (by simp);simp at aW;intro u hu;rcases List.mem_cons.1 hu with rfl | hu
   ·exact aW
   ·have:=W.2.1 u hu;grind
theorem k2.aog {c:b6} (h:k2 c):rT c.2.2.2.1:=by
 have hc:=h.j1;unfold EE at hc;rw [List.all_eq_true] at hc;refine YY _ (λi U=>?_) λs aA=>(h.YS.2 s aA).2.1;have:=hc (i+1) (by grind);unfold yV at this;grind
theorem aoh {cl:List (Int×Int)} {a b:Int} (h:rT cl) (u_:a<=b):0<=pj cl a b:=by
 unfold pj;rw [PT];have:=YX cl a b h u_;omega
theorem YZ:∀ (cl:List (Int×Int)) (a b:Int),0<=(cl.map (k3 a b)).sum
 | [],_,_=>by simp
 | s::r,a,b=>by
  simp only [List.map_cons,List.sum_cons];have:=YZ r a b;have:0<=k3 a b s:=by unfold k3;omega
  omega
theorem aoi {cl:List (Int×Int)} {a b:Int}:pj cl a b<=b - a:=by
 unfold pj;rw [PT];have:=YZ cl a b;omega
theorem aoj {cl:List (Int×Int)} {jW:Int} {l:List ay} {m:Int} (h:EI cl jW l=some m):∃ i,∃ U:i+1<l.length,l[i].1.1=jW/\mu l[i].1=1/\m=pj cl l[i].2 l[i+1].2:=by
 unfold EI at h;rw [Option.map_eq_some_iff] at h;obtain ⟨p,ar,rfl⟩:=h;have aa:=List.find?_some ar;obtain ⟨i,U,rfl⟩:=List.mem_iff_getElem.1 (List.mem_of_find?_eq_some ar);obtain ⟨e1,e⟩:=aoe U;grind
theorem aok {c:b6} (aL:k2 c) {w:List Int} (aa:ph c w) {jW m:Int} (h:n3 c w jW=some m):0<=m/\m<=11000:=by
 unfold n3 at h;obtain ⟨u,_,hu⟩:=List.exists_of_findSome?_eq_some h;obtain ⟨i,U,_,_,rfl⟩:=aoj hu;have ar:=YW aL aa U;have hm:=aoh aL.aog ar.2.2.1;have an:=I7 aL aa (I8 (List.getElem_mem (by omega:i<(lA c w u).length)));have a8:=I7 aL aa (I8 (List.getElem_mem U));have bV:=@aoi c.2.2.2.1 (lA c w u)[i].2 (lA c w u)[i+1].2;grind
def Bt (c:b6) (jW:Int):Bool:=(gI c).any λs=>q_ s == jW&&mu s == 1
def tp (c:b6) (w:List Int):Bool:=(List.range w.length).all λi=>c5 (w.getD i 0) (c.1.getD i (0,0)).1 (c.1.getD i (0,0)).2
def oG (c:b6) (w:List Int):Bool:=decide (w.length=c.1.length)&&tp c w&&(iE 0 9).all λu=>ia (bJ c w u)
theorem Y0 {c:b6} (aL:k2 c) {w:List Int} (aw:w.length=c.1.length) (h:tp c w=true):ph c w:=by
 refine ⟨aw,λn aI=>?_⟩;obtain ⟨i,U,rfl⟩:=List.mem_iff_getElem.1 aI;unfold tp at h;rw [List.all_eq_true] at h;have M:=h i (by grind);rw [vc U,vc (by omega:i<c.1.length),yT] at M;have:=aL.clk _ (List.getElem_mem (by omega:i<c.1.length));omega
def n4:List (Int×Int)->Nat
 | []=>1
 | s::r=>(s.2 - s.1+1).toNat*n4 r
def n5 (c:b6):List (Int×Int)->List Int->List (List Int)
 | [],w=>if oG c w=true then [w] else []
 | s::r,w=>(iE s.1 s.2).flatMap λn=>n5 c r (w++[n])
theorem Y1 {ao β:Type} (f:ao->List β) (k:Nat):∀ (l:List ao),(∀ x∈l,(f x).length<=k)->(l.flatMap f).length<=l.length*k
 | [],_=>by simp
 | x::l,h=>by
  simp only [List.flatMap_cons,List.length_append,List.length_cons];have:=Y1 f k l λy aJ=>h y (by grind);grind
theorem PU (c:b6):∀ (r:List (Int×Int)) (w:List Int),(n5 c r w).length<=n4 r
 | [],w=>by unfold n5 n4;grind
 | s::r,w=>by
  unfold n5 n4;have:=Y1 (λn=>n5 c r (w++[n])) (n4 r) (iE s.1 s.2) λn _=>PU c r _;rw [sU] at this;omega
theorem Y2 {ao β:Type} (f:ao->List β):∀ (l:List ao) (b:List β),l.foldl (λb x=>b++f x) b=b++l.flatMap f
 | [],b=>by simp
 | x::l,b=>by simp only [List.foldl_cons,List.flatMap_cons];rw [Y2 f l,List.append_assoc]
abbrev jX (c:b6):List (List Int):=n5 c c.1 []
def aol (c:b6):Prop:=eH c=0->n4 c.1<=60
def r' (c:b6):Prop:=anl c/\aol c
theorem r'.mI {c:b6} (h:r' c):IM c:=by
 obtain ⟨⟨M,aa,an,a8⟩,_⟩:=h;exact ⟨by omega,by omega,by omega,by omega⟩
def eo (c:b6) (b:Bool):List (List Int)×Int:=if eH c≠0 then ([],eH c) else if b=false then ([],1) else if jX c=[] then ([],3) else (jX c,0)
theorem PV (c:b6):∀ (r:List (Int×Int)) (w x:List Int),x∈n5 c r w->oG c x=true
 | [],w,x,h=>by
  unfold n5 at h;grind
 | s::r,w,x,h=>by
  unfold n5 at h;rw [List.mem_flatMap] at h;obtain ⟨n,_,aI⟩:=h;exact PV c r _ x aI
theorem PW {c:b6} (h:eH c=0) {w:List Int} (hw:oG c w=true):ph c w:=by
 unfold oG at hw;simp only [Bool.and_eq_true,decide_eq_true_eq] at hw;exact Y0 (wS h) hw.1.1 hw.1.2
theorem Y3 {c:b6} {w:List Int} (hw:oG c w=true) {u:Int} (hu:0<=u/\u<=9):ia (bJ c w u)=true:=by
 unfold oG at hw;simp only [Bool.and_eq_true,List.all_eq_true] at hw;exact hw.2 u (Ao.2 hu)
theorem aom {c:b6} {b:Bool} {w:List Int} (h:w∈(eo c b).1):eH c=0/\w∈jX c/\oG c w=true/\ph c w:=by
 unfold eo at h;split at h
 ·grind
 ·rename_i hc;have hc:eH c=0:=by omega
  split at h
  ·grind
  ·split at h
   ·grind
   ·have:=PV c _ _ _ h;exact ⟨hc,h,this,PW hc this⟩
end Go.Fer.H
namespace Go.Fer.H
open A (ab)
set_option linter.unusedVariables false
set_option linter.unusedSimpArgs false
def I9:Option (Int×Int)->Int->Int×Int
 | none,n=>(n,n)
 | some s,n=>(min s.1 n,max s.2 n)
def yW (l:List Int):Option (Int×Int):=l.foldl (λo n=>some (I9 o n)) none
def I_ (l:List Int):Int×Int:=(yW l).getD (0,0)
def qc (c:b6) (jW:Int):List Int×Int:=if (eo c (Bt c jW)).2≠0 then ([],(eo c (Bt c jW)).2) else if (eo c (Bt c jW)).1.filterMap (λw=>n3 c w jW)=[] then ([],3) else ((eo c (Bt c jW)).1.filterMap (λw=>n3 c w jW),0)
def I' (c:b6) (n:Int):(Int×Int)×Int:=(I_ ((qc c n).1.map λm=>wT c.2.2.2.2 m),(qc c n).2)
abbrev Ja:aU:=⟨.aG p_ bp,.aG rR bp,λx=>r' x.1,λx=>I' x.1 x.2⟩
end Go.Fer.H
namespace Go.Fer.H
open A (ab)
set_option linter.unusedVariables false
set_option linter.unusedSimpArgs false
abbrev oH (z:ew):b6:=(z.1,z.2.1,z.2.2.1,z.2.2.2.1,z.2.2.2.2.1,z.b5,z.cR,z.cW,z.cX,z.c2,z.c1)
abbrev PX (z:ew):List bk:=z.cS
abbrev Y4 (z:ew):List (Option hW):=z.cY
abbrev EJ (c:b6) (l:List bk) (t:List (Option hW)):ew:=(c.1,c.2.1,c.2.2.1,c.2.2.2.1,c.2.2.2.2.1,c.2.2.2.2.2.1,c.2.2.2.2.2.2.1,c.2.2.2.2.2.2.2.1,c.2.2.2.2.2.2.2.2.1,c.2.2.2.2.2.2.2.2.2.1,c.2.2.2.2.2.2.2.2.2.2,l,t,())
def mv (l:List bk) (w:List Int) (u:Int):List ay:=(l.filter λs=>decide (u' s=u)).map λs=>(s,yS s+w.getD (qa s).toNat 0)
theorem aon {l:List bk} {w:List Int} {i:Nat} (h:i<l.length) (u:Int):mv (l.take (i+1)) w u=if l[i].2.2.2.2.1=u then mv (l.take i) w u++[(l[i],yS l[i]+w.getD (qa l[i]).toNat 0)] else mv (l.take i) w u:=by
 unfold mv;rw [List.take_add_one,List.getElem?_eq_getElem h,Option.toList_some,List.filter_append,List.map_append];grind
theorem Y5 (l:List bk) (w:List Int) (u:Int):(mv l w u).length<=l.length:=by
 unfold mv;grind
abbrev yX (c:b6) (w:List Int):List (List ay):=[bJ c w 0,bJ c w 1,bJ c w 2,bJ c w 3,bJ c w 4,bJ c w 5,bJ c w 6,bJ c w 7,bJ c w 8,bJ c w 9]
def wU (c:b6) (w:List Int):Bool:=(iE 0 9).all λu=>ia (bJ c w u)
theorem aoo (c:b6) (w:List Int):wU c w=(ia (bJ c w 0)&&(ia (bJ c w 1)&&(ia (bJ c w 2)&&(ia (bJ c w 3)&&(ia (bJ c w 4)&&(ia (bJ c w 5)&&(ia (bJ c w 6)&&(ia (bJ c w 7)&&(ia (bJ c w 8)&&ia (bJ c w 9)))))))))):=by
 unfold wU;rw [show iE 0 9=[0,1,2,3,4,5,6,7,8,9] from by decide];simp
abbrev aop (x:List Int×ew):Prop:=eH (oH x.2)=0/\ph (oH x.2) x.1/\PX x.2=gI (oH x.2)
def Jb (x:List Int×ew):A (Option hW×Bool×ew):=A.eT (aop x) (if wU (oH x.2) x.1=true then (some (x.1,yX (oH x.2) x.1),true,x.2) else (none,false,x.2))
theorem aoq {s:bk} {v:Int} (h:s.2.2.2.2.1=v):((s.1,s.2.1,s.2.2.1,s.2.2.2.1,v,s.2.2.2.2.2):bk)=s:=by grind
theorem tq {bA aQ:Type} {body:Int×Int×Int×bA->A (ab (Int×Int×Int×bA) aQ)} (l:List ay) {a n:Int} {z:bA} (bad uW:aQ)
  (af:∀ i,i<l.length->body (a,n,(i:Int),z)=A.pure (if (!iw l i)=true then .done bad else .next (a,n,((i+1:Nat):Int),z)))
  (he:body (a,n,(l.length:Int),z)=A.pure (.done uW)):A.loop body (a,n,0,z)=A.pure (if ia l=true then uW else bad):=by
 rw [A.fv (List.range l.length) (λi (_:Unit)=>(a,n,(i:Int),z)) (λi b=>if (!iw l i)=true then .done bad else .next b) (λ_=>uW) () ?_ ?_ ?_]
 ·rw [lS (q:=iw l) _ _ (λ_=>rfl)];rfl
 ·rfl
 ·intro i U b;have U:i<l.length:=by grind
  rw [af i U,List.getElem_range];cases iw l i<;>rfl
 grind
theorem l1 {X:Type} {l:List ay} (aw:l.length<=12) {i:Nat} (U:i<l.length) {k:Int} (ak:k=1+((i % 2:Nat):Int)) (aM B:A X) :
 A.ah ((!decide (l[i].1.2.2.2.1≠k))=true->((!decide (l[i].1.2.2.2.1≠k))=true/\True)/\True/\True) (A.ah ((!decide (l[i].1.2.2.2.1≠k))=true->True/\True/\(!decide (l[i].1.2.2.2.1≠k))=true)
 (A.ah ((!decide (l[i].1.2.2.2.1≠k)&&decide ((i:Int) > 0))=true->(!decide (l[i].1.2.2.2.1≠k)&&decide ((i:Int) > 0))=true/\True/\True)
 (A.ah ((!decide (l[i].1.2.2.2.1≠k)&&decide ((i:Int) > 0))=true->((!decide (l[i].1.2.2.2.1≠k)&&decide ((i:Int) > 0))=true/\True)/\True/\True)
 (A.ah ((!decide (l[i].1.2.2.2.1≠k)&&decide ((i:Int) > 0))=true->((!decide (l[i].1.2.2.2.1≠k)&&decide ((i:Int) > 0))=true/\(!decide (l[i].1.2.2.2.1≠k)&&decide ((i:Int) > 0))=true)/\(0<=IntKind.wrap .i64 ((i:Int) - 1)/\IntKind.wrap .i64 ((i:Int) - 1)<Int.ofNat (List.length l))/\True)
 (A.ah ((!decide (l[i].1.2.2.2.1≠k)&&decide ((i:Int) > 0))=true->(!decide (l[i].1.2.2.2.1≠k)&&decide ((i:Int) > 0))=true/\True/\True)
 (A.ah ((!decide (l[i].1.2.2.2.1≠k)&&decide ((i:Int) > 0))=true->(!decide (l[i].1.2.2.2.1≠k)&&decide ((i:Int) > 0))=true/\True/\True)
 (A.ah ((!decide (l[i].1.2.2.2.1≠k)&&decide ((i:Int) > 0))=true->((!decide (l[i].1.2.2.2.1≠k)&&decide ((i:Int) > 0))=true/\(!decide (l[i].1.2.2.2.1≠k)&&decide ((i:Int) > 0))=true)/\True/\True)
 (A.ah ((!decide (l[i].1.2.2.2.1≠k))=true->((!decide (l[i].1.2.2.2.1≠k))=true/\(decide ((i:Int) > 0)=true->(!decide (l[i].1.2.2.2.1≠k)&&decide ((i:Int) > 0))=true))/\True/\True)
 (A.ah (True/\(decide (l[i].1.2.2.2.1≠k)=false->(!decide (l[i].1.2.2.2.1≠k))=true))
 (if (decide (l[i].1.2.2.2.1≠k)||decide ((i:Int) > 0)&&decide (l[i].2=(List.getD l (Int.toNat (IntKind.wrap .i64 ((i:Int) - 1))) ((0,0,0,0,0,0),0)).2))=true then aM else B))))))))))=if (!iw l i)=true then aM else B:=by
 have tV:=an4 l i;rw [Bool.or_comm,vc U] at tV;have aK:(decide (l[i].1.2.2.2.1≠k)||decide ((i:Int) > 0)&&decide (l[i].2=(List.getD l (Int.toNat (IntKind.wrap .i64 ((i:Int) - 1))) ((0,0,0,0,0,0),0)).2))=!iw l i:=by
  rw [<-tV,ak];rcases Nat.eq_zero_or_pos i with aW | aW
  ·simp_all
  ·rw [bF (n:=(i:Int) - 1) (by omega) (by omega),show ((i:Int) - 1).toNat=i - 1 from by omega]
 rw [aK];have bV:decide ((i:Int) > 0)=true->(0<=IntKind.wrap .i64 ((i:Int) - 1)/\IntKind.wrap .i64 ((i:Int) - 1)<Int.ofNat (List.length l)):=λh=>by
  have h:=of_decide_eq_true h;rw [bF (n:=(i:Int) - 1) (by omega) (by omega),cc];omega
 simp_all
theorem aor {l:List ay} (h:l.length<=12):ED (ns.sh,l,())=A.pure (hD iJ l,()):=A.eZ ⟨h,rfl⟩ _
theorem aos {l:List bk} {w:List Int} {c:b6} (aw:l.length<=12) (aA:∀ s∈l,pg c.1.length s=true) (hw:ph c w) {i:Nat} (U:i<l.length):0<=l[i].2.2.2.2.1/\l[i].2.2.2.2.1<=9/\(0<=l[i].2.1/\l[i].2.1<(w.length:Int))/\IntKind.wrap .i64 (l[i].2.2.1+w.getD l[i].2.1.toNat 0)=l[i].2.2.1+w.getD l[i].2.1.toNat 0:=by
 have h:=PN.1 (aA _ (List.getElem_mem U));have M:qa l[i]<(w.length:Int):=by rw [hw.1];omega
 have aa:=hw.2 _ (x2 (d:=0) h.2.1.1 M);have an:=h.2.2.1;have a8:=h.2.2.2.1;exact ⟨a8.1,a8.2,⟨h.2.1.1,M⟩,bF (by grind) (by grind)⟩
set_option maxHeartbeats 4000000 in
theorem aot (x):A.bz (Yc IQ.sh ED ns.sh x) (Jb x):=A.bU λh=>by
 obtain ⟨w,ch,bN,b1,bC,c9,dE,dF,dH,dP,dK,ed,l,t,u⟩:=x;obtain ⟨M,aa,an⟩:=h;change eH (ch,bN,b1,bC,c9,dE,dF,dH,dP,dK,ed)=0 at M;change ph (ch,bN,b1,bC,c9,dE,dF,dH,dP,dK,ed) w at aa;change l=gI (ch,bN,b1,bC,c9,dE,dF,dH,dP,dK,ed) at an;show _=A.pure (if wU (ch,bN,b1,bC,c9,dE,dF,dH,dP,dK,ed) w=true then (some (w,yX (ch,bN,b1,bC,c9,dE,dF,dH,dP,dK,ed) w),true,ch,bN,b1,bC,c9,dE,dF,dH,dP,dK,ed,l,t,()) else (none,false,ch,bN,b1,bC,c9,dE,dF,dH,dP,dK,ed,l,t,()));generalize lk:((ch,bN,b1,bC,c9,dE,dF,dH,dP,dK,ed):b6)=c at *
 have aL:=wS M;have aw:=aL.PO;have tI:∀ s∈gI c,pg c.1.length s=true:=λs aA=>aL.PQ aA;have aI:=aL.dO;have hlen:∀ u,(dT c w u).length<=12:=λu=>Nat.le_trans (Y5 (gI c) w u) aw;have kX:∀ u,ED (ns.sh,dT c w u,())=A.pure (bJ c w u,()):=λu=>aor (hlen u);have fl:∀ u,(bJ c w u).length<=12:=λu=>YP aL w u;have aou:∀ u,mv l w u=dT c w u:=λu=>by rw [an];rfl
 rw [<-an] at aw tI;clear an;unfold Yc;rw [show IQ.sh w=A.pure w from A.eZ (show w.length<65536 by have:=aa.1;omega) _];simp only [A.aX,A.bX,A.bL];rw [A.fv l (λi (_:Unit)=>(w,l,(l.length:Int),(i:Int),w,mv (l.take i) w 0,mv (l.take i) w 1,mv (l.take i) w 2,mv (l.take i) w 3,mv (l.take i) w 4,mv (l.take i) w 5,mv (l.take i) w 6,mv (l.take i) w 7,mv (l.take i) w 8,mv (l.take i) w 9,ch,bN,b1,bC,c9,dE,dF,dH,dP,dK,ed,l,t,())) (λ_ b=>.next b) (λ_=>.next (w,dT c w 0,dT c w 1,dT c w 2,dT c w 3,dT c w 4,dT c w 5,dT c w 6,dT c w 7,dT c w 8,dT c w 9,ch,bN,b1,bC,c9,dE,dF,dH,dP,dK,ed,l,t,())) () ?_ ?_ ?_]
 ·rw [g7];simp only [A.aX,A.bX,Prod.b5,Prod.cR,Prod.cW,Prod.cX,Prod.c2,Prod.c1,Prod.cS,Prod.cY,Prod.c3,Prod.dv,Prod.dG,Prod.dL,Prod.df,Prod.dg,Prod.dh,Prod.di,Prod.ds,Prod.dt,Prod.dp,Prod.dz,Prod.ei,Prod.ej,Prod.iX,Prod.jE,Prod.jF,Prod.Bd,Prod.IH,A.bL];rw [A.ba (by decide),A.ba (by decide),kX,A.aX];rw [aoo];rw [tq (bJ c w 0) (.done (.done (none,false,ch,bN,b1,bC,c9,dE,dF,dH,dP,dK,ed,l,t,()))) (.next (Int.ofNat 0,w,bJ c w 0,dT c w 1,dT c w 2,dT c w 3,dT c w 4,dT c w 5,dT c w 6,dT c w 7,dT c w 8,dT c w 9,ch,bN,b1,bC,c9,dE,dF,dH,dP,dK,ed,l,t,())) ?_ ?_];rotate_left
  ·intro i U;simp only [cc,dn U,if_true,dd U,en U,A.bL];rcases Nat.mod_two_eq_zero_or_one i with hm | hm
   ·have aN:decide (Int.tmod (i:Int) 2=1)=false:=by rw [l0,hm];rfl
    have hw:=bF (n:=(i:Int)+1) (by omega) (by have:=fl 0;omega);simp only [aN,Bool.false_eq_true,if_false,A.kH,A.aX,A.bX];rw [A.ba (by decide)];refine (l1 (fl 0) U (by rw [hm];rfl) _ _).trans ?_;simp only [b',hw];cases iw (bJ c w 0) i<;>rfl
   ·have aN:decide (Int.tmod (i:Int) 2=1)=true:=by rw [l0,hm];rfl
    have hw:=bF (n:=(i:Int)+1) (by omega) (by have:=fl 0;omega);simp only [aN,if_true,A.kH,A.aX,A.bX];rw [A.ba (by decide)];refine (l1 (fl 0) U (by rw [hm];rfl) _ _).trans ?_;simp only [b',hw];cases iw (bJ c w 0) i<;>rfl
  ·simp
  cases aov:ia (bJ c w 0)
  ·simp only [aov,Bool.false_and,Bool.and_false,Bool.false_eq_true,if_false,A.aX,A.jf]
  simp only [if_true,Bool.true_and,A.aX,A.bX];rw [A.ba (by decide),A.ba (by decide),kX,A.aX];rw [tq (bJ c w 1) (.done (.done (none,false,ch,bN,b1,bC,c9,dE,dF,dH,dP,dK,ed,l,t,()))) (.next (Int.ofNat 1,w,bJ c w 0,bJ c w 1,dT c w 2,dT c w 3,dT c w 4,dT c w 5,dT c w 6,dT c w 7,dT c w 8,dT c w 9,ch,bN,b1,bC,c9,dE,dF,dH,dP,dK,ed,l,t,())) ?_ ?_];rotate_left
  ·intro i U;simp only [cc,dn U,if_true,dd U,en U,A.bL];rcases Nat.mod_two_eq_zero_or_one i with hm | hm
   ·have aN:decide (Int.tmod (i:Int) 2=1)=false:=by rw [l0,hm];rfl
    have hw:=bF (n:=(i:Int)+1) (by omega) (by have:=fl 1;omega);simp only [aN,Bool.false_eq_true,if_false,A.kH,A.aX,A.bX];rw [A.ba (by decide)];refine (l1 (fl 1) U (by rw [hm];rfl) _ _).trans ?_;simp only [b',hw];cases iw (bJ c w 1) i<;>rfl
   ·have aN:decide (Int.tmod (i:Int) 2=1)=true:=by rw [l0,hm];rfl
    have hw:=bF (n:=(i:Int)+1) (by omega) (by have:=fl 1;omega);simp only [aN,if_true,A.kH,A.aX,A.bX];rw [A.ba (by decide)];refine (l1 (fl 1) U (by rw [hm];rfl) _ _).trans ?_;simp only [b',hw];cases iw (bJ c w 1) i<;>rfl
  ·simp
  cases aow:ia (bJ c w 1)
  ·simp only [aow,Bool.false_and,Bool.and_false,Bool.false_eq_true,if_false,A.aX,A.jf]
  simp only [if_true,Bool.true_and,A.aX,A.bX];rw [A.ba (by decide),A.ba (by decide),kX,A.aX];rw [tq (bJ c w 2) (.done (.done (none,false,ch,bN,b1,bC,c9,dE,dF,dH,dP,dK,ed,l,t,()))) (.next (Int.ofNat 2,w,bJ c w 0,bJ c w 1,bJ c w 2,dT c w 3,dT c w 4,dT c w 5,dT c w 6,dT c w 7,dT c w 8,dT c w 9,ch,bN,b1,bC,c9,dE,dF,dH,dP,dK,ed,l,t,())) ?_ ?_];rotate_left
  ·intro i U;simp only [cc,dn U,if_true,dd U,en U,A.bL];rcases Nat.mod_two_eq_zero_or_one i with hm | hm
   ·have aN:decide (Int.tmod (i:Int) 2=1)=false:=by rw [l0,hm];rfl
    have hw:=bF (n:=(i:Int)+1) (by omega) (by have:=fl 2;omega);simp only [aN,Bool.false_eq_true,if_false,A.kH,A.aX,A.bX];rw [A.ba (by decide)];refine (l1 (fl 2) U (by rw [hm];rfl) _ _).trans ?_;simp only [b',hw];cases iw (bJ c w 2) i<;>rfl
   ·have aN:decide (Int.tmod (i:Int) 2=1)=true:=by rw [l0,hm];rfl
    have hw:=bF (n:=(i:Int)+1) (by omega) (by have:=fl 2;omega);simp only [aN,if_true,A.kH,A.aX,A.bX];rw [A.ba (by decide)];refine (l1 (fl 2) U (by rw [hm];rfl) _ _).trans ?_;simp only [b',hw];cases iw (bJ c w 2) i<;>rfl
  ·simp
  cases AN:ia (bJ c w 2)
  ·simp only [AN,Bool.false_and,Bool.and_false,Bool.false_eq_true,if_false,A.aX,A.jf]
  simp only [if_true,Bool.true_and,A.aX,A.bX];rw [A.ba (by decide),A.ba (by decide),kX,A.aX];rw [tq (bJ c w 3) (.done (.done (none,false,ch,bN,b1,bC,c9,dE,dF,dH,dP,dK,ed,l,t,()))) (.next (Int.ofNat 3,w,bJ c w 0,bJ c w 1,bJ c w 2,bJ c w 3,dT c w 4,dT c w 5,dT c w 6,dT c w 7,dT c w 8,dT c w 9,ch,bN,b1,bC,c9,dE,dF,dH,dP,dK,ed,l,t,())) ?_ ?_];rotate_left
  ·intro i U;simp only [cc,dn U,if_true,dd U,en U,A.bL];rcases Nat.mod_two_eq_zero_or_one i with hm | hm
   ·have aN:decide (Int.tmod (i:Int) 2=1)=false:=by rw [l0,hm];rfl
    have hw:=bF (n:=(i:Int)+1) (by omega) (by have:=fl 3;omega);simp only [aN,Bool.false_eq_true,if_false,A.kH,A.aX,A.bX];rw [A.ba (by decide)];refine (l1 (fl 3) U (by rw [hm];rfl) _ _).trans ?_;simp only [b',hw];cases iw (bJ c w 3) i<;>rfl
   ·have aN:decide (Int.tmod (i:Int) 2=1)=true:=by rw [l0,hm];rfl
    have hw:=bF (n:=(i:Int)+1) (by omega) (by have:=fl 3;omega);simp only [aN,if_true,A.kH,A.aX,A.bX];rw [A.ba (by decide)];refine (l1 (fl 3) U (by rw [hm];rfl) _ _).trans ?_;simp only [b',hw];cases iw (bJ c w 3) i<;>rfl
  ·simp
  cases aox:ia (bJ c w 3)
  ·simp only [aox,Bool.false_and,Bool.and_false,Bool.false_eq_true,if_false,A.aX,A.jf]
  simp only [if_true,Bool.true_and,A.aX,A.bX];rw [A.ba (by decide),A.ba (by decide),kX,A.aX];rw [tq (bJ c w 4) (.done (.done (none,false,ch,bN,b1,bC,c9,dE,dF,dH,dP,dK,ed,l,t,()))) (.next (Int.ofNat 4,w,bJ c w 0,bJ c w 1,bJ c w 2,bJ c w 3,bJ c w 4,dT c w 5,dT c w 6,dT c w 7,dT c w 8,dT c w 9,ch,bN,b1,bC,c9,dE,dF,dH,dP,dK,ed,l,t,())) ?_ ?_];rotate_left
  ·intro i U;simp only [cc,dn U,if_true,dd U,en U,A.bL];rcases Nat.mod_two_eq_zero_or_one i with hm | hm
   ·have aN:decide (Int.tmod (i:Int) 2=1)=false:=by rw [l0,hm];rfl
    have hw:=bF (n:=(i:Int)+1) (by omega) (by have:=fl 4;omega);simp only [aN,Bool.false_eq_true,if_false,A.kH,A.aX,A.bX];rw [A.ba (by decide)];refine (l1 (fl 4) U (by rw [hm];rfl) _ _).trans ?_;simp only [b',hw];cases iw (bJ c w 4) i<;>rfl
   ·have aN:decide (Int.tmod (i:Int) 2=1)=true:=by rw [l0,hm];rfl
    have hw:=bF (n:=(i:Int)+1) (by omega) (by have:=fl 4;omega);simp only [aN,if_true,A.kH,A.aX,A.bX];rw [A.ba (by decide)];refine (l1 (fl 4) U (by rw [hm];rfl) _ _).trans ?_;simp only [b',hw];cases iw (bJ c w 4) i<;>rfl
  ·simp
  cases aoy:ia (bJ c w 4)
  ·simp only [aoy,Bool.false_and,Bool.and_false,Bool.false_eq_true,if_false,A.aX,A.jf]
  simp only [if_true,Bool.true_and,A.aX,A.bX];rw [A.ba (by decide),A.ba (by decide),kX,A.aX];rw [tq (bJ c w 5) (.done (.done (none,false,ch,bN,b1,bC,c9,dE,dF,dH,dP,dK,ed,l,t,()))) (.next (Int.ofNat 5,w,bJ c w 0,bJ c w 1,bJ c w 2,bJ c w 3,bJ c w 4,bJ c w 5,dT c w 6,dT c w 7,dT c w 8,dT c w 9,ch,bN,b1,bC,c9,dE,dF,dH,dP,dK,ed,l,t,())) ?_ ?_];rotate_left
  ·intro i U;simp only [cc,dn U,if_true,dd U,en U,A.bL];rcases Nat.mod_two_eq_zero_or_one i with hm | hm
   ·have aN:decide (Int.tmod (i:Int) 2=1)=false:=by rw [l0,hm];rfl
    have hw:=bF (n:=(i:Int)+1) (by omega) (by have:=fl 5;omega);simp only [aN,Bool.false_eq_true,if_false,A.kH,A.aX,A.bX];rw [A.ba (by decide)];refine (l1 (fl 5) U (by rw [hm];rfl) _ _).trans ?_;simp only [b',hw];cases iw (bJ c w 5) i<;>rfl
   ·have aN:decide (Int.tmod (i:Int) 2=1)=true:=by rw [l0,hm];rfl
    have hw:=bF (n:=(i:Int)+1) (by omega) (by have:=fl 5;omega);simp only [aN,if_true,A.kH,A.aX,A.bX];rw [A.ba (by decide)];refine (l1 (fl 5) U (by rw [hm];rfl) _ _).trans ?_;simp only [b',hw];cases iw (bJ c w 5) i<;>rfl
  ·simp
  cases aoz:ia (bJ c w 5)
  ·simp only [aoz,Bool.false_and,Bool.and_false,Bool.false_eq_true,if_false,A.aX,A.jf]
  simp only [if_true,Bool.true_and,A.aX,A.bX];rw [A.ba (by decide),A.ba (by decide),kX,A.aX];rw [tq (bJ c w 6) (.done (.done (none,false,ch,bN,b1,bC,c9,dE,dF,dH,dP,dK,ed,l,t,()))) (.next (Int.ofNat 6,w,bJ c w 0,bJ c w 1,bJ c w 2,bJ c w 3,bJ c w 4,bJ c w 5,bJ c w 6,dT c w 7,dT c w 8,dT c w 9,ch,bN,b1,bC,c9,dE,dF,dH,dP,dK,ed,l,t,())) ?_ ?_];rotate_left
  ·intro i U;simp only [cc,dn U,if_true,dd U,en U,A.bL];rcases Nat.mod_two_eq_zero_or_one i with hm | hm
   ·have aN:decide (Int.tmod (i:Int) 2=1)=false:=by rw [l0,hm];rfl
    have hw:=bF (n:=(i:Int)+1) (by omega) (by have:=fl 6;omega);simp only [aN,Bool.false_eq_true,if_false,A.kH,A.aX,A.bX];rw [A.ba (by decide)];refine (l1 (fl 6) U (by rw [hm];rfl) _ _).trans ?_;simp only [b',hw];cases iw (bJ c w 6) i<;>rfl
   ·have aN:decide (Int.tmod (i:Int) 2=1)=true:=by rw [l0,hm];rfl
    have hw:=bF (n:=(i:Int)+1) (by omega) (by have:=fl 6;omega);simp only [aN,if_true,A.kH,A.aX,A.bX];rw [A.ba (by decide)];refine (l1 (fl 6) U (by rw [hm];rfl) _ _).trans ?_;simp only [b',hw];cases iw (bJ c w 6) i<;>rfl
  ·simp
  cases aoA:ia (bJ c w 6)
  ·simp only [aoA,Bool.false_and,Bool.and_false,Bool.false_eq_true,if_false,A.aX,A.jf]
  simp only [if_true,Bool.true_and,A.aX,A.bX];rw [A.ba (by decide),A.ba (by decide),kX,A.aX];rw [tq (bJ c w 7) (.done (.done (none,false,ch,bN,b1,bC,c9,dE,dF,dH,dP,dK,ed,l,t,()))) (.next (Int.ofNat 7,w,bJ c w 0,bJ c w 1,bJ c w 2,bJ c w 3,bJ c w 4,bJ c w 5,bJ c w 6,bJ c w 7,dT c w 8,dT c w 9,ch,bN,b1,bC,c9,dE,dF,dH,dP,dK,ed,l,t,())) ?_ ?_];rotate_left
  ·intro i U;simp only [cc,dn U,if_true,dd U,en U,A.bL];rcases Nat.mod_two_eq_zero_or_one i with hm | hm
   ·have aN:decide (Int.tmod (i:Int) 2=1)=false:=by rw [l0,hm];rfl
    have hw:=bF (n:=(i:Int)+1) (by omega) (by have:=fl 7;omega);simp only [aN,Bool.false_eq_true,if_false,A.kH,A.aX,A.bX];rw [A.ba (by decide)];refine (l1 (fl 7) U (by rw [hm];rfl) _ _).trans ?_;simp only [b',hw];cases iw (bJ c w 7) i<;>rfl
   ·have aN:decide (Int.tmod (i:Int) 2=1)=true:=by rw [l0,hm];rfl
    have hw:=bF (n:=(i:Int)+1) (by omega) (by have:=fl 7;omega);simp only [aN,if_true,A.kH,A.aX,A.bX];rw [A.ba (by decide)];refine (l1 (fl 7) U (by rw [hm];rfl) _ _).trans ?_;simp only [b',hw];cases iw (bJ c w 7) i<;>rfl
  ·simp
  cases aoB:ia (bJ c w 7)
  ·simp only [aoB,Bool.false_and,Bool.and_false,Bool.false_eq_true,if_false,A.aX,A.jf]
  simp only [if_true,Bool.true_and,A.aX,A.bX];rw [A.ba (by decide),A.ba (by decide),kX,A.aX];rw [tq (bJ c w 8) (.done (.done (none,false,ch,bN,b1,bC,c9,dE,dF,dH,dP,dK,ed,l,t,()))) (.next (Int.ofNat 8,w,bJ c w 0,bJ c w 1,bJ c w 2,bJ c w 3,bJ c w 4,bJ c w 5,bJ c w 6,bJ c w 7,bJ c w 8,dT c w 9,ch,bN,b1,bC,c9,dE,dF,dH,dP,dK,ed,l,t,())) ?_ ?_];rotate_left
  ·intro i U;simp only [cc,dn U,if_true,dd U,en U,A.bL];rcases Nat.mod_two_eq_zero_or_one i with hm | hm
   ·have aN:decide (Int.tmod (i:Int) 2=1)=false:=by rw [l0,hm];rfl
    have hw:=bF (n:=(i:Int)+1) (by omega) (by have:=fl 8;omega);simp only [aN,Bool.false_eq_true,if_false,A.kH,A.aX,A.bX];rw [A.ba (by decide)];refine (l1 (fl 8) U (by rw [hm];rfl) _ _).trans ?_;simp only [b',hw];cases iw (bJ c w 8) i<;>rfl
   ·have aN:decide (Int.tmod (i:Int) 2=1)=true:=by rw [l0,hm];rfl
    have hw:=bF (n:=(i:Int)+1) (by omega) (by have:=fl 8;omega);simp only [aN,if_true,A.kH,A.aX,A.bX];rw [A.ba (by decide)];refine (l1 (fl 8) U (by rw [hm];rfl) _ _).trans ?_;simp only [b',hw];cases iw (bJ c w 8) i<;>rfl
  ·simp
  cases aoC:ia (bJ c w 8)
  ·simp only [aoC,Bool.false_and,Bool.and_false,Bool.false_eq_true,if_false,A.aX,A.jf]
  simp only [if_true,Bool.true_and,A.aX,A.bX];rw [A.ba (by decide),A.ba (by decide),kX,A.aX];rw [tq (bJ c w 9) (.done (.done (none,false,ch,bN,b1,bC,c9,dE,dF,dH,dP,dK,ed,l,t,()))) (.next (Int.ofNat 9,w,bJ c w 0,bJ c w 1,bJ c w 2,bJ c w 3,bJ c w 4,bJ c w 5,bJ c w 6,bJ c w 7,bJ c w 8,bJ c w 9,ch,bN,b1,bC,c9,dE,dF,dH,dP,dK,ed,l,t,())) ?_ ?_];rotate_left
  ·intro i U;simp only [cc,dn U,if_true,dd U,en U,A.bL];rcases Nat.mod_two_eq_zero_or_one i with hm | hm
   ·have aN:decide (Int.tmod (i:Int) 2=1)=false:=by rw [l0,hm];rfl
    have hw:=bF (n:=(i:Int)+1) (by omega) (by have:=fl 9;omega);simp only [aN,Bool.false_eq_true,if_false,A.kH,A.aX,A.bX];rw [A.ba (by decide)];refine (l1 (fl 9) U (by rw [hm];rfl) _ _).trans ?_;simp only [b',hw];cases iw (bJ c w 9) i<;>rfl
   ·have aN:decide (Int.tmod (i:Int) 2=1)=true:=by rw [l0,hm];rfl
    have hw:=bF (n:=(i:Int)+1) (by omega) (by have:=fl 9;omega);simp only [aN,if_true,A.kH,A.aX,A.bX];rw [A.ba (by decide)];refine (l1 (fl 9) U (by rw [hm];rfl) _ _).trans ?_;simp only [b',hw];cases iw (bJ c w 9) i<;>rfl
  ·simp
  cases Y6:ia (bJ c w 9)
  ·simp only [Y6,Bool.false_and,Bool.and_false,Bool.false_eq_true,if_false,A.aX,A.jf]
  simp only [if_true,Bool.true_and,A.aX,A.bX];rw [A.ba (by decide)];simp only [A.aX,A.bX,Y6,if_true]
 ·simp only [cc,List.take_zero];rfl
 ·intro i U b;obtain ⟨aS,aY,bK,fe⟩:=aos (c:=c) aw tI aa U;have hw:=bF (n:=(i:Int)+1) (by omega) (by omega);have h2:∀ u,(mv (l.take i) w u).length<=12:=λu=>by have:=Y5 (l.take i) w u;rw [List.length_take] at this;omega
  have h2:∀ u,bT (Add.add (mv (l.take i) w u).length (Add.add 0 1)):=λu=>Bh (by have:=h2 u;simp only [ku];omega);simp only [ab.h',aon U];simp only [Prod.b5,Prod.cR,Prod.cW,Prod.cX,Prod.c2,Prod.c1,Prod.cS,Prod.cY,Prod.c3,Prod.dv,Prod.dG,Prod.dL,Prod.df,Prod.dg,Prod.dh,Prod.di,Prod.ds,Prod.dt,Prod.dp,Prod.dz,Prod.ei,Prod.ej,Prod.iX,Prod.jE,Prod.jF,Prod.Bd,Prod.IH,cc,dn U,if_true,en U,dd U,A.bL,b',hw,bK,fe];have hu:l[i].2.2.2.2.1=0\/l[i].2.2.2.2.1=1\/l[i].2.2.2.2.1=2\/l[i].2.2.2.2.1=3\/l[i].2.2.2.2.1=4\/l[i].2.2.2.2.1=5\/l[i].2.2.2.2.1=6\/l[i].2.2.2.2.1=7\/l[i].2.2.2.2.1=8\/l[i].2.2.2.2.1=9:=by omega
  rcases hu with hu | hu | hu | hu | hu | hu | hu | hu | hu | hu<;>
  ·simp only [hu,ku,Nat.reduceAdd,Int.cast_ofNat_Int,Int.reduceEq,if_true,if_false,Int.reduceLE,Int.reduceLT,and_self,A.bL,A.aX,A.bX,hw];simp only [ku] at h2;rw [A.ba (h2 _),aoq hu];simp only [A.aX,A.bX,Prod.b5,Prod.cR,Prod.cW,Prod.cX,Prod.c2,Prod.c1,Prod.cS,Prod.cY,Prod.c3,Prod.dv,Prod.dG,Prod.dL,Prod.df,Prod.dg,Prod.dh,Prod.di,Prod.ds,Prod.dt,Prod.dp,Prod.dz,Prod.ei,Prod.ej,Prod.iX,Prod.jE,Prod.jF,Prod.Bd,Prod.IH,hw];rfl
 ·intro b;simp only [Prod.b5,Prod.cR,Prod.cW,Prod.cX,Prod.c2,Prod.c1,Prod.cS,Prod.cY,Prod.c3,Prod.dv,Prod.dG,Prod.dL,Prod.df,Prod.dg,Prod.dh,Prod.di,Prod.ds,Prod.dt,Prod.dp,Prod.dz,Prod.ei,Prod.ej,Prod.iX,Prod.jE,Prod.jF,Prod.Bd,Prod.IH,List.take_length,aou];simp
end Go.Fer.H
namespace Go.Fer.H
open A (ab)
set_option linter.unusedVariables false
set_option linter.unusedSimpArgs false
abbrev qd (c:b6) (w:List Int):Option hW:=some (w,yX c w)
abbrev aoD (f:Nat) (x:List Int×ew):Prop:=eH (oH x.2)=0/\PX x.2=gI (oH x.2)/\x.1.length<=(oH x.2).1.length/\(oH x.2).1.length<x.1.length+f/\tp (oH x.2) x.1=true/\(Y4 x.2).length+n4 ((oH x.2).1.drop x.1.length)<=60
def yY (f:Nat) (x:List Int×ew):A ew:=A.eT (aoD f x) (EJ (oH x.2) (PX x.2) (Y4 x.2++(n5 (oH x.2) ((oH x.2).1.drop x.1.length) x.1).map (qd (oH x.2))))
theorem aoE (x):¬(yY 0 x).dU:=λh=>by have M:=h.2.2.1;have aa:=h.2.2.2.1;omega
theorem aoF {c:b6} {w:List Int} {n:Int}:tp c (w++[n])=(tp c w&&c5 n (c.1.getD w.length (0,0)).1 (c.1.getD w.length (0,0)).2):=by
 unfold tp;grind
theorem aoG {c:b6} {w:List Int} (aw:w.length=c.1.length) (h:tp c w=true):oG c w=wU c w:=by
 unfold oG wU;grind
set_option maxHeartbeats 1000000 in
theorem aoH (f:Nat) (x):A.bz (Yg (yY f) Jb x) (yY (f+1) x):=A.bU λh=>by
 obtain ⟨w,ch,bN,b1,bC,c9,dE,dF,dH,dP,dK,ed,l,t,u⟩:=x;obtain ⟨M,aa,an,a8,bV,d_⟩:=h;change eH (ch,bN,b1,bC,c9,dE,dF,dH,dP,dK,ed)=0 at M;change l=gI (ch,bN,b1,bC,c9,dE,dF,dH,dP,dK,ed) at aa;change w.length<=ch.length at an;change ch.length<w.length+(f+1) at a8;change tp (ch,bN,b1,bC,c9,dE,dF,dH,dP,dK,ed) w=true at bV;change t.length+n4 (ch.drop w.length)<=60 at d_;show _=A.pure (EJ (ch,bN,b1,bC,c9,dE,dF,dH,dP,dK,ed) l (t++(n5 (ch,bN,b1,bC,c9,dE,dF,dH,dP,dK,ed) (ch.drop w.length) w).map (qd (ch,bN,b1,bC,c9,dE,dF,dH,dP,dK,ed))));have aL:=wS M;have aI:ch.length<=3:=aL.dO;unfold Yg;simp only [Prod.b5,Prod.cR,Prod.cW,Prod.cX,Prod.c2,Prod.c1,Prod.cS,Prod.cY,Prod.c3,Prod.dv,Prod.dG,Prod.dL,Prod.df,Prod.dg,Prod.dh,cc,A.bL];by_cases aw:w.length=ch.length
 ·rw [if_pos (by simp only [decide_eq_true_eq];omega)];have aoI:ph (ch,bN,b1,bC,c9,dE,dF,dH,dP,dK,ed) w:=Y0 aL aw bV;have al:Jb (w,ch,bN,b1,bC,c9,dE,dF,dH,dP,dK,ed,l,t,())=A.pure (if wU (ch,bN,b1,bC,c9,dE,dF,dH,dP,dK,ed) w=true then (qd (ch,bN,b1,bC,c9,dE,dF,dH,dP,dK,ed) w,true,ch,bN,b1,bC,c9,dE,dF,dH,dP,dK,ed,l,t,()) else (none,false,ch,bN,b1,bC,c9,dE,dF,dH,dP,dK,ed,l,t,())):=A.eZ ⟨M,aoI,aa⟩ _;rw [al,A.aX,aw,List.drop_length];unfold n5;rw [aoG aw bV];cases ak:wU (ch,bN,b1,bC,c9,dE,dF,dH,dP,dK,ed) w with
  | true=>
   rw [if_pos rfl,if_pos rfl,A.ba (Bh (by simp only [ku];omega)),A.aX,A.bX];rfl
  | false=>
   simp only [Bool.false_eq_true,if_false,A.aX,A.bX,List.map_nil,List.append_nil]
 ·have cq:w.length<ch.length:=by omega
  rw [if_neg (by simp only [decide_eq_true_eq];omega),A.ba (show (0:Int)<=(w.length:Int)/\(w.length:Int)<(ch.length:Int) by omega)];rw [List.drop_eq_getElem_cons cq] at d_ ⊢;simp only [Int.toNat_natCast,vc cq];have aA:=aL.clk _ (List.getElem_mem cq);change -30<=ch[w.length].1/\ch[w.length].1<=ch[w.length].2/\ch[w.length].2<=30 at aA;have mW:ch.getD w.length (0,0)=ch[w.length]:=vc cq;generalize ch[w.length]=s at *
  unfold n4 at d_;have nV:∀ n (ts:List (Option hW)),s.1<=n->n<=s.2->ts.length+n4 (ch.drop (w.length+1))<=60->yY f (w++[n],ch,bN,b1,bC,c9,dE,dF,dH,dP,dK,ed,l,ts,())=A.pure (EJ (ch,bN,b1,bC,c9,dE,dF,dH,dP,dK,ed) l (ts++(n5 (ch,bN,b1,bC,c9,dE,dF,dH,dP,dK,ed) (ch.drop (w.length+1)) (w++[n])).map (qd (ch,bN,b1,bC,c9,dE,dF,dH,dP,dK,ed)))):=by
   intro n ts aS aY bK;refine (A.eZ ⟨M,aa,?_,?_,?_,?_⟩ _).trans (congrArg A.pure ?_)
   ·show EJ (ch,bN,b1,bC,c9,dE,dF,dH,dP,dK,ed) l (ts++(n5 (ch,bN,b1,bC,c9,dE,dF,dH,dP,dK,ed) (ch.drop (w++[n]).length) (w++[n])).map (qd (ch,bN,b1,bC,c9,dE,dF,dH,dP,dK,ed)))=_;rw [List.length_append,List.length_singleton]
   ·show (w++[n]).length<=ch.length;simp;omega
   ·show ch.length<(w++[n]).length+f;simp;omega
   ·show tp (ch,bN,b1,bC,c9,dE,dF,dH,dP,dK,ed) (w++[n])=true;rw [aoF,bV];show (true&&c5 n (ch.getD w.length (0,0)).1 (ch.getD w.length (0,0)).2)=true;rw [mW,Bool.true_and];exact yT.2 ⟨aS,aY⟩
   ·show ts.length+n4 (ch.drop (w++[n]).length)<=60;rw [List.length_append,List.length_singleton];exact bK
  rw [A.hT (iE s.1 s.2) (λi (ts:List (Option hW))=>(w,(w.length:Int),s.1+(i:Int),ch,bN,b1,bC,c9,dE,dF,dH,dP,dK,ed,l,ts,())) (λn ts=>.next (ts++(n5 (ch,bN,b1,bC,c9,dE,dF,dH,dP,dK,ed) (ch.drop (w.length+1)) (w++[n])).map (qd (ch,bN,b1,bC,c9,dE,dF,dH,dP,dK,ed)))) (λts=>(ch,bN,b1,bC,c9,dE,dF,dH,dP,dK,ed,l,ts,())) (λi ts=>ts.length<=t.length+i*n4 (ch.drop (w.length+1))) t ?_ ?_ ?_ ?_]
  ·rw [g7,Y2 (f:=λn=>(n5 (ch,bN,b1,bC,c9,dE,dF,dH,dP,dK,ed) (ch.drop (w.length+1)) (w++[n])).map (qd (ch,bN,b1,bC,c9,dE,dF,dH,dP,dK,ed)))];rw [<-List.map_flatMap];rfl
  ·rw [Int.natCast_zero,Int.add_zero]
  ·simp
  ·intro i U ts al;rw [sU] at U;have hw:=bF (n:=s.1+(i:Int)+1) (by omega) (by omega);have aN:decide (s.1+(i:Int)<=s.2)=true:=by simpa using (by omega:s.1+(i:Int)<=s.2)
   have hle:=PU (ch,bN,b1,bC,c9,dE,dF,dH,dP,dK,ed) (ch.drop (w.length+1)) (w++[s.1+(i:Int)]);have aoJ:ts.length+n4 (ch.drop (w.length+1))<=60:=by
    have:(i+1)*n4 (ch.drop (w.length+1))<=(s.2 - s.1+1).toNat*n4 (ch.drop (w.length+1)):=Nat.mul_le_mul_right _ (by omega);rw [Nat.succ_mul] at this;omega
   refine ⟨?_,λbg dq=>?_⟩
   ·simp only [Int.toNat_natCast,mW,aN,if_true,b',hw,G7,List.take_length];rw [A.ba (by omega),A.ba ⟨by omega,by omega,trivial,by omega⟩,A.ba ⟨by simp only [ku];omega,Bh (by simp only [ku];omega)⟩,nV _ ts (by omega) (by omega) aoJ,A.aX];simp only [ab.h'];rw [show s.1+((i+1:Nat):Int)=s.1+(i:Int)+1 from by omega]
   ·simp only [ab.next.injEq,G7] at dq;subst dq;rw [List.length_append,List.length_map,Nat.succ_mul];omega
  ·intro ts al;rw [sU];have aN:decide (s.1+(((s.2 - s.1+1).toNat:Nat):Int)<=s.2)=false:=by simpa using (by omega:s.2<s.1+(((s.2 - s.1+1).toNat:Nat):Int))
   simp only [Int.toNat_natCast,mW,aN,Bool.false_eq_true,if_false,A.aX];rw [A.ba (by omega)]
abbrev Bu:b6:=([],[],[],[],0,0,0,0,0,0,0)
abbrev Bv:aU:=⟨.aG jU (.bQ p_),dm,λx=>∃ c:b6,x.2=some c/\c.2.2.1.length<2 ^ 63,λx=>(x.2.getD Bu).2.2.1.contains (q_ x.1)⟩
theorem aoK (x):A.bz (XV mj.sh x) (Bv.sh x):=A.bU λh=>by
 obtain ⟨s,o⟩:=x;obtain ⟨c,hc,h⟩:=h;change o=some c at hc;subst hc;unfold XV;simp only [Option.getD_some];rw [show mj.sh (c.2.2.1,s.1)=A.pure (c.2.2.1.contains s.1) from A.eZ h _,A.aX]
abbrev EK (c:b6):jC:=(c,gI c,(jX c).map (qd c))
def EL (c:b6) (f:Option jC->A Bool):Bool:=(f (some (c,gI c,[]))).val false
def tr (c:b6) (b:Bool):Option jC×Int:=if eH c≠0 then (none,eH c) else if b=false then (none,1) else if jX c=[] then (none,3) else (some (EK c),0)
abbrev Jc:aU:=⟨.aG p_ (.fn (.bQ Be) .bool),.aG (.bQ Be) bp,λx=>r' x.1/\(eH x.1=0->∃ b,x.2 (some (x.1,gI x.1,[]))=A.pure b),λx=>tr x.1 (EL x.1 x.2)⟩
theorem aoL {c:b6} (aL:k2 c):I4 ((λs=>Bv.sh (s,some c)),k1 c.2.1,())=A.pure ((0,(gI c).length),gI c++List.replicate ((k1 c.2.1).length - (gI c).length) n2,()):=by
 have aj:∀ s,Bv.sh (s,some c)=A.pure (c.2.2.1.contains s.1):=λs=>A.eZ ⟨c,rfl,by have:=aL.lb;omega⟩ _;have e:((k1 c.2.1).filter λs=>!(Bv.sh (s,some c)).val false)=gI c:=by
  unfold gI;simp_all
 have:=anN c.2.1;refine (A.eZ ⟨show (k1 c.2.1).length<2 ^ 63 by omega,λs _=>⟨_,aj s⟩⟩ _).trans (congrArg A.pure ?_);grind
set_option maxHeartbeats 1000000 in
theorem aoM (x):A.bz (XM mT.sh I3 I4 (yY 5) Bv.sh x) (Jc.sh x):=A.bU λh=>by
 obtain ⟨c,f⟩:=x;obtain ⟨h,ax⟩:=h;change r' c at h;change eH c=0->∃ b,f (some (c,gI c,[]))=A.pure b at ax;unfold XM;show _=A.pure (tr c (EL c f));unfold tr;rw [show mT.sh c=A.pure (eH c) from A.eZ h.mI _];simp only [A.aX,decide_eq_true_eq];by_cases hc:eH c=0
 ·simp only [hc,ne_eq,not_true_eq_false,if_false];have aL:=wS hc;obtain ⟨b,af⟩:=ax hc;have M:=aL.dO;have qA:=PM aL.nz;rw [show I3 (c.2.1,())=A.pure (true,k1 c.2.1,()) from A.eZ ⟨qA,(I1 _).2 aL.Bo⟩ _,A.aX];simp only [A.bL];rw [aoL aL,A.aX];have tn:List.drop 0 (List.take (gI c).length (gI c++List.replicate ((k1 c.2.1).length - (gI c).length) n2))=gI c:=by
   rw [List.drop_zero,List.take_left]
  simp only [tn];unfold EL;simp only [af,A.nN,A.aX];cases b with
  | false=>simp
  | true=>
   simp only [Bool.not_true,Bool.false_eq_true,if_false,A.aX,A.bX,reduceCtorEq];simp only [Prod.b5,Prod.cR,Prod.cW,Prod.cX,Prod.c2,Prod.c1,Prod.cS,Prod.cY,Prod.c3,Prod.dv,Prod.dG,Prod.dL,Prod.df,Prod.dg,Prod.dh,tn];have mW:yY 5 ([],c.1,c.2.1,c.2.2.1,c.2.2.2.1,c.2.2.2.2.1,c.2.2.2.2.2.1,c.2.2.2.2.2.2.1,c.2.2.2.2.2.2.2.1,c.2.2.2.2.2.2.2.2.1,c.2.2.2.2.2.2.2.2.2.1,c.2.2.2.2.2.2.2.2.2.2,gI c,[],())=A.pure (EJ c (gI c) ((jX c).map (qd c))):=A.eZ ⟨hc,rfl,Nat.zero_le _,show c.1.length<0+5 by omega,rfl,show 0+n4 c.1<=60 by have:=h.2 hc;omega⟩ _;rw [mW,A.aX];simp only [cc,List.length_map];by_cases aR:jX c=[]
   ·simp [aR]
   ·have:¬((jX c).length:Int)=0:=λe=>aR (List.eq_nil_of_length_eq_zero (by omega));simp only [this,aR,if_false]
 ·simp only [hc,ne_eq,not_false_eq_true,if_true]
def wV (l:List (Option hW)) (f:Option hW->A (Int×Bool)):Option (Int×Int):=yW (l.filterMap λt=>if ((f t).val (0,false)).2=true then some ((f t).val (0,false)).1 else none)
abbrev Jd:aU:=⟨.aG (.bQ Be) (.fn (.bQ IL) (.aG bp .bool)),.aG rR .bool,λx=>∃ b:jC,x.1=some b/\b.2.2.length<=60/\∀ t∈b.2.2,∃ r,x.2 t=A.pure r,λx=>((wV (x.1.getD (Bu,[],[])).2.2 x.2).getD (0,0),(wV (x.1.getD (Bu,[],[])).2.2 x.2).isSome)⟩
theorem Y7 {ao β gJ:Type} (g:ao->Option β) (h:gJ->β->gJ):∀ (l:List ao) (b:gJ),l.foldl (λb x=>(g x).elim b λy=>h b y) b=(l.filterMap g).foldl h b
 | [],b=>rfl
 | x::l,b=>by
  simp only [List.foldl_cons,List.filterMap_cons];rw [Y7 g h l];grind
theorem aoN (x):A.bz (XR x) (Jd.sh x):=A.bU λh=>by
 obtain ⟨o,f⟩:=x;obtain ⟨b,af,aw,ax⟩:=h;change o=some b at af;subst af;unfold XR;show _=A.pure ((wV b.2.2 f).getD (0,0),(wV b.2.2 f).isSome);simp only [Option.isSome_some,A.bL,Option.getD_some];change b.2.2.length<=60 at aw;change ∀ t∈b.2.2,∃ r,f t=A.pure r at ax;generalize b.2.2=l at *
 rw [A.fv l (λi (o:Option (Int×Int))=>(f,o.isSome,l,(l.length:Int),(i:Int),o.getD (0,0),())) (λt o=>.next ((if ((f t).val (0,false)).2=true then some ((f t).val (0,false)).1 else none).elim o λn=>some (I9 o n))) (λo=>.next (o.isSome,o.getD (0,0),())) none ?_ ?_ ?_]
 ·rw [g7,Y7 (λt=>if ((f t).val (0,false)).2=true then some ((f t).val (0,false)).1 else none) (λo n=>some (I9 o n)),A.aX];rfl
 ·rfl
 ·intro i U o;have hw:=bF (n:=(i:Int)+1) (by omega) (by omega);obtain ⟨r,W⟩:=ax _ (List.getElem_mem U);simp only [Prod.b5,cc,dn U,if_true,en U,dd U,A.bL,b',hw,W,A.aX,A.nN,ab.h'];obtain ⟨n,cb⟩:=r;cases cb with
  | false=>simp_all
  | true=>
   cases o with
   | none=>simp only [Bool.not_true,Bool.false_eq_true,if_false,if_true,Option.isSome_none,Bool.not_false,A.aX,A.bX,hw,Option.elim];rfl
   | some s=>
    simp only [Bool.not_true,Bool.false_eq_true,if_false,if_true,Option.isSome_some,A.aX,A.bX,hw,Option.elim,Option.getD_some];rw [YU,an7];rfl
 simp
end Go.Fer.H
