/- Part 3 of the proof of TopPlanned: shallow programs of Go functions, and what they compute. No condition. -/
import Derived.Test.YtjjgkigajpocoaaGreatDoorTopPlannedB
import Derived.Lib.ConvBytes
noncomputable section
set_option linter.unusedVariables false
set_option linter.unusedSimpArgs false
namespace Go.Fer
open Go.RowKit
universe u
variable {bet:Type}
def d':M bet:=⟨False,λ_=>False⟩
inductive cg where
 | undef
 | val (t:V)
 | eL (t:V)
 | eX (b off:Nat)
 | own (b:Nat)
 | sub (b:Nat)
 | hj (b:Nat)
 | l2 (b:Nat)
 | dW
 | jh (k:FuncId) (hD:z9')
 | aS (aI:V)
 | il
 | fB (dB:List Nat)
 | kM (b:Nat)
 | hM (b:Nat)
 deriving DecidableEq
inductive cc where
 | cells (t:V) (l:List cg)
 | bn (e:V)
 | jz (e:V)
 | mp (k v:V)
 | k9 (k v:V)
 | gy (t:V)
 | im (t:V)
 | cG (k v:V)
 | h6 (e:V) (t:cg)
 | bR (e:V)
def cg.cons(t:cg)(R:Type):Type:=
 match t with
 | .val t=>t.aj×R
 | .eL t=>t.aj×R
 | .sub _=>(z21')×R
 | .aS aI=>(Nat×(List aI.aj->Prop)×List aI.aj×Bool)×R
 | .il=>Nat×R
 | .kM _=>Nat×R
 | _=>R
def sR:List cg->Type->Type
 | [],R=>R
 | t::l,R=>t.cons (sR l R)
def cc.cons(t:cc)(R:Type):Type:=
 match t with
 | .cells _ l=>sR l R
 | .bn e=>List e.aj×R
 | .jz e=>List e.aj×R
 | .mp k v=>List (k.aj×v.aj)×R
 | .k9 k v=>List (k.aj×v.aj)×R
 | .gy t=>t.aj×R
 | .im t=>t.aj×R
 | .cG k v=>(Option (k.aj×v.aj)×List (k.aj×v.aj))×R
 | .h6 e t=>(List e.aj×Nat)×t.cons R
 | .bR e=>List (Nat×List e.aj)×R
def cc.l3:cc->Bool
 | .bR _=>true
 | _=>false
def cc.Gx:cc->Bool
 | .cells _ _ | .bn _ | .mp _ _ | .gy _ | .cG _ _ | .h6 _ _=>true
 | _=>false
def cc.KQ(t u:cc):Bool:=
 match t,u with
 | .cells _ _,.cells _ _ | .cells _ _,.gy _ | .gy _,.cells _ _ | .gy _,.gy _ | .im _,.cells _ _ | .im _,.gy _=>true
 | .mp _ _,.mp _ _ | .k9 _ _,.mp _ _=>true
 | .bn e,.bn aZ=>decide (e=aZ)
 | .jz _,.bn _=>true
 | _,_=>false
structure eC where
 b1:List (Nat×cg)
 bF:List (Nat×cc)
def pv:List (Nat×cc)->Type
 | []=>Unit
 | p::l=>p.2.cons (pv l)
def q7:List (Nat×cg)->Type->Type
 | [],R=>R
 | p::l,R=>p.2.cons (q7 l R)
def eC.aj(sh:eC):Type:=q7 sh.b1 (pv sh.bF)
def yx(g:Nat->z21')(hD:z9'):Nat->aL:=hY (hD.map λp=>.eX (g p.1).1 (g p.1).2 p.2)
def yy(g:Nat->z21')(dB:List Nat):Nat->aL:=hY (dB.map λb=>.own (g b).1 (g b).2)
variable {R:Type}
def cg.av(g:Nat->z21')(t:cg)(x:t.cons R):aL×R:=
 match t,x with
 | .undef,x=>(.undef,x)
 | .val t,x=>(.val t x.1,x.2)
 | .eL t,x=>(.eL t x.1,x.2)
 | .eX b off,x=>(.eX (g b).1 (g b).2 off,x)
 | .own b,x=>(.own (g b).1 (g b).2,x)
 | .sub b,x=>(.sub (g b).1 (g b).2 x.1.1 x.1.2,x.2)
 | .hj b,x=>(.hj (g b).1 (g b).2,x)
 | .l2 b,x=>(.l2 (g b).1 (g b).2,x)
 | .dW,x=>(.dW,x)
 | .jh k hD,x=>(.jh k hD.length (yx g hD),x)
 | .aS aI,x=>(.aS x.1.1 aI x.1.2.1 x.1.2.2.1 x.1.2.2.2,x.2)
 | .il,x=>(.il x.1,x.2)
 | .fB dB,x=>(.agg dB.length (yy g dB),x)
 | .kM b,x=>(.kM (g b).1 (g b).2 x.1,x.2)
 | .hM b,x=>(.hM (g b).1 (g b).2,x)
def rP(g:Nat->z21'):(l:List cg)->{R:Type}->sR l R->List aL×R
 | [],_,x=>([],x)
 | t::l,_,x=>let (a,y):=t.av g x;let (as,z):=rP g l y;(a::as,z)
def cc.body(g:Nat->z21')(t:cc)(x:t.cons R):b'×R:=
 match t,x with
 | .cells t l,x=>let (as,y):=rP g l x;(.cells t (hY as),y)
 | .bn e,x=>(.bn e x.1,x.2)
 | .jz e,x=>(.jz e x.1,x.2)
 | .mp k v,x=>(.mp k v x.1,x.2)
 | .k9 k v,x=>(.k9 k v x.1,x.2)
 | .gy t,x=>(.cells t (hY (p7 t x.1)),x.2)
 | .im t,x=>(.im t x.1,x.2)
 | .cG k v,x=>(.cG k v x.1.1 x.1.2,x.2)
 | .h6 e t,x=>let (a,y):=t.av g x.2;(.h6 e x.1.1 x.1.2 a,y)
 | .bR e,x=>(.bR e x.1,x.2)
def eV(g:Nat->z21'):(l:List (Nat×cg))->{R:Type}->q7 l R->List (Nat×aL)×R
 | [],_,x=>([],x)
 | p::l,_,x=>let (a,y):=p.2.av g x;let (as,z):=eV g l y;((p.1,a)::as,z)
def gV(g:Nat->z21'):(l:List (Nat×cc))->pv l->List (Nat×b')
 | [],_=>[]
 | p::l,x=>let (a,y):=p.2.body g x;(p.1,a)::gV g l y
def fv:List (Nat×aL)->Nat->aL
 | [],_=>.undef
 | p::l,i=>if i=p.1 then p.2 else fv l i
def eP:List (Nat×b')->Nat->b9
 | [],_=>⟨0,.ev⟩
 | p::l,i=>if i=p.1 then ⟨0,p.2⟩ else eP l i
def Zz(apn:List (Nat×aL))(dB:List (Nat×b')):aB:=⟨fv apn,eP dB⟩
def dx(b:Nat):z21':=(b,0)
def eC.ad(sh:eC)(A:sh.aj):aB:=
 Zz (eV dx sh.b1 A).1 (gV dx sh.bF (eV dx sh.b1 A).2)
def AO(H:Nat->b9)(t:V)(av:aL)(r:Option (R×List Nat)):Option ((t.aj×R)×List Nat):=
 match (ej t av).run H with
 | some (x,l)=>match r with
  | some (y,m)=>some ((x,y),l++m)
  | none=>none
 | none=>none
def QK(t:V)(av:aL)(r:Option (R×List Nat)):Option ((t.aj×R)×List Nat):=
 match av with
 | .eL dM x=>match r with
  | some (y,m)=>if h:dM=t then some ((h ▸ x,y),m) else none
  | none=>none
 | _=>none
def QL(H:Nat->b9)(b:Nat)(av:aL)(r:Option (R×List Nat)):Option (((z21')×R)×List Nat):=
 match r with
 | some (y,m)=>match av with
  | .own bj g=>if (bj == b&&g == (H b).gen&&(H b).body.gO)=true then some (((0,(H b).body.len),y),m) else none
  | .sub bj g a7 G=>if (bj == b&&g == (H b).gen)=true then some (((a7,G),y),m) else none
  | _=>none
 | none=>none
def QM(aI:V)(av:aL)(r:Option (R×List Nat)):Option (((Nat×(List aI.aj->Prop)×List aI.aj×Bool)×R)×List Nat):=
 match av with
 | .aS l mX ab n ad=>match r with
  | some (y,m)=>if h:mX=aI then some (((l,h ▸ ab,h ▸ n,ad),y),m) else none
  | none=>none
 | _=>none
def QN(av:aL)(r:Option (R×List Nat)):Option ((Nat×R)×List Nat):=
 match av with
 | .il l=>match r with
  | some (y,m)=>some ((l,y),m)
  | none=>none
 | _=>none
def QO(H:Nat->b9)(b:Nat)(av:aL)(r:Option (R×List Nat)):Option ((Nat×R)×List Nat):=
 match av with
 | .kM bj g i=>match r with
  | some (y,m)=>if (bj == b&&g == (H b).gen)=true then some ((i,y),m) else none
  | none=>none
 | _=>none
def KR(H:Nat->b9)(b off:Nat)(av:aL):Bool:=
 match av with
 | .eX bj g apo=>bj == b&&apo == off&&g == (H b).gen
 | _=>false
def KS(H:Nat->b9)(b:Nat)(av:aL):Bool:=
 match av with
 | .own bj g=>bj == b&&g == (H b).gen
 | _=>false
def QP(H:Nat->b9)(b:Nat)(av:aL):Bool:=
 match av with
 | .hj bj g=>bj == b&&g == (H b).gen
 | _=>false
def QQ(H:Nat->b9)(b:Nat)(av:aL):Bool:=
 match av with
 | .l2 bj g=>bj == b&&g == (H b).gen
 | _=>false
def QR(H:Nat->b9)(b:Nat)(av:aL):Bool:=
 match av with
 | .eX bj g 0=>bj == b&&g == (H b).gen
 | .hM bj g=>bj == b&&g == (H b).gen
 | .val (.bO _) none=>true
 | .k8 (.pointer none)=>true
 | _=>false
def QS(av:aL):Bool:=
 match av with
 | .dW=>true
 | _=>false
def QT(H:Nat->b9)(f:Nat->Nat)(k:FuncId)(hD:z9')(av:aL):Bool:=
 match av with
 | .jh k' n dP=>k' == k&&n == hD.length&&(List.range n).all λi=>match hD[i]? with
  | some p=>KR H (f p.1) p.2 (dP i)
  | none=>false
 | _=>false
def QU(H:Nat->b9)(f:Nat->Nat)(dB:List Nat)(av:aL):Bool:=
 match av with
 | .agg n h=>n == dB.length&&(List.range n).all λi=>match dB[i]? with
  | some b=>KS H (f b) (h i)
  | none=>false
 | _=>false
variable {ag:Type}
def xh(b:Bool)(r:Option ag):Option ag:=match b with | true=>r | false=>none
def cg.kR(H:Nat->b9)(f:Nat->Nat)(t:cg)(av:aL)(r:Option (R×List Nat)):Option (t.cons R×List Nat):=
 match t with
 | .undef=>r
 | .val t=>AO H t av r
 | .eL t=>QK t av r
 | .eX b off=>xh (KR H (f b) off av) r
 | .own b=>xh (KS H (f b) av) r
 | .sub b=>QL H (f b) av r
 | .hj b=>xh (QP H (f b) av) r
 | .l2 b=>xh (QQ H (f b) av) r
 | .dW=>xh (QS av) r
 | .jh k hD=>xh (QT H f k hD av) r
 | .aS aI=>QM aI av r
 | .il=>QN av r
 | .fB dB=>xh (QU H f dB av) r
 | .kM b=>QO H (f b) av r
 | .hM b=>xh (QR H (f b) av) r
def De(H:Nat->b9)(f:Nat->Nat):(l:List cg)->(Nat->aL)->Nat->{R:Type}->Option (R×List Nat)->Option (sR l R×List Nat)
 | [],_,_,_,r=>r
 | t::l,c,i,_,r=>t.kR H f (c i) (De H f l c (i+1) r)
def QV(H:Nat->b9)(f:Nat->Nat)(t:V)(l:List cg)(b:b')(r:Option (R×List Nat)):Option (sR l R×List Nat):=
 match b with
 | .cells dM c=>if dM=t/\t.size=l.length then De H f l c 0 r else none
 | _=>none
def QW(e:V)(b:b')(r:Option (R×List Nat)):Option ((List e.aj×R)×List Nat):=
 match b with
 | .bn aZ xs=>match r with
  | some (y,m)=>if h:aZ=e then some ((h ▸ xs,y),m) else none
  | none=>none
 | _=>none
def QX(k v:V)(b:b')(r:Option (R×List Nat)):Option ((List (k.aj×v.aj)×R)×List Nat):=
 match b with
 | .mp k' iu es=>match r with
  | some (y,m)=>if h:k'=k/\iu=v then some ((h.1 ▸ h.2 ▸ es,y),m) else none
  | none=>none
 | _=>none
def QY(k v:V)(b:b')(r:Option (R×List Nat)):Option (((Option (k.aj×v.aj)×List (k.aj×v.aj))×R)×List Nat):=
 match b with
 | .cG k' iu c es=>match r with
  | some (y,m)=>if h:k'=k/\iu=v then some (((h.1 ▸ h.2 ▸ c,h.1 ▸ h.2 ▸ es),y),m) else none
  | none=>none
 | _=>none
def QZ(H:Nat->b9)(f:Nat->Nat)(e:V)(t:cg)(b:b')(r:Option (R×List Nat)):Option (((List e.aj×Nat)×t.cons R)×List Nat):=
 match b with
 | .h6 aZ xs i v=>match t.kR H f v r with
  | some (y,m)=>if h:aZ=e then some (((h ▸ xs,i),y),m) else none
  | none=>none
 | _=>none
def Q0(e:V)(b:b')(r:Option (R×List Nat)):Option ((List (Nat×List e.aj)×R)×List Nat):=
 match b with
 | .bR aZ m=>match r with
  | some (y,l)=>if h:aZ=e then some ((h ▸ m,y),l) else none
  | none=>none
 | .ev=>match r with
  | some (y,l)=>some (([],y),l)
  | none=>none
 | _=>none
def Q1(H:Nat->b9)(t:V)(b:b')(r:Option (R×List Nat)):Option ((t.aj×R)×List Nat):=
 match b with
 | .cells dM f=>if dM=t then AO H t (.agg t.size f) r else none
 | _=>none
def Q2(H:Nat->b9)(t:V)(b:Nat)(r:Option (R×List Nat)):Option ((t.aj×R)×List Nat):=
 match (ej (.bO t) (.eX b (H b).gen 0)).run H with
 | some (some x,l)=>match r with
  | some (y,m)=>some ((x,y),l++m)
  | none=>none
 | _=>none
def cc.kR(H:Nat->b9)(f:Nat->Nat)(t:cc)(b:Nat)(r:Option (R×List Nat)):Option (t.cons R×List Nat):=
 match t with
 | .cells t l=>QV H f t l (H b).body r
 | .bn e=>QW e (H b).body r
 | .jz e=>AO H (.slice e) (.own b (H b).gen) r
 | .mp k v=>QX k v (H b).body r
 | .k9 k v=>AO H (.map k v) (.hj b (H b).gen) r
 | .gy t=>Q1 H t (H b).body r
 | .im t=>Q2 H t b r
 | .cG k v=>QY k v (H b).body r
 | .h6 e t=>QZ H f e t (H b).body r
 | .bR e=>Q0 e (H b).body r
def Df(H:Nat->b9)(f:Nat->Nat):(l:List (Nat×cc))->Option (pv l×List Nat)
 | []=>some ((),[])
 | p::l=>p.2.kR H f (f p.1) (Df H f l)
def Dg(H:Nat->b9)(f:Nat->Nat):(l:List (Nat×cg))->(Nat->aL)->{R:Type}->Option (R×List Nat)->Option (q7 l R×List Nat)
 | [],_,_,r=>r
 | p::l,c,_,r=>p.2.kR H f (c p.1) (Dg H f l c r)
def eC.rQ(sh:eC):List Nat:=sh.bF.filterMap λp=>if p.2.Gx then some p.1 else none
def eC.Dh(sh:eC)(f:Nat->Nat)(s:aB):Option (sh.aj×List Nat):=
 match Dg s.aa f sh.b1 s.aA (Df s.aa f sh.bF) with
 | some (A,b_)=>if sh.rQ.all (λb=>!b_.contains (f b))=true then some (A,b_) else none
 | none=>none
def Q3:List (Nat×cc)->Nat->Option cc
 | [],_=>none
 | p::l,b=>if b=p.1 then some p.2 else Q3 l b
def Q4(s:aB)(i b bj g':Nat):aB:=
 match decide (bj≠b/\g'=(s.aa bj).gen),(s.aa bj).body with
 | true,.bn e xs=>⟨λj=>if j=i then .own b ((s.aa b).gen+1) else s.aA j,λj=>if j=b then ⟨(s.aa b).gen+1,.bn e xs⟩ else if j=bj then ⟨(s.aa bj).gen+1,.ev⟩ else s.aa j⟩
 | _,_=>s
def Q5(dB:List (Nat×cc))(s:aB)(i b:Nat):aB:=
 match s.aA i,Q3 dB b with
 | .dW,some (.bn e)=>⟨λj=>if j=i then .own b ((s.aa b).gen+1) else s.aA j,(s.ct b ⟨(s.aa b).gen+1,.bn e []⟩).aa⟩
 | .own bj g',some (.bn _)=>Q4 s i b bj g'
 | _,_=>s
def Q6(dB:List (Nat×cc))(s:aB)(c j b:Nat):aB:=
 match (s.aa c).body with
 | .cells t f=>match f j,(s.aa b).body,Q3 dB b with
  | .dW,.ev,some (.bn e)=>(s.ct b ⟨(s.aa b).gen+1,.bn e []⟩).ct c ⟨(s.aa c).gen,.cells t λq=>if q=j then .own b ((s.aa b).gen+1) else f q⟩
  | _,_,_=>s
 | _=>s
def KT(dB:List (Nat×cc)):List (Nat×cg)->aB->aB
 | [],s=>s
 | p::l,s=>KT dB l (match p.2 with | .own b=>Q5 dB s p.1 b | _=>s)
def KU(dB:List (Nat×cc))(c:Nat):List cg->Nat->aB->aB
 | [],_,s=>s
 | t::l,j,s=>KU dB c l (j+1) (match t with | .own b=>Q6 dB s c j b | _=>s)
def KV(dB:List (Nat×cc)):List (Nat×cc)->aB->aB
 | [],s=>s
 | p::l,s=>KV dB l (match p.2 with | .cells _ ts=>KU dB p.1 ts 0 s | _=>s)
def eC.KW(sh:eC)(s:aB):aB:=KV sh.bF sh.bF (KT sh.bF sh.b1 s)
def cc.ZA:cc->Bool
 | .bn _ | .jz _ | .h6 _ _=>true
 | _=>false
def eC.tN(sh:eC)(s:aB):Bool:=sh.bF.all λp=>!(decide (z'<=p.1)&&p.2.ZA)||decide ((s.aa p.1).gen=0)
def eC.kR(sh:eC)(s:aB):Option (sh.aj):=
 match sh.tN (sh.KW s) with
 | true=>(sh.Dh (λb=>b) (sh.KW s)).map (·.1)
 | false=>none
def eC.pw(sh:eC)(s:aB)(k:sh.aj->M bet):M bet:=
 match sh.kR s with
 | some A=>k A
 | none=>d'
def cg.AP(t:cg)(r:R):t.cons R:=
 match t with
 | .val t=>(t.dU,r)
 | .eL t=>(t.dU,r)
 | .sub _=>((0,0),r)
 | .aS _=>((0,λ_=>False,[],false),r)
 | .il=>(0,r)
 | .kM _=>(0,r)
 | .undef | .eX _ _ | .own _ | .hj _ | .l2 _ | .dW | .jh _ _ | .fB _ | .hM _=>r
def ZB:(l:List cg)->{R:Type}->R->sR l R
 | [],_,r=>r
 | t::l,_,r=>t.AP (ZB l r)
def cc.AP(t:cc){R:Type}(r:R):t.cons R:=
 match t with
 | .cells _ l=>ZB l r
 | .bn _=>([],r)
 | .jz _=>([],r)
 | .mp _ _=>([],r)
 | .k9 _ _=>([],r)
 | .gy t=>(t.dU,r)
 | .im t=>(t.dU,r)
 | .cG _ _=>((none,[]),r)
 | .h6 _ t=>(([],0),t.AP r)
 | .bR _=>([],r)
def ZC:(l:List (Nat×cc))->pv l
 | []=>()
 | p::l=>p.2.AP (ZC l)
def ZD:(l:List (Nat×cg))->{R:Type}->R->q7 l R
 | [],_,r=>r
 | p::l,_,r=>p.2.AP (ZD l r)
def eC.AP(sh:eC):sh.aj:=ZD sh.b1 (ZC sh.bF)
structure jG where
 ts:V
 aS:V
 sh:ts.aj->M aS.aj
 KX:Bool
def aO.dJ(c:aO):jG:=⟨c.ts,c.aS,c.sh,true⟩
def M.Gy(m:M ag):Prop:=∀ x y,m.a_ x->m.a_ y->x=y
open Classical in
def M.val(m:M ag)(d:ag):ag:=if h:∃ x,m.a_ x then h.choose else d
def jG.KY(c:jG):aO:=⟨c.ts,c.aS,λx=>(c.sh x).e3,λx=>(c.sh x).val c.aS.dU⟩
structure cK where
 cA:eC
 a_:eC
 ln:z10'
 kS:Nat
 sh:cA.aj->M a_.aj
structure Di where
 ts:V
 aI:V
 pre:ts.aj->Prop
 seq:ts.aj->List aI.aj
inductive gp where
 | dJ (c:jG)
 | eD (c:cK)
 | cG (c:Di)
 | ZE (c:jG)
 | KZ (c:cK) (sh:Nat->c.cA.aj->M c.a_.aj) (ids:List Nat)
 | mB (c:aO)
def K1(br:Nat->Option aO)(Psi:Nat->Option gp)(k:Nat):Option aO:=
 match Psi k with
 | some (.dJ c)=>match c.KX&&!p_ c.aS with
  | true=>some c.KY
  | false=>none
 | some (.mB c)=>some c
 | some _=>none
 | none=>br k
def Q7(br:Nat->Option aO)(Psi:Nat->Option gp)(k:Nat):Option jG:=
 match Psi k with
 | some (.dJ c)=>some c
 | some _=>none
 | none=>(br k).bind λc=>if p_ c.aS=true then none else some c.dJ
structure iD where
 ag:Type
 d:ag
 cy:Prop
 m:M ag
 ad:ag->aB
 Gz:Option (Bool->ag->aB)
def uk(s:aB)(o:Oper)(aS:V)(b_:List Nat)(v:aL):aB:=(if aS.pure then s else s.cD b_).set o.dst v
def GA(aQ:dV)(s:aB)(o:Oper)(args:List Operand)(dJ:jG):Option iD:=
 match (kd dJ.ts ((args.map (bh aQ s.aA)).map λv=>(use v).2)).run s.aa with
 | some (x,b_)=>some ⟨dJ.aS.aj,dJ.aS.dU,kf (args.map (bh aQ s.aA)),dJ.sh x,λy=>uk s o dJ.aS b_ (qV dJ.aS y),some λg y=>uk s o dJ.aS b_ (.ks g (qV dJ.aS y))⟩
 | none=>none
def K3(aQ:dV)(s:aB)(o:Oper)(args:List Operand)(dJ:jG):Option iD:=
 match (kd dJ.ts ((args.map (bh aQ s.aA)).map λv=>(use v).2)).run s.aa with
 | some (x,_)=>some ⟨dJ.aS.aj,dJ.aS.dU,kf (args.map (bh aQ s.aA)),dJ.sh x,λy=>s.set o.dst (qV dJ.aS y),none⟩
 | none=>none
def GB(aQ:dV)(s:aB)(o:Oper)(t:Nat)(args:List Operand):Option iD:=
 match use (s.aA t) with
 | (cy,.val (.fn a b) f)=>match (kd a ((args.map (bh aQ s.aA)).map λv=>(use v).2)).run s.aa with
  | some (x,b_)=>some ⟨b.aj,b.dU,cy/\kf (args.map (bh aQ s.aA)),f x,λy=>uk s o b b_ (qV b y),some λg y=>uk s o b b_ (.ks g (qV b y))⟩
  | none=>none
 | _=>none
def ZF(t:cg)(av:aL):z9':=
 match t,av with
 | .eX bj _,.eX b _ _=>[(bj,b)]
 | .own bj,.own b _=>[(bj,b)]
 | .hM bj,.eX b _ _=>[(bj,b)]
 | .hM bj,.hM b _=>[(bj,b)]
 | .sub bj,.own b _=>[(bj,b)]
 | .sub bj,.sub b _ _ _=>[(bj,b)]
 | .hj bj,.hj b _=>[(bj,b)]
 | .l2 bj,.l2 b _=>[(bj,b)]
 | .jh _ hD,.jh _ _ dP=>(List.range hD.length).filterMap λi=>match hD[i]?,dP i with
  | some p,.eX b _ _=>some (p.1,b)
  | _,_=>none
 | _,_=>[]
def ZG:List cg->(Nat->aL)->Nat->z9'
 | [],_,_=>[]
 | t::l,c,i=>ZF t (c i)++ZG l c (i+1)
def Q8:z9'->Nat->Option Nat
 | [],_=>none
 | p::l,b=>if b=p.1 then some p.2 else Q8 l b
def ZH(H:Nat->b9):List (Nat×cc)->z9'->z9'
 | [],m=>m
 | p::l,m=>ZH H l (m++match p.2,Q8 m p.1 with
  | .cells _ ts,some b=>(match (H b).body with | .cells _ c=>ZG ts c 0 | _=>[])
  | _,_=>[])
def apq(sh:eC)(s:aB):z9':=ZH s.aa sh.bF (sh.b1.flatMap λp=>ZF p.2 (s.aA p.1))
def vu(s:aB)(cV:List aL):aB:=⟨λi=>if i=cd then s.aA cd else if i<cV.length then cV.getD i .undef else .undef,s.aa⟩
def sS:Nat:=99999
def sT(s:aB)(d:Nat)(f:Nat->Nat)(ins:List Nat):List (Nat×cc)->Nat->z8'
 | [],_=>[]
 | p::l,j=>(if p.2.l3 then (p.1,(cF,(s.aa cF).gen)) else if ins.contains p.1 then (p.1,(f p.1,match p.2 with
   | .cells _ _ | .gy _ | .mp _ _ | .im _ | .k9 _ _=>(s.aa (f p.1)).gen
   | .bn _=>if z'<=p.1 then (s.aa (f p.1)).gen else (s.aa (f p.1)).gen+1
   | _=>(s.aa (f p.1)).gen+1)) else (p.1,(50000+10*d+j,(s.aa (50000+10*d+j)).gen+1)))::sT s d f ins l (j+1)
def gJ:z8'->Nat->z21'
 | [],_=>(sS,0)
 | p::l,b=>if b=p.1 then p.2 else gJ l b
def sU:z10'->(Nat->aL)->Nat->List aL
 | [],_,_=>[]
 | none::l,c,i=>c i::sU l c (i+1)
 | some n::l,c,i=>.agg n (λj=>c (i+j))::sU l c (i+n)
def Q9(l:List aL):aL:=
 match l with
 | [v]=>v
 | l=>.sF l.length (hY l)
def AQ(s:aB)(c:cK)(f:Nat->Nat)(cu:z8')(bl:c.a_.aj):aB:=
 ⟨λi=>if i=cd then (if c.a_.b1.any (λp=>p.1 == cd) then fv (eV (gJ cu) c.a_.b1 bl).1 cd else if c.cA.b1.any (λp=>p.1 == cd) then .undef else s.aA cd) else s.aA i,λb=>match cu.find? (λp=>p.2.1 == b) with
  | some p=>⟨p.2.2,(eP (gV (gJ cu) c.a_.bF (eV (gJ cu) c.a_.b1 bl).2) p.1).body⟩
  | none=>if (c.cA.rQ.map f).contains b then ⟨(s.aa b).gen+1,.ev⟩ else s.aa b⟩
def apr(s:aB)(o:Oper)(c:cK)(f:Nat->Nat)(cu:z8')(bl:c.a_.aj):aB:=
 aB.set (AQ s c f cu bl) o.dst (Q9 (sU c.ln (fv (eV (gJ cu) c.a_.b1 bl).1) 0))
def K4(l:List Nat):Bool:=decide l.Nodup
def ZI(ins a_:List (Nat×cc))(aS:aL):Bool:=
 (ins++a_).all (λp=>!p.2.l3||decide (p.1=cF))&&(!(ins.any λp=>p.2.l3)||a_.any λp=>p.2.l3)&&(!(a_.any λp=>p.2.l3)||match aS with | .aS ..=>false | _=>true)
def GC(c:cK)(f:Nat->Nat)(s2:aB)(cu:z8')(d n:Nat):Bool:=
  decide (d < 4000) && decide (c.a_.bF.length <= 10) && K4 (c.cA.bF.map (·.1)) && K4 (c.cA.bF.map λp => f p.1) && K4 (cu.map (·.1)) && K4 (cu.map (·.2.1)) && (c.cA.bF.map (·.1)).all (λb => decide (fz <= b))
        &&!(cu.map (·.2.1)).contains sS&&(match (s2.aa sS).body with | .ev=>true | _=>false)&&c.a_.bF.all (λp=>c.cA.bF.all λq=>!(p.1 == q.1&&q.2.Gx)||p.2.KQ q.2)&&(decide (n=c.kS)&&decide (n<=fz))
        &&(ZI c.cA.bF c.a_.bF (s2.aA cd)&&(decide (f cF=cF)&&(!(s2.aa cF).body.l3||!c.a_.b1.any (λp=>p.1 == cd))))
def vv(aQ:dV)(s:aB)(args:List Operand):List aL:=(args.map (bh aQ s.aA)).map λv=>(use v).2
def vw(c:cK)(s1:aB)(b:Nat):Nat:=if b=cF then cF else (Q8 (apq c.cA s1) b).getD sS
def AR(s:aB)(o:Oper)(c:cK)(cV:List aL)(cy:Prop)(n:Nat):Option iD:=
 match c.cA.Dh (vw c (vu s cV)) (vu s cV) with
 | some (A,b_)=>match GC c (vw c (vu s cV)) (s.cD b_) (sT (s.cD b_) (o.dst.getD 0) (vw c (vu s cV)) c.cA.rQ c.a_.bF 0) (o.dst.getD 0) n with
  | true=>some ⟨c.a_.aj,c.a_.AP,cy,c.sh A,λbl=>apr (s.cD b_) o c (vw c (vu s cV)) (sT (s.cD b_) (o.dst.getD 0) (vw c (vu s cV)) c.cA.rQ c.a_.bF 0) bl,none⟩
  | false=>none
 | none=>none
def GD(aQ:dV)(s:aB)(o:Oper)(args:List Operand)(c:cK):Option iD:=
 AR s o c (vv aQ s args) (kf (args.map (bh aQ s.aA))) args.length
def K5(aQ:dV)(Psi:Nat->Option gp)(s:aB)(o:Oper)(t:Nat)(args:List Operand):Option iD:=
 match use (s.aA t) with
 | (cy,.jh k n dP)=>match Psi k with
  | some (.eD c)=>AR s o c (vv aQ s args++(List.range n).map dP) (cy/\kf (args.map (bh aQ s.aA))) (args.length+n)
  | _=>none
 | _=>none
def ZJ(e:V)(b:b'):Option (List (Nat×List e.aj)):=
 match b with
 | .ev=>some []
 | b=>Aj e b
def K6(aQ:dV)(T:Nat->V)(s:aB)(o:Oper)(src dst:TypeId)(x:Operand):Option iD:=
 match s.aA cd with
 | .aS ..=>none
 | _=>if T dst=.cM (.int .u8)/\T src=.str then (match use (bh aQ s.aA x) with
  | (cy,.val .str b)=>match ZJ (.int .u8) (s.aa cF).body with
   | some m=>some ⟨Nat,0,cy,ae (cb b.length) (mN λid=>id ∉ m.map (·.1)),λid=>(s.ct cF ⟨(s.aa cF).gen,.bR (.int .u8) ((id,de b)::m)⟩).set o.dst (.val (.cM (.int .u8)) (id,0,b.length)),none⟩
   | none=>none
  | _=>none) else none
def ZK:Nat:=999999
def ZL(c:cK)(sh:Nat->c.cA.aj->M c.a_.aj)(ids:List Nat)(n:Option Nat):cK:={ c with sh:=λA=>ae (∃ k∈ids,n=some k) (sh (n.getD 0) A) }
def K7(aQ:dV)(Psi:Nat->Option gp)(s:aB)(o:Oper)(t:Nat)(args:List Operand):Option iD:=
 match s.aA t with
 | .val .eW n=>match Psi ZK with
  | some (.KZ c sh ids)=>GD aQ s o args (ZL c sh ids n)
  | _=>none
 | _=>none
def K8(aQ:dV)(s:aB)(o:Oper)(t:Nat)(args:List Operand):Option iD:=
 match s.aA t,s.aA cd with
 | .il et,.aS l aI ab n ad=>match (kd aI ((args.map (bh aQ s.aA)).map λv=>(use v).2)).run s.aa with
  | some (x,b_)=>some ⟨Bool,false,kf (args.map (bh aQ s.aA)),ae (et=l/\ad=false/\∃ T,ab (n++x::T)) (mN λ_=>True),λb=>aB.set ⟨λi=>if i=cd then .aS l aI ab (n++[x]) (!b) else s.aA i,(s.cD b_).aa⟩ o.dst (.val .bool b),none⟩
  | none=>none
 | _,_=>none
def K9(aQ:dV)(T:Nat->V)(s:aB)(o:Oper)(ty:TypeId)(x:Operand):Option iD:=
 match T ty,o.dst with
 | .map k v,some d=>match use (bh aQ s.aA x) with
  | (cy,av)=>match (ej (.map k v) av).run s.aa with
   | some (es,b_)=>if b_.contains d then none else
    some ⟨Unit,(),cy,mpure (),λ_=>((s.cD b_).ct d ⟨(s.aa d).gen+1,.cG k v none es⟩).set o.dst (.l2 d ((s.aa d).gen+1)),none⟩
   | none=>none
 | _,_=>none
def K_(l:List ag):M (Option Nat):=⟨True,λx=>match x with | none=>l=[] | some i=>i<l.length⟩
def ZM(i:Option Nat):Nat:=match i with | none=>0 | some _=>2
def qj(c:Option ag)(b8:List ag)(i:Option Nat):Option ag:=match i with | none=>c | some i=>b8[i]?
def GF(b8:List ag)(i:Option Nat):List ag:=match i with | none=>b8 | some i=>b8.eraseIdx i
def K'(aQ:dV)(s:aB)(o:Oper)(x:Operand)(str:Bool):Option iD:=
 match str,bh aQ s.aA x with
 | false,.l2 b g=>if (s.aa b).gen=g then (match (s.aa b).body with
  | .cG k v c b8=>some ⟨Option Nat,none,True,K_ b8,λi=>(s.ct b ⟨g,.cG k v (qj c b8 i) (GF b8 i)⟩).set o.dst (.sF (Nat.succ (ZM i)) (hY [.val .bool i.isSome])),none⟩
  | _=>none) else none
 | _,_=>none
def La(aQ:dV)(s:aB)(o:Oper)(x:Operand):Option iD:=
 match bh aQ s.aA x with
 | .l2 b g=>if (s.aa b).gen=g then (match (s.aa b).body with
  | .cG k v c _=>some ⟨Unit,(),True,ae (c.isSome=true) (mpure ()),λ_=>s.set o.dst (.sF 2 (hY [.val k ((c.map (·.1)).getD k.dU),.val v ((c.map (·.2)).getD v.dU)])),none⟩
  | _=>none) else none
 | _=>none
def GG(aQ:dV)(T:Nat->V)(s:aB)(o:Oper)(op:BinOp)(ty:TypeId)(x y:Operand):Option iD:=
 match T ty,bh aQ s.aA y with
 | .slice e,.dW=>match (ej (.slice e) (use (bh aQ s.aA x)).2).run s.aa with
  | some (xs,_)=>match op with
   | .eql=>some ⟨Bool,false,(use (bh aQ s.aA x)).1,mN λb=>b=true->xs=[],λb=>s.set o.dst (.val .bool b),none⟩
   | .neq=>some ⟨Bool,false,(use (bh aQ s.aA x)).1,mN λb=>b=true->xs=[],λb=>s.set o.dst (.val .bool (!b)),none⟩
   | _=>none
  | none=>none
 | _,_=>none
def um(aQ:dV)(T:Nat->V)(br:Nat->Option aO)(Psi:Nat->Option gp)(s:aB)(o:Oper):Option iD:=
 match o.op with
 | .call c=>match c.callee with
  | .value f=>match f with
   | .func k=>match Psi k with
    | some (.eD gl)=>GD aQ s o c.args.toList gl
    | some (.ZE gl)=>K3 aQ s o c.args.toList gl
    | _=>match Q7 br Psi k with
     | some dJ=>GA aQ s o c.args.toList dJ
     | none=>none
   | .tmp t=>match GB aQ s o t c.args.toList with
    | some r=>some r
    | none=>match K7 aQ Psi s o t c.args.toList with
     | some r=>some r
     | none=>match K5 aQ Psi s o t c.args.toList with
      | some r=>some r
      | none=>K8 aQ s o t c.args.toList
   | _=>none
  | _=>none
 | .range ty x=>K9 aQ T s o ty x
 | .next x str=>K' aQ s o x str
 | .entry x=>La aQ s o x
 | .binOp op ty x y _=>GG aQ T s o op ty x y
 | .convert src dst x=>K6 aQ T s o src dst x
 | _=>none
def yz(g:Bool)(m:M ag)(d:ag):M ag:=if g=true then m else mpure d
def yA(b:Bool)(p:Prop)(m:M bet):M bet:=match b with | true=>m | false=>ae p m
def Lb(o:Oper)(hn:aL)(l:List (Nat×b9)):Option (List (Nat×b9)×aL):=
 match l with
 | []=>some ([],hn)
 | p::et=>match o.op with
  | .makeFunc ..=>some (p::et,hn)
  | .buildSlice _ n _=>match et,hn,p.2.body with
   | [],.own bj g',.bn e xs=>if (bj=p.1/\g'=p.2.gen)/\n≠0 then some ([(p.1,⟨p.2.gen,.ev⟩)],.val (.slice e) xs) else none
   | _,_,_=>none
  | _=>none
def ZN(jC:List (Nat×b9))(hn:aL):aL:=
 match hn with
 | .own b _=>match jC.find? (λp=>p.1 == b) with
  | some (_,⟨_,.bn e xs⟩)=>.val (.slice e) xs
  | _=>hn
 | _=>hn
abbrev rR:=List (Nat×(Nat×Bool))
def yB(ops:Array Oper)(j d:Nat):Bool:=match ops[j]? with | some o=>(match o.dst with | some e=>e == d | none=>false) | none=>false
def aps(e9:rR)(t:Nat)(k:Nat×Bool):Bool:=e9.any λp=>p.1 == t&&(p.2.1 == k.1&&p.2.2 == k.2)
def AS(ops:Array Oper)(e9:rR)(o:Oper):rR:=
 match o.dst with
 | none=>e9
 | some d=>match o.guard with
  | some k=>if yB ops k.1 d=true then e9.filter λp=>p.1 != d&&!yB ops p.2.1 d else (d,k)::e9.filter λp=>p.1 != d&&!yB ops p.2.1 d
  | none=>e9.filter λp=>p.1 != d&&!yB ops p.2.1 d
def AT(rho:Operand->aL)(e9:rR)(gk:Option (Nat×Bool))(x:Operand):Bool:=
 !(rho x).C7||(match x,gk with | .tmp t,some k=>aps e9 t k | _,_=>false)
def Lc(ops:Array Oper)(e9:rR)(c x:Operand)(want:Bool):Bool:=
 match c,x with
 | .tmp c,.tmp t=>e9.any λp=>p.1 == t&&(yB ops p.2.1 c&&p.2.2 == want)
 | _,_=>false
def Q_(rho:Operand->aL)(e9:rR)(gk:Option (Nat×Bool))(o:Oper):Bool:=o.op.operands.toList.all (AT rho e9 gk)
def GH(rho:Operand->aL)(ops:Array Oper)(e9:rR)(gk:Option (Nat×Bool))(o:Oper):Bool:=
 match o.op with
 | .pick c a b=>AT rho e9 gk c&&((AT rho e9 gk a||Lc ops e9 c a true)&&(AT rho e9 gk b||Lc ops e9 c b false))
 | _=>Q_ rho e9 gk o
def Q'(rho:Operand->aL)(e9:rR)(gk:Option (Nat×Bool))(o:Oper)(hn:aL):Bool:=
 !hn.C7||(match o.op with | .move x=>AT rho e9 gk x | _=>false)
def j3:Operand->Option Nat
 | .tmp t=>some t
 | _=>none
def Dj(o gS nA:Oper):Option (Oper×Nat×Nat):=
 match o.op with
 | .mapEntry ty m x=>match gS.op with
  | .extract e 1=>match nA.op with
   | .entryStore mQ dw aZ y=>match o.dst,gS.dst,nA.dst with
    | some d1,some d2,none=>if j3 e=some d1/\j3 aZ=some d2/\mQ=ty/\(j3 dw).isSome=true/\j3 dw=j3 m/\(j3 y).isSome=true/\j3 m≠some d1/\j3 m≠some d2/\j3 y≠some d1/\j3 y≠some d2/\o.guard.isNone=true/\gS.guard.isNone=true/\nA.guard.isNone=true
     then some ({ nA with op:=.mapUpdate ty m x y },d1,d2) else none
    | _,_,_=>none
   | _=>none
  | _=>none
 | _=>none
def Dk(o:Oper)(os:List Oper):Option (Oper×Nat×Nat):=
 match os with
 | gS::nA::_=>Dj o gS nA
 | _=>none
def Ld{bet:Type}:Nat->Int->(Nat->M bet)->M bet
 | 0,_,_=>d'
 | 1,_,k=>k 0
 | n+2,v,k=>if v=((n+1:Nat):Int) then k (n+1) else Ld (n+1) v k
theorem ZO{bet:Type}{O:bet->Prop}{k:Nat->M bet}{v:Int}:∀ {n:Nat},c' (Ld n v k) O->0<=v->v<(n:Int)->c' (k v.toNat) O
 | 0,h,_,_=>h.1.elim
 | 1,h,aW,E=>by
  have:v.toNat=0:=by omega
  rw[this];exact h
 | n+2,h,aW,E=>by
  unfold Ld at h;split at h
  ·grind
  ·exact ZO h aW (by omega)
def oP{bet:Type}(aQ:dV)(T:Nat->V)(br:Nat->Option aO)(Psi:Nat->Option gp)(ops:Array Oper):List Oper->rR->aB->(aB->M bet)->M bet
 | [],_,s,k=>k s
 | o::os,e9,s,k=>
  match Dk o os with
  | some (lN,d1,d2)=>match os with
   | _::_::apt=>match (iv aQ T br (bh aQ s.aA) lN).run s.aa with
    | some res=>ae res.cy (ae res.c (oP aQ T br Psi ops apt [] (((s.jE none res).set (some d1) .undef).set (some d2) .undef) k))
    | none=>d'
   | _=>d'
  | none=>
  match ma s.aA ops o.guard with
  | none=>d'
  | some none=>match (iv aQ T br (bh aQ s.aA) o).run s.aa with
   | some res=>yA (GH (bh aQ s.aA) ops e9 none o) res.cy (yA (vs (bh aQ s.aA) o) res.c (oP aQ T br Psi ops os (AS ops e9 o) (s.jE o.dst res) k))
   | none=>match um aQ T br Psi s o with
    | some cI=>yA (uh (bh aQ s.aA) o) cI.cy (aq cI.m λy=>oP aQ T br Psi ops os [] (cI.ad y) k)
    | none=>d'
  | some (some g)=>match (iv aQ T br (bh aQ s.aA) o).run s.aa with
   | some ⟨cy,c,hn,jC⟩=>match Lb o hn jC with
    | some (AU,vx)=>yA (GH (bh aQ s.aA) ops e9 o.guard o&&(vs (bh aQ s.aA) o&&Q' (bh aQ s.aA) e9 o.guard o vx)) (g=true->cy/\(c/\(use vx).1)) (oP aQ T br Psi ops os (AS ops e9 o) ((s.iw AU).set o.dst (.ks g (use vx).2)) k)
    | none=>if g=true then ae cy (ae c (oP aQ T br Psi ops os [] (s.jE o.dst ⟨cy,c,hn,jC⟩) k)) else oP aQ T br Psi ops os [] (s.set o.dst (.ks false (ZN jC (use hn).2))) k
   | none=>match um aQ T br Psi s o with
    | some cI=>match cI.Gz with
     | some gs=>yA (Q_ (bh aQ s.aA) e9 o.guard o) (g=true->cI.cy) (aq (yz g cI.m cI.d) λy=>oP aQ T br Psi ops os (AS ops e9 o) (gs g y) k)
     | none=>if g=true then ae cI.cy (aq cI.m λy=>oP aQ T br Psi ops os [] (cI.ad y) k) else oP aQ T br Psi ops os [] (s.set o.dst (.ks false (use ((cI.ad cI.d).aA (o.dst.getD 0))).2)) k
    | none=>d'
def yC{bet:Type}:List Prop->M bet->M bet
 | [],m=>m
 | p::l,m=>ae p (yC l m)
def Dl(cl:List (List Nat)):Nat->Nat
 | 0=>0
 | n+1=>if (List.range n).all (λi=>(cl.getD n []).contains i)=true then Dl cl n else n+1
def Ra(ia kk jH kA ob:Oper):Bool:=
 match ia.op,kk.op,jH.op with
 | .lookup ty m x false,.binOp .add _ (.tmp t) (.const (.int k c)) _,.mapEntry mQ dw eS=>match ia.dst,kk.dst,Dj jH kA ob with
  | some e_,some hq,some (_,d1,d2)=>decide (t=e_/\mQ=ty/\gM k c/\j3 dw=j3 m/\j3 eS=j3 x/\e_≠hq/\e_≠d1/\e_≠d2/\hq≠d1/\hq≠d2/\d1≠d2/\
    (j3 m).isSome=true/\(j3 x).isSome=true/\j3 m≠some e_/\j3 m≠some hq/\j3 m≠some d1/\j3 m≠some d2/\j3 x≠some e_/\j3 x≠some hq/\j3 x≠some d1/\j3 x≠some d2/\ia.guard.isNone=true/\kk.guard.isNone=true)
  | _,_,_=>false
 | _,_,_=>false
def Le(ops:List Oper):Bool:=
 match ops.drop (ops.length - 5) with
 | [ia,kk,jH,kA,ob]=>Ra ia kk jH kA ob&&(Db ops&&((List.range 5).all λq=>(List.range (ops.length - 5)).all λi=>((jF ops).getD (ops.length - 5+q) []).contains i)&&
   ((jF ops).getD (ops.length - 5+1) []).contains (ops.length - 5)&&((jF ops).getD (ops.length - 5+3) []).contains (ops.length - 5+2)&&((List.range 4).all λq=>((jF ops).getD (ops.length - 5+4) []).contains (ops.length - 5+q))&&
   (lM jH).all (λi=>decide (i<ops.length - 5))&&(lM kA).all (λi=>decide (i<ops.length - 5)||decide (i=ops.length - 5+2)))
 | _=>false
def rS(ops:List Oper):Nat:=if Le ops=true then ops.length - 5 else Dl (jF ops) ops.length
def Lf(ops:List Oper)(n:Nat):Bool:=
 Db ops&&(decide (n<ops.length)&&(List.range ops.length).all λj=>(decide (j<n)||(List.range n).all λi=>((jF ops).getD j []).contains i)&&(decide (j<=n)||((jF ops).getD j []).contains n))
def ZP(cl:List (List Nat))(n:Nat)(l:List eU):Bool:=
 (List.range l.length).all λj=>(List.range j).all λi=>match l[i]?,l[j]? with
  | some a,some b=>(cl.getD (n+j) []).contains (n+i)||a.apart b
  | _,_=>false
def Lg(aQ:dV)(T:Nat->V)(br:Nat->Option aO)(ops:Array Oper):List Oper->aB->Nat
 | [],_=>0
 | o::os,s=>match vt aQ T br ops s o with
  | none=>0
  | some r=>Lg aQ T br ops os (r.jT s)+1
def ZQ(aQ:dV)(T:Nat->V)(br:Nat->Option aO)(Psi:Nat->Option gp)(ops:Array Oper)(n:Nat)(s:aB)(k:aB->M bet):M bet:=
 match xg aQ T br ops (ops.toList.take n) s with
 | some (l,s1)=>match AH (ops.toList.take n) l with
  | true=>match ops[n]? with
   | some o=>match ma s1.aA ops o.guard with
    | some none=>match um aQ T br Psi s1 o with
     | some cI=>yC (l.flatMap eU.cs) (yA (uh (bh aQ s1.aA) o) cI.cy (aq cI.m λy=>match xg aQ T br ops (ops.toList.drop (n+1)) (cI.ad y) with
      | some (gD,s2)=>match ZP (jF ops.toList) (n+1) gD with
       | true=>yC (gD.flatMap eU.cs) (k s2)
       | false=>d'
      | none=>d'))
     | none=>d'
    | _=>d'
   | none=>d'
  | false=>d'
 | none=>d'
def Dm(aQ:dV)(T:Nat->V)(br:Nat->Option aO)(Psi:Nat->Option gp)(ops:Array Oper)(s:aB)(k:aB->M bet):M bet:=
 match xg aQ T br ops ops.toList s with
 | some (l,s')=>match AH ops.toList l with
  | true=>yC (l.flatMap eU.cs) (k s')
  | false=>d'
 | none=>match xg aQ T br ops (ops.toList.take (rS ops.toList)) s with
  | some (l,s')=>match AH (ops.toList.take (rS ops.toList)) l&&Db ops.toList with
   | true=>yC (l.flatMap eU.cs) (oP aQ T br Psi ops (ops.toList.drop (rS ops.toList)) [] s' k)
   | false=>d'
  | none=>match Lf ops.toList (Lg aQ T br ops ops.toList s) with
   | true=>ZQ aQ T br Psi ops (Lg aQ T br ops ops.toList s) s k
   | false=>d'
def nB(ops:List Oper):List Oper:=
 match ops with
 | []=>[]
 | o::l=>o::l.map λp=>{ p with after:=p.after.push ⟨0,.phase⟩ }
def Rb(ops:Array Oper):Bool:=
 match ops.toList with
 | []=>false
 | o::l=>(match o.op with | .move _=>true | _=>false)&&(o.guard.isNone&&(o.after.isEmpty&&(Region.noSelect ops&&l.all λp=>(lM p).contains 0||o.apart ops p)))
inductive c8 where
 | fe
 | seq (a b:c8)
 | join (sh:eC) (a b:c8)
 | cond (a b:c8)
 | block (a:c8)
 | loop (sh:eC) (a:c8)
 | scope (a:c8)
 | range (sh rin eb:eC) (a b:c8)
 | iI (a b:c8)
 | split (i off n:Nat) (a:c8)
 | num (i n:Nat) (a:c8)
 | oN (i:Nat) (a:c8)
 | Lh (b:Nat) (a:c8)
 | Li
def c8.fG:c8->Bool
 | .fe=>true
 | .seq a b=>a.fG&&b.fG
 | .join _ a b=>a.fG&&b.fG
 | .cond a b=>a.fG&&b.fG
 | .block a=>a.fG
 | .loop _ a=>a.fG
 | .scope a=>a.fG
 | .range ..=>false
 | .iI a b=>a.fG&&b.fG
 | .split _ _ _ a=>a.fG
 | .num _ _ a=>a.fG
 | .oN _ a=>a.fG
 | .Lh _ a=>a.fG
 | .Li=>false
def c8.q8:c8->Bool
 | .iI ..=>true
 | .fe=>true
 | _=>false
inductive dS where
 | normal
 | exit (id:Nat)
 | ret
def dS.rT:dS->Exit
 | .normal=>.normal
 | .exit id=>.exit id
 | .ret=>.ret
def ZR(k:dS->aB->M bet)(f:aB->M bet)(e:dS)(s:aB):M bet:=
 match e with
 | .normal=>f s
 | .exit id=>k (.exit id) s
 | .ret=>k .ret s
def AV{A:Type}(k:dS->aB->M bet)(f:aB->M (aJ A bet))(e:dS)(s:aB):M (aJ A bet):=
 match e with
 | .normal=>f s
 | .exit id=>aq (k (.exit id) s) λr=>mpure (.aV r)
 | .ret=>aq (k .ret s) λr=>mpure (.aV r)
def ZS(id:Nat)(k:dS->aB->M bet)(e:dS)(s:aB):M bet:=
 match e with
 | .normal=>k .normal s
 | .exit sQ=>if sQ=id then k .normal s else k (.exit sQ) s
 | .ret=>k .ret s
def aJ.fC{A:Type}(f:A->M bet)(ad:aJ A bet):M bet:=
 match ad with
 | .aw x=>f x
 | .aV r=>mpure r
def ZT(v:aL)(m n:M bet):M bet:=
 match v with
 | .val .bool t=>if t=true then m else n
 | .ks g (.val .bool t)=>ae (g=true) (if t=true then m else n)
 | _=>d'
def nC(s:aB)(i off:Nat):Option (Int×(Nat->aB)):=
 match s.aA i with
 | .eX b _ o=>match (s.aa b).body with
  | .cells t f=>match f (o+off) with
   | .val (.int AW) x=>some (x,λj=>⟨s.aA,λbj=>if bj=b then ⟨(s.aa b).gen,.cells t λq=>if q=o+off then .val (.int AW) (j:Int) else f q⟩ else s.aa bj⟩)
   | _=>none
  | _=>none
 | _=>none
variable {s:aB}{i:Nat}{off:Nat}{f:Nat->aB}
theorem apu{x:Int}(h:nC s i off=some (x,f))(aW:0<=x):f x.toNat=s:=by
 unfold nC at h;split at h
 ·rename_i b g o az;split at h
  ·rename_i t kv U;split at h
   ·rename_i AW eS al;simp  at h;obtain⟨rfl,rfl⟩:=h;have aE:(λq=>if q=o+off then aL.val (.int AW) ((eS.toNat)) else kv q)=kv:=by
     grind
    have bz:(λbj=>if bj=b then (⟨(s.aa b).gen,.cells t kv⟩) else s.aa bj)=s.aa:=by
     funext q;split
     ·rename_i e;rw[e,<-U]
     ·rfl
    simp_all
   grind
  grind
 grind
def uo(s:aB)(i:Nat):Option (Int×(Nat->aB)):=
 match s.aA i with
 | .val (.int AW) x=>some (x,λn=>⟨λj=>if j=i then .val (.int AW) (n:Int) else s.aA j,s.aa⟩)
 | _=>none
theorem apv{n:Nat}{x:Int}(h:uo s i=some (x,f))(aW:x=(n:Int)):f n=s:=by
 unfold uo at h;split at h
 ·rename_i AW eS az;obtain⟨rfl,rfl⟩:=h;have aE:(λj=>if j=i then aL.val (.int AW) (n) else s.aA j)=s.aA:=by
   grind
  simp_all
 grind
def Rc(s:aB)(i:Nat):Option aB:=
 match s.aA i with
 | .qS b g n off=>match (s.aa b).body,off with
  | .bn (.ad (.slice e)) xs,0=>if g=(s.aa b).gen then some ⟨λj=>if j=i then .kM b g n else s.aA j,λbj=>if bj=b then ⟨g,.h6 (.ad (.slice e)) xs n (.val (.slice e) (xs.getD n []))⟩ else s.aa bj⟩ else none
  | _,_=>none
 | _=>none
def Re(s:aB)(b:Nat):Option aB:=
 match (s.aa b).body with
 | .h6 (.ad (.slice e)) xs n v=>match (ej (.slice e) v).run s.aa with
  | some (y,b_)=>if b_.contains b then none else some ((s.cD b_).ct b ⟨(s.aa b).gen,.bn (.ad (.slice e)) (xs.set n y)⟩)
  | none=>none
 | _=>none
def kl{A ag:Type}(body:A->ag->M (dS×A)):List ag->A->M (dS×A)
 | [],A=>mpure (.normal,A)
 | x::xs,A=>aq (body A x) λp=>match p.1 with
  | .normal=>kl body xs p.2
  | .exit id=>mpure (.exit id,p.2)
  | .ret=>mpure (.ret,p.2)
def GI(aI:V)(x:aI.aj):List Tmp->Nat->(Nat->aL)->Nat->aL
 | [],_,f=>f
 | p::bt,i,f=>GI aI x bt (i+1) (λj=>if j=p then kc aI x i else f j)
def AX(s:aB)(aI:V)(x:aI.aj)(bt:List Tmp):aB:=⟨λi=>if i=cd then s.aA cd else GI aI x bt 0 s.aA i,s.aa⟩
def AY(rin eb:eC):cK:=⟨rin,eb,[],0,λ_=>d'⟩
def xi{bl:Type}(sh rin eb:eC)(aI:V)(bt:List Tmp)(A:sh.aj)(x:aI.aj)(run:aB->M (bl×eb.aj)):M (bl×sh.aj):=
 match rin.Dh (vw (AY rin eb) (AX (sh.ad A) aI x bt)) (AX (sh.ad A) aI x bt) with
 | some (rho,b_)=>match GC (AY rin eb) (vw (AY rin eb) (AX (sh.ad A) aI x bt)) ((sh.ad A).cD b_) (sT ((sh.ad A).cD b_) 0 (vw (AY rin eb) (AX (sh.ad A) aI x bt)) rin.rQ eb.bF 0) 0 0 with
  | true=>aq (run (rin.ad rho)) λp=>sh.pw (AQ ((sh.ad A).cD b_) (AY rin eb) (vw (AY rin eb) (AX (sh.ad A) aI x bt)) (sT ((sh.ad A).cD b_) 0 (vw (AY rin eb) (AX (sh.ad A) aI x bt)) rin.rQ eb.bF 0) p.2) λkB=>mpure (p.1,kB)
  | false=>d'
 | none=>d'
def nD(sh eb:eC)(aI:V)(bt:List Tmp)(bZ:Nat):Bool:=
 (eb.b1.isEmpty&&(!eb.bF.any (λp=>p.2.l3)&&!sh.bF.any (λp=>p.2.l3)))&&!sh.b1.any (λp=>p.1 == cd)&&decide (aI≠.dc)&&decide (bt.length=jQ aI)&&bt.all λp=>decide (p<bZ)
def Lj(f:aB->M bet)(e:dS)(s:aB):M bet:=
 match e with
 | .normal=>f s
 | .exit _=>d'
 | .ret=>d'
def yD(n:M bet)(x:Nat->M bet)(r:M bet)(e:dS):M bet:=
 match e with
 | .normal=>n
 | .exit id=>x id
 | .ret=>r
def Rf(k:dS->aB->M bet)(e:dS)(s:aB):M bet:=yD (k .normal s) (λid=>k (.exit id) s) (k .ret s) e
theorem ZU(k:dS->aB->M bet)(e:dS)(s:aB):Rf k e s=k e s:=by cases e<;>rfl
def fS(aQ:dV)(T:Nat->V)(br:Nat->Option aO)(Psi:Nat->Option gp):c8->{bet:Type}->Code->aB->(dS->aB->M bet)->M bet
 | .seq a b,_,c,s,k=>match c with
  | .seq x y=>fS aQ T br Psi a x s (ZR k λs'=>fS aQ T br Psi b y s' k)
  | _=>d'
 | .join sh a b,bet,c,s,k=>match c with
  | .seq x y=>aq (fS aQ T br Psi a (bet:=aJ sh.aj bet) x s (AV k λs'=>sh.pw s' λA=>mpure (.aw A))) (aJ.fC λA=>fS aQ T br Psi b y (sh.ad A) k)
  | _=>d'
 | .cond a b,_,c,s,k=>match c with
  | .cond c x y=>ZT (bh aQ s.aA c) (fS aQ T br Psi a x s k) (fS aQ T br Psi b y s k)
  | _=>d'
 | .block a,_,c,s,k=>match c with
  | .block id c=>fS aQ T br Psi a c s (ZS id k)
  | _=>d'
 | .loop sh a,bet,c,s,k=>match c with
  | .loop c=>sh.pw s λA=>dA (λA=>fS aQ T br Psi a (bet:=aJ sh.aj bet) c (sh.ad A) (AV k λs'=>sh.pw s' λkB=>mpure (.aw kB))) A
  | _=>d'
 | .iI a b,_,c,s,k=>match c with
  | .loop x=>match b.q8 with
   | true=>fS aQ T br Psi a x s (ZR k λs'=>fS aQ T br Psi b (.loop x) s' k)
   | false=>d'
  | _=>d'
 | .scope a,_,c,s,k=>match c with
  | .scope c=>fS aQ T br Psi a c s k
  | _=>d'
 | .num i n a,_,c,s,k=>match uo s i with
  | some (x,f)=>ae (x=(n:Int)) (fS aQ T br Psi a c (f n) k)
  | none=>d'
 | .oN i a,_,c,s,k=>match Rc s i with
  | some s'=>fS aQ T br Psi a c s' k
  | none=>d'
 | .Lh b a,_,c,s,k=>match Re s b with
  | some s'=>fS aQ T br Psi a c s' k
  | none=>d'
 | .split i off n a,_,c,s,k=>match nC s i off with
  | some (x,f)=>ae (0<=x/\x<(n:Int)) (Ld n x λj=>fS aQ T br Psi a c (f j) k)
  | none=>d'
 | .range sh rin eb a b,_,c,s,k=>match c with
  | .rangeFunc g bt assign body=>match bh aQ s.aA g with
   | .u9 uq n gw=>match Psi uq with
    | some (.cG ic)=>match (kd ic.ts ((List.range n).map gw)).run s.aa with
     | some (x,b_)=>match nD sh eb ic.aI bt.toList fz&&(a.fG&&b.fG) with
      | true=>sh.pw (s.cD b_) λA=>ae (ic.pre x) (aq (kl (λA y=>xi sh rin eb ic.aI bt.toList A y λs1=>
       fS aQ T br Psi a (bet:=dS×eb.aj) assign s1 (Lj λs2=>fS aQ T br Psi b body s2 λe fh=>eb.pw fh λbl=>mpure (e,bl))) (ic.seq x) A) λp=>Rf k p.1 (sh.ad p.2))
      | false=>d'
     | none=>d'
    | _=>d'
   | .val (.cG aI) S=>match nD sh eb aI bt.toList fz&&(a.fG&&b.fG) with
    | true=>sh.pw s λA=>aq (mN S) λab=>aq (kl (λA y=>xi sh rin eb aI bt.toList A y λs1=>
     fS aQ T br Psi a (bet:=dS×eb.aj) assign s1 (Lj λs2=>fS aQ T br Psi b body s2 λe fh=>eb.pw fh λbl=>mpure (e,bl))) ab A) λp=>Rf k p.1 (sh.ad p.2)
    | false=>d'
   | _=>d'
  | _=>d'
 | .Li,_,c,s,k=>match c with
  | .region _ ops draw=>match draw&&Rb ops with
   | true=>Dm aQ T (K1 br Psi) Psi (nB ops.toList).toArray s (k .normal)
   | false=>d'
  | _=>d'
 | .fe,_,c,s,k=>match c with
  | .region _ ops draw=>match draw with
   | true=>Dm aQ T (K1 br Psi) Psi ops s (k .normal)
   | false=>oP aQ T br Psi ops ops.toList [] s (k .normal)
  | .skip=>k .normal s
  | .label _=>k .normal s
  | .exit id=>k (.exit id) s
  | .ret=>k .ret s
  | _=>d'
def nE(bZ:Nat):Code->Bool
 | .region _ ops _=>ops.toList.all λo=>mV o bZ
 | .seq a b=>nE bZ a&&nE bZ b
 | .cond _ a b=>nE bZ a&&nE bZ b
 | .block _ a=>nE bZ a
 | .loop a=>nE bZ a
 | .scope a=>nE bZ a
 | .rangeFunc _ bt a b=>bt.toList.all (λp=>decide (p<bZ))&&(nE bZ a&&nE bZ b)
 | .skip=>true
 | .label _=>true
 | .exit _=>true
 | .ret=>true
 | _=>false
def oQ(x y:b'):Prop:=(y.hk=true->x.hk=true)/\(y.gO=true->x.gO=true/\y.len=x.len/\y.gP=x.gP)/\(y.iR=true->x.iR=true)/\(y.qT=true->x.qT=true)/\∀ k,y.ch k=true->x.ch k=true
theorem oQ.refl(x:b'):oQ x x:=⟨id,λh=>⟨h,rfl,rfl⟩,id,id,λ_=>id⟩
theorem oQ.ev(x:b'):oQ x .ev:=⟨λh=>(by cases h),λh=>(by cases h),λh=>(by cases h),λh=>(by cases h),λ_ h=>(by cases h)⟩
def ur(f:Nat->Nat)(H H':Nat->b9):Prop:=∀ b,(H' b).gen=0/\oQ (H (f b)).body (H' b).body
section
variable {P:Program} {H H':Nat->b9} {kap:Nat->bL} {F F':Nat->Prop} {w:World} {f:Nat->Nat}
variable {b:Nat}{v:Value}
theorem ZV(aD:ur f H H')(h:bM P H kap F w (.eX (f b) (H (f b)).gen off) v):bM P H' (λb=>kap (f b)) F' w (.eX b 0 off) v:=
 ⟨⟨aPR _,h.1.2⟩,λ_ hc=>h.2 rfl ((aD b).2.1 hc)⟩
def Rg(P:Program)(H H':Nat->b9)(kap:Nat->bL)(f:Nat->Nat)(F F':Nat->Prop)(w:World)(r:Option (R×List Nat))(l:List Nat)(av AZ:aL)(y:R):Prop:=
 ∃ m,r=some (y,m)/\(∀ b∈m,b∈l)/\(kN H kap F' l->∀ v,bM P H kap F w av v->bM P H' (λb=>kap (f b)) F' w AZ v)
variable {l:List Nat}
theorem Rg.ix{r:Option (R×List Nat)}{av AZ:aL}{y:R}(h:r=some (y,l))(k:∀ v,bM P H kap F w av v->bM P H' (λb=>kap (f b)) F' w AZ v):Rg P H H' kap f F F' w r l av AZ y:=
 ⟨l,h,λ_ U=>U,λ_=>k⟩
theorem lo{b:Bool}{r:Option ag}{x:ag}(h:xh b r=some x):b=true/\r=some x:=by
 cases b with
 | true=>exact⟨rfl,h⟩
 | false=>cases h
variable {t:V}
theorem sV{av:aL}{r:Option (R×List Nat)}{z:t.aj×R}(h:AO H t av r=some (z,l)):∃ fq m,(ej t av).run H=some (z.1,fq)/\r=some (z.2,m)/\l=fq++m:=by
 grind [AO]
theorem Rh{av:aL}{r:Option (R×List Nat)}{z:t.aj×R}(h:QK t av r=some (z,l)):av=.eL t z.1/\r=some (z.2,l):=by
 unfold QK at h;grind
theorem Ri{av:aL}{r:Option (R×List Nat)}{z:(z21')×R}(h:QL H b av r=some (z,l)) :
  r=some (z.2,l)/\(av=.sub b (H b).gen z.1.1 z.1.2\/(av=.own b (H b).gen/\(H b).body.gO=true/\z.1=(0,(H b).body.len))):=by
 unfold QL at h;grind
theorem Lk{aI:V}{av:aL}{r:Option (R×List Nat)}{z:(Nat×(List aI.aj->Prop)×List aI.aj×Bool)×R}(h:QM aI av r=some (z,l)) :
  r=some (z.2,l)/\av=.aS z.1.1 aI z.1.2.1 z.1.2.2.1 z.1.2.2.2:=by
 unfold QM at h;grind
theorem Rj{av:aL}{r:Option (R×List Nat)}{z:Nat×R}(h:QO H b av r=some (z,l)):r=some (z.2,l)/\av=.kM b (H b).gen z.1:=by
 unfold QO at h;grind
theorem Rk{av:aL}{r:Option (R×List Nat)}{z:Nat×R}(h:QN av r=some (z,l)):r=some (z.2,l)/\av=.il z.1:=by
 unfold QN at h;grind
theorem ZW{av:aL}(h:KR H b off av=true):av=.eX b (H b).gen off:=by
 unfold KR at h;grind
theorem ZX{av:aL}(h:KS H b av=true):av=.own b (H b).gen:=by
 unfold KS at h;grind
theorem apw{av:aL}(h:QP H b av=true):av=.hj b (H b).gen:=by
 unfold QP at h;grind
theorem apx{av:aL}(h:QQ H b av=true):av=.l2 b (H b).gen:=by
 unfold QQ at h;grind
theorem apy(aD:ur f H H'){av:aL}(h:QR H (f b) av=true)(af:bM P H kap F w av v):bM P H' (λb=>kap (f b)) F' w (.hM b 0) v:=by
 unfold QR at h;split at h
 ·simp  at h;obtain⟨rfl,rfl⟩:=h;exact⟨⟨aPR _,af.1.2⟩,λ_ hc=>.inr (af.2 rfl ((aD b).2.1 hc))⟩
 ·simp  at h;obtain⟨rfl,rfl⟩:=h;exact⟨⟨aPR _,af.1.2⟩,λ_ hc=>af.2 rfl ((aD b).2.1 hc)⟩
 ·have al:=((ee rfl).1 af).2;rcases al with⟨e,_⟩ | ⟨p,y,bC,_,e,_⟩
  ·have e:=(aPQ e).1;subst e;exact⟨⟨aPR _,rfl⟩,λ_ _=>.inl rfl⟩
  grind
 ·subst af;exact⟨⟨aPR _,rfl⟩,λ_ _=>.inl rfl⟩
 grind
theorem apz{av:aL}(h:QS av=true):av=.dW:=by
 grind [QS]
theorem apA(aD:ur f H H'){k:FuncId}{hD:z9'}{av:aL}(h:QT H f k hD av=true)(af:bM P H kap F w av v):bM P H' (λb=>kap (f b)) F' w (.jh k hD.length (yx dx hD)) v:=by
 unfold QT at h;split at h
 ·simp only[amm,beq_iff_eq]at h;obtain⟨⟨rfl,rfl⟩,e⟩:=h;obtain⟨aG,E,L,an⟩:=af;refine⟨aG,E,L,λi G=>?_⟩;have he:=List.all_eq_true.1 e i (by grind);have af:=an i G;rw[show hD[i]?=some hD[i] by simp]at he;rw[ZW he]at af;have:yx dx hD i=.eX hD[i].1 0 hD[i].2:=by simp_all[yx,hY,dx]
  grind [ZV]
 grind
theorem apB(aD:ur f H H'){dB:List Nat}{av:aL}(h:QU H f dB av=true)(af:bM P H kap F w av v):bM P H' (λb=>kap (f b)) F' w (.agg dB.length (yy dx dB)) v:=by
 unfold QU at h;split at h
 ·simp only[amm,beq_iff_eq]at h;obtain⟨rfl,e⟩:=h;obtain⟨aG,E,L,an⟩:=af;refine⟨aG,E,L,λi G=>?_⟩;have he:=List.all_eq_true.1 e i (by grind);obtain⟨af,hc⟩:=an i G;refine⟨?_,hc⟩;rw[show dB[i]?=some dB[i] by simp]at he;rw[ZX he]at af;have:yy dx dB i=.own dB[i] 0:=by simp_all[yy,hY,dx]
  rw[this];refine⟨⟨aPR _,af.1.2⟩,λ_ hc=>?_⟩;obtain⟨aM,aT,_⟩:=(aD dB[i]).2.2.1 hc;rw[aT];exact af.2 rfl aM
 grind
theorem A0(a1:∀ b,c6 P H kap F w b)(bp:∀ r,F r->F' r)(aD:ur f H H')(t:cg){av:aL}{r:Option (R×List Nat)}{z:t.cons R}(h:t.kR H f av r=some (z,l)) :
  Rg P H H' kap f F F' w r l av (t.av dx z).1 (t.av dx z).2:=by
 cases t with
 | undef=>exact .ix h λ_ _=>by simp  [cg.av,bM]
 | val t=>
  obtain⟨fq,m,al,rfl,rfl⟩:=sV h;exact⟨m,rfl,λb U=>aP' _ U,λah v af=>oF a1 bp al ah.left af⟩
 | eL t=>
  obtain⟨rfl,rfl⟩:=Rh h;exact .ix rfl λv ⟨p,bC,E,L,an⟩=>⟨p,bC,E,L.mono bp (di.refl _ _),fH _ bp (di.refl _ _) an⟩
 | eX b off=>
  obtain⟨E,L⟩:=lo h;obtain rfl:=ZW E;exact .ix L λv af=>ZV aD af
 | own b=>
  obtain⟨E,L⟩:=lo h;obtain rfl:=ZX E;refine .ix L λv af=>⟨⟨aPR _,af.1.2⟩,λ_ hc=>?_⟩
  obtain⟨aM,aT,_⟩:=(aD b).2.2.1 hc;simp  [dx];rw[aT];exact af.2 rfl aM
 | sub b=>
  obtain⟨E,L⟩:=Ri h;refine .ix E λv af=>?_;rcases L with rfl | ⟨rfl,ga,an⟩
  ·refine⟨⟨aPR _,af.1.2⟩,λ_ hc=>?_⟩;obtain⟨aM,aT,b5⟩:=(aD b).2.2.1 hc;simp  [dx]at aT b5 ⊢;rw[aT,b5];exact af.2 rfl aM
  ·refine⟨⟨aPR _,af.1.2⟩,λ_ hc=>?_⟩;obtain⟨aM,aT,b5⟩:=(aD b).2.2.1 hc;have:=af.2 rfl aM;simp  [dx]at aT b5 ⊢;rw[aT,an];refine⟨⟨aPR _,amn _⟩,?_⟩;rw[this];unfold bL.slice;cases aC:(kap (f b)).fO with
   | true=>exact .inl ⟨aC,rfl⟩
   | false=>exact .inr ⟨aC,(kap (f b)).off,by simp,by simp,λ_=>by simp⟩
 | hj b=>
  obtain⟨E,L⟩:=lo h;obtain rfl:=apw E;exact .ix L λv af=>⟨⟨aPR _,af.1.2⟩,λ_ hc=>af.2 rfl ((aD b).2.2.2.1 hc)⟩
 | l2 b=>
  obtain⟨E,L⟩:=lo h;obtain rfl:=apx E;exact .ix L λv af=>⟨⟨aPR _,af.1.2⟩,λ_ hc=>af.2 rfl ((aD b).2.2.2.2.1 hc)⟩
 | dW=>
  obtain⟨E,L⟩:=lo h;obtain rfl:=apz E;exact .ix L λv af=>af
 | jh k hD=>
  obtain⟨E,L⟩:=lo h;exact .ix L λv af=>apA aD E af
 | fB dB=>
  obtain⟨E,L⟩:=lo h;exact .ix L λv af=>apB aD E af
 | hM b=>
  obtain⟨E,L⟩:=lo h;exact .ix L λv af=>apy aD E af
 | kM b=>
  obtain⟨E,rfl⟩:=Rj h;refine .ix E λv af=>⟨⟨aPR _,af.1.2⟩,λ_ hc=>?_⟩
  obtain⟨aM,aT,b5⟩:=(aD b).2.2.1 hc;have:=af.2 rfl aM;grind [dx]
 | aS aI=>
  obtain⟨E,rfl⟩:=Lk h;exact .ix E λv af=>af
 | il=>
  obtain⟨E,rfl⟩:=Rk h;exact .ix E λv af=>af
theorem apC(a1:∀ b,c6 P H kap F w b)(bp:∀ r,F r->F' r)(aD:ur f H H'):∀ (ts:List cg) {c:Nat->aL} {i:Nat} {R:Type} {r:Option (R×List Nat)} {z:sR ts R} {l:List Nat},De H f ts c i r=some (z,l)->
  ∃ m,r=some ((rP dx ts z).2,m)/\(∀ b∈m,b∈l)/\(kN H kap F' l->∀ j,j<ts.length->∀ v,bM P H kap F w (c (i+j)) v->bM P H' (λb=>kap (f b)) F' w ((rP dx ts z).1.getD j .undef) v):=by
 intro ts;induction ts with
 | nil=>intro c i R r z l h;exact⟨l,h,λ_ U=>U,λ_ j aK=>by grind⟩
 | cons t ts aP=>
  intro c i R r z l h;obtain⟨m1,E,L,an⟩:=A0     a1 bp aD t h;obtain⟨m2,aM,aT,hC⟩:=aP E;refine⟨m2,aM,λb U=>L b (aT b U),λah j aK v af=>?_⟩;cases j with
  | zero=>exact an ah v af
  | succ j=>
   have:=hC (λb U=>ah b (L b U)) j (by grind) v (by grind);grind [rP]
theorem apD(a1:∀ b,c6 P H kap F w b)(bp:∀ r,F r->F' r)(aD:ur f H H'):∀ (ts:List (Nat×cg)) {c:Nat->aL} {R:Type} {r:Option (R×List Nat)} {z:q7 ts R} {l:List Nat},Dg H f ts c r=some (z,l)->
  ∃ m,r=some ((eV dx ts z).2,m)/\(∀ b∈m,b∈l)/\(kN H kap F' l->∀ i v,bM P H kap F w (c i) v->bM P H' (λb=>kap (f b)) F' w (fv (eV dx ts z).1 i) v):=by
 intro ts;induction ts with
 | nil=>intro c R r z l h;exact⟨l,h,λ_ U=>U,λ_ _ _ _=>by grind [eV,fv,bM]⟩
 | cons p ts aP=>
  intro c R r z l h;obtain⟨m1,E,L,an⟩:=A0     a1 bp aD p.2 h;obtain⟨m2,aM,aT,hC⟩:=aP E;refine⟨m2,aM,λb U=>L b (aT b U),λah i v af=>?_⟩;simp  [eV,fv];split
  ·grind
  ·exact hC (λb U=>ah b (L b U)) i v af
theorem Ll(t:cg){av:aL}{r:Option (R×List Nat)}{z:t.cons R}(h:t.kR H f av r=some (z,l)):∃ m,r=some ((t.av dx z).2,m)/\∀ b∈m,b∈l:=by
 cases t with
 | undef=>exact⟨l,h,λ_ h=>h⟩
 | val t=>obtain⟨_,m,_,L,an⟩:=sV h;exact⟨m,L,λb U=>an ▸ aP' _ U⟩
 | eL t=>exact⟨l,(Rh h).2,λ_ h=>h⟩
 | sub b=>exact⟨l,(Ri h).1,λ_ h=>h⟩
 | aS aI=>exact⟨l,(Lk h).1,λ_ h=>h⟩
 | il=>exact⟨l,(Rk h).1,λ_ h=>h⟩
 | kM b=>exact⟨l,(Rj h).1,λ_ h=>h⟩
 | hM b=>exact⟨l,(lo h).2,λ_ h=>h⟩
 | eX b off=>exact⟨l,(lo h).2,λ_ h=>h⟩
 | own b=>exact⟨l,(lo h).2,λ_ h=>h⟩
 | hj b=>exact⟨l,(lo h).2,λ_ h=>h⟩
 | l2 b=>exact⟨l,(lo h).2,λ_ h=>h⟩
 | dW=>exact⟨l,(lo h).2,λ_ h=>h⟩
 | jh k hD=>exact⟨l,(lo h).2,λ_ h=>h⟩
 | fB dB=>exact⟨l,(lo h).2,λ_ h=>h⟩
theorem apE:∀ (ts:List cg) {c:Nat->aL} {i:Nat} {R:Type} {r:Option (R×List Nat)} {z:sR ts R} {l:List Nat},De H f ts c i r=some (z,l)->∃ m,r=some ((rP dx ts z).2,m)/\∀ b∈m,b∈l:=by
 intro ts;induction ts with
 | nil=>intro c i R r z l h;exact⟨l,h,λ_ h=>h⟩
 | cons t ts aP=>
  intro c i R r z l h;obtain⟨m,E,L⟩:=Ll t h;obtain⟨dw,an,a6⟩:=aP E;exact⟨dw,an,λb U=>L b (a6 b U)⟩
theorem apF:∀ (ts:List (Nat×cg)) {c:Nat->aL} {R:Type} {r:Option (R×List Nat)} {z:q7 ts R} {l:List Nat},Dg H f ts c r=some (z,l)->∃ m,r=some ((eV dx ts z).2,m)/\∀ b∈m,b∈l:=by
 intro ts;induction ts with
 | nil=>intro c R r z l h;exact⟨l,h,λ_ h=>h⟩
 | cons p ts aP=>
  intro c R r z l h;obtain⟨m,E,L⟩:=Ll p.2 h;obtain⟨dw,an,a6⟩:=aP E;exact⟨dw,an,λb U=>L b (a6 b U)⟩
theorem GJ(t:cg){av:aL}{r:Option (R×List Nat)}{z:t.cons R}(h:t.kR H f av r=some (z,l))(D:∀ y m,r=some (y,m)->iJ H m):iJ H l:=by
 cases t with
 | undef=>exact D _ _ h
 | val t=>obtain⟨_,m,E,L,rfl⟩:=sV h;exact (pj E).append (D _ _ L)
 | eL t=>exact D _ _ (Rh h).2
 | sub b=>exact D _ _ (Ri h).1
 | aS aI=>exact D _ _ (Lk h).1
 | il=>exact D _ _ (Rk h).1
 | kM b=>exact D _ _ (Rj h).1
 | hM b=>exact D _ _ (lo h).2
 | eX b off=>exact D _ _ (lo h).2
 | own b=>exact D _ _ (lo h).2
 | hj b=>exact D _ _ (lo h).2
 | l2 b=>exact D _ _ (lo h).2
 | dW=>exact D _ _ (lo h).2
 | jh k hD=>exact D _ _ (lo h).2
 | fB dB=>exact D _ _ (lo h).2
theorem apG:∀ (ts:List cg) {c:Nat->aL} {i:Nat} {R:Type} {r:Option (R×List Nat)} {z:sR ts R} {l:List Nat},De H f ts c i r=some (z,l)->(∀ y m,r=some (y,m)->iJ H m)->iJ H l:=by
 intro ts;induction ts with
 | nil=>intro c i R r z l h D;exact D _ _ h
 | cons t ts aP=>intro c i R r z l h D;exact GJ t h λy m hm=>aP hm D
theorem apH:∀ (ts:List (Nat×cg)) {c:Nat->aL} {R:Type} {r:Option (R×List Nat)} {z:q7 ts R} {l:List Nat},Dg H f ts c r=some (z,l)->(∀ y m,r=some (y,m)->iJ H m)->iJ H l:=by
 intro ts;induction ts with
 | nil=>intro c R r z l h D;exact D _ _ h
 | cons p ts aP=>intro c R r z l h D;exact GJ p.2 h λy m hm=>aP hm D
variable {km:b'}
theorem Rl{ts:List cg}{r:Option (R×List Nat)}{z:sR ts R}(h:QV H f t ts km r=some (z,l)):∃ c,km=.cells t c/\t.size=ts.length/\De H f ts c 0 r=some (z,l):=by
 unfold QV at h;grind
variable {e:V}
theorem Rm{r:Option (R×List Nat)}{z:List e.aj×R}(h:QW e km r=some (z,l)):r=some (z.2,l)/\km=.bn e z.1:=by
 unfold QW at h;grind
theorem Rn{r:Option (R×List Nat)}{z:List (Nat×List e.aj)×R}(h:Q0 e km r=some (z,l)):r=some (z.2,l)/\(km=.bR e z.1\/(km=.ev/\z.1=[])):=by
 unfold Q0 at h;grind
theorem oQ.bR(x:b')(e:V)(m:List (Nat×List e.aj)):oQ x (.bR e m):=⟨λh=>(by cases h),λh=>(by cases h),λh=>(by cases h),λh=>(by cases h),λ_ h=>(by cases h)⟩
theorem Ro{t:cg}{r:Option (R×List Nat)}{z:(List e.aj×Nat)×t.cons R}(h:QZ H f e t km r=some (z,l)):∃ v,km=.h6 e z.1.1 z.1.2 v/\t.kR H f v r=some (z.2,l):=by
 unfold QZ at h;grind
variable {v:V}{k:V}
theorem Rp{r:Option (R×List Nat)}{z:List (k.aj×v.aj)×R}(h:QX k v km r=some (z,l)):r=some (z.2,l)/\km=.mp k v z.1:=by
 unfold QX at h;grind
theorem Rq{r:Option (R×List Nat)}{z:(Option (k.aj×v.aj)×List (k.aj×v.aj))×R}(h:QY k v km r=some (z,l)):r=some (z.2,l)/\km=.cG k v z.1.1 z.1.2:=by
 unfold QY at h;grind
theorem Rr{r:Option (R×List Nat)}{z:t.aj×R}(h:Q1 H t km r=some (z,l)):∃ c,km=.cells t c/\AO H t (.agg t.size c) r=some (z,l):=by
 unfold Q1 at h;grind
theorem Rs{r:Option (R×List Nat)}{z:t.aj×R}(h:Q2 H t b r=some (z,l)):∃ fq m,(ej (.bO t) (.eX b (H b).gen 0)).run H=some (some z.1,fq)/\r=some (z.2,m)/\l=fq++m:=by
 unfold Q2 at h;split at h<;>grind
theorem ZY{xs:List e.aj}(h:(ej (.slice e) (.own b (H b).gen)).run H=some (xs,l)):(H b).body=.bn e xs\/(H b).body=.jz e xs:=by
 simp  [ej,l4,V.fY,eK]at h;split at h
 ·simp  at h;grind [mO]
 ·simp  at h;grind [mO]
 grind
theorem apI{xs:List (k.aj×v.aj)}(h:(ej (.map k v) (.hj b (H b).gen)).run H=some (xs,l)):(H b).body=.mp k v xs\/(H b).body=.k9 k v xs:=by
 simp  [ej,l4,V.fY,eK]at h;split at h
 ·simp  at h;grind [mO]
 ·simp  at h;grind [mO]
 grind
theorem apJ{x:Option t.aj}(h:(ej (.bO t) (.eX b (H b).gen 0)).run H=some (x,l)):(H b).body.hk=true:=by
 simp  [ej,l4,wY]at h;split at h
 ·rename_i U;rw[U];rfl
 ·rename_i U;rw[U];rfl
 ·cases h
theorem cc.Rt(t:cc){r:Option (R×List Nat)}{z:t.cons R}(h:t.kR H f b r=some (z,l)) :
  (∃ m,r=some ((t.body dx z).2,m)/\∀ c∈m,c∈l)/\oQ (H b).body (t.body dx z).1/\∀ k,(t.body dx z).1.ch k=true->t.Gx=true:=by
 cases t with
 | cells t ts=>
  obtain⟨c,e,az,h⟩:=Rl h;refine⟨apE ts h,?_,λ_ _=>rfl⟩;rw[e];exact⟨λ_=>rfl,λh=>(by cases h),λh=>(by cases h),λh=>(by cases h),λ_ _=>rfl⟩
 | bn e=>
  obtain⟨E,L⟩:=Rm h;refine⟨⟨l,E,λ_ h=>h⟩,?_,λ_ _=>rfl⟩;rw[L];exact oQ.refl _
 | jz e=>
  obtain⟨fq,m,E,L,rfl⟩:=sV h;refine⟨⟨m,L,λ_ h=>aP' _ h⟩,?_,λ_ h=>(by cases h)⟩;rcases ZY E with e | e<;>rw[e]
  ·exact⟨λh=>(by cases h),λ_=>⟨rfl,rfl,rfl⟩,λh=>(by cases h),λh=>(by cases h),λ_ h=>(by cases h)⟩
  ·exact oQ.refl _
 | mp k v=>
  obtain⟨E,L⟩:=Rp h;refine⟨⟨l,E,λ_ h=>h⟩,?_,λ_ _=>rfl⟩;rw[L];exact oQ.refl _
 | k9 k v=>
  obtain⟨fq,m,E,L,rfl⟩:=sV h;refine⟨⟨m,L,λ_ h=>aP' _ h⟩,?_,λ_ h=>(by cases h)⟩;rcases apI E with e | e<;>rw[e]
  ·exact⟨λh=>(by cases h),λh=>(by cases h),λ_=>rfl,λh=>(by cases h),λ_ h=>(by rfl)⟩
  ·exact oQ.refl _
 | gy t=>
  obtain⟨c,e,h⟩:=Rr h;obtain⟨fq,m,E,L,rfl⟩:=sV h;refine⟨⟨m,L,λ_ h=>aP' _ h⟩,?_,λ_ _=>rfl⟩;rw[e];exact⟨λ_=>rfl,λh=>(by cases h),λh=>(by cases h),λh=>(by cases h),λ_ _=>rfl⟩
 | im t=>
  obtain⟨fq,m,E,L,rfl⟩:=Rs h;refine⟨⟨m,L,λ_ h=>aP' _ h⟩,?_,λ_ h=>(by cases h)⟩;exact⟨λ_=>apJ E,λh=>(by cases h),λh=>(by cases h),λh=>(by cases h),λ_ h=>(by cases h)⟩
 | cG k v=>
  obtain⟨E,L⟩:=Rq h;refine⟨⟨l,E,λ_ h=>h⟩,?_,λ_ _=>rfl⟩;rw[L];exact oQ.refl _
 | bR e=>
  obtain⟨E,L⟩:=Rn h;exact⟨⟨l,E,λ_ h=>h⟩,oQ.bR _ _ _,λ_ h=>(by cases h)⟩
 | h6 e t=>
  obtain⟨v,aE,h⟩:=Ro h;refine⟨Ll t h,?_,λ_ _=>rfl⟩;rw[aE];exact⟨λh=>(by cases h),λ_=>⟨rfl,rfl,rfl⟩,λh=>(by cases h),λh=>(by cases h),λ_ h=>h⟩
theorem cc.GJ(t:cc){b:Nat}{R:Type}{r:Option (R×List Nat)}{z:t.cons R}{l:List Nat}(h:t.kR H f b r=some (z,l))(D:∀ y m,r=some (y,m)->iJ H m):iJ H l:=by
 cases t with
 | cells t ts=>obtain⟨c,e,az,h⟩:=Rl h;grind [apG]
 | bn e=>exact D _ _ (Rm h).1
 | jz e=>obtain⟨fq,m,E,L,rfl⟩:=sV h;exact (pj E).append (D _ _ L)
 | mp k v=>exact D _ _ (Rp h).1
 | k9 k v=>obtain⟨fq,m,E,L,rfl⟩:=sV h;exact (pj E).append (D _ _ L)
 | gy t=>obtain⟨c,e,h⟩:=Rr h;obtain⟨fq,m,E,L,rfl⟩:=sV h;exact (pj E).append (D _ _ L)
 | im t=>obtain⟨fq,m,E,L,rfl⟩:=Rs h;exact (pj E).append (D _ _ L)
 | cG k v=>exact D _ _ (Rq h).1
 | h6 e t=>obtain⟨v,_,h⟩:=Ro h;grind [Go.Fer.GJ]
 | bR e=>exact D _ _ (Rn h).1
theorem cc.apK(a1:∀ b,c6 P H kap F w b)(bp:∀ r,F r->F' r)(aD:ur f H H')(t:cc){r:Option (R×List Nat)}{z:t.cons R}(h:t.kR H f b r=some (z,l))(ah:kN H kap F' l) :
  mr P H' (λb=>kap (f b)) F' w (kap b) (t.body dx z).1:=by
 have U:=a1 b;unfold c6 at U;cases t with
 | cells t ts=>
  obtain⟨c,e,az,h⟩:=Rl h;rw[e]at U;obtain⟨cs,T,aM,aT,b5⟩:=U;obtain⟨m,_,_,hC⟩:=apC   a1 bp aD ts h;refine⟨cs,T,aM,aT,λi G=>⟨?_,(b5 i G).2⟩⟩;have:=hC ah i (by omega) _ (by rw[aQG];exact (b5 i G).1);exact this
 | bn e=>
  rw[(Rm h).2]at U;refine⟨U.1,λaC=>?_⟩;obtain⟨cs,T,E,L,an,a6,bS⟩:=U.2 aC;exact⟨cs,T,E,L,an,a6,bS.mono bp (di.refl _ _)⟩
 | jz e=>
  obtain⟨fq,m,E,L,rfl⟩:=sV h;have yo:=ZY E;have A1:=oF   a1 bp E ah.left ⟨⟨amn _,by unfold bL.slice;split<;>rfl⟩,λ_ _=>rfl⟩;have:=((ee rfl).1 A1).2;rcases yo with aZ | aZ<;>(rw[aZ]at this;exact this)
 | mp k v=>
  rw[(Rp h).2]at U;obtain⟨ms,clk,E,L⟩:=U;exact⟨ms,clk,E,L.mono bp (di.refl _ _)⟩
 | k9 k v=>
  obtain⟨fq,m,E,L,rfl⟩:=sV h;have A1:=oF   a1 bp E ah.left ⟨⟨amn _,rfl⟩,λ_ _=>rfl⟩;exact ((ee rfl).1 A1).2
 | gy t=>
  obtain⟨c,e,h⟩:=Rr h;rw[e]at U;obtain⟨cs,T,aM,aT,b5⟩:=U;obtain⟨fq,m,al,_,rfl⟩:=sV h;have af:bM P H kap F w (.agg t.size c) (.agg cs):=⟨cs.toList,by simp,by grind,λj aK=>by
   simp_all⟩
  have A1:=oF   a1 bp al ah.left af;have ka:=CJ   (H:=H') (kap:=λb=>kap (f b)) t A1.2;refine⟨cs,T,aM,aT,λi G=>⟨?_,(b5 i G).2⟩⟩;have:=(ka.n1 i (by rw[ka.len];grind [Value.cells])).1;simp_all[Value.cells]
 | im t=>
  obtain⟨fq,m,E,L,rfl⟩:=Rs h;have A1:=oF   a1 bp E ah.left ⟨⟨amn _,rfl⟩,λ_ _=>rfl⟩;rcases ((ee rfl).1 A1).2 with⟨_,e⟩ | ⟨p,y,bC,aE,bz,an,a6⟩
  ·grind
  ·simp  at aE;subst aE;cases bz;exact⟨bC,an,a6⟩
 | cG k v=>
  rw[(Rq h).2]at U;exact z_.mono U bp (di.refl _ _) rfl
 | bR e=>trivial
 | h6 e t=>
  obtain⟨v,aE,h⟩:=Ro h;rw[aE]at U;obtain⟨aW,cs,T,E,L,an,a6,bS,ek,iQ,k6⟩:=U;obtain⟨m,_,_,hC⟩:=A0     a1 bp aD t h;refine⟨aW,cs,T,E,L,an,a6,bS,λj aK wW=>?_,hC ah _ iQ,k6⟩;obtain⟨bC,d1,d2⟩:=ek j aK wW;exact⟨bC,d1,fH e bp (di.refl _ _) d2⟩
theorem apL:∀ (l:List (Nat×cc)) {x:pv l} {m:List Nat},Df H f l=some (x,m)->∀ b,eP (gV dx l x) b=⟨0,.ev⟩\/
  ∃ km,eP (gV dx l x) b=⟨0,km⟩/\oQ (H (f b)).body km/\∃ t,(b,t)∈l/\∀ k,km.ch k=true->t.Gx=true:=by
 intro l;induction l with
 | nil=>intro x m _ b;exact .inl rfl
 | cons q l aP=>
  intro x m h b;obtain⟨cU,cO⟩:=q;obtain⟨⟨dw,E,L⟩,an,a6⟩:=cc.Rt cO h;grind [gV,eP]
theorem apM:∀ (l:List (Nat×cc)) {x:pv l} {m:List Nat},Df H f l=some (x,m)->∀ b e p,(eP (gV dx l x) b).body=.bR e p->(H (f b)).body=.bR e p\/p=[]:=by
 intro l;induction l with
 | nil=>intro x m _ b e p h;cases h
 | cons q l aP=>
  intro x m h b e p U;obtain⟨cU,cO⟩:=q;obtain⟨⟨dw,E,L⟩,an,a6⟩:=cc.Rt cO h;by_cases k:b=cU
  ·subst k;simp  [gV,eP]at U;cases cO with
   | bR aZ=>
    obtain⟨_,ek⟩:=Rn h;have U:b'.bR aZ x.1=.bR e p:=U;grind
   | _=>cases U
  grind [gV,eP]
theorem apN:∀ (l:List (Nat×cc)) {x:pv l} {m:List Nat},Df H f l=some (x,m)->iJ H m:=by
 intro l;induction l with
 | nil=>intro x m h;cases h;exact .nil H
 | cons q l aP=>intro x m h;exact cc.GJ q.2 h λy m hm=>aP hm
theorem apO(a1:∀ b,c6 P H kap F w b)(bp:∀ r,F r->F' r)(aD:ur f H H'):∀ (l:List (Nat×cc)) {x:pv l} {m:List Nat},Df H f l=some (x,m)->kN H kap F' m->∀ b,mr P H' (λb=>kap (f b)) F' w (kap (f b)) (eP (gV dx l x) b).body:=by
 intro l;induction l with
 | nil=>intro x m _ _ b;trivial
 | cons q l aP=>
  intro x m h hm b;obtain⟨cU,cO⟩:=q;obtain⟨⟨dw,E,L⟩,_⟩:=cc.Rt cO h;by_cases e:b=cU
  ·subst e;simp  [gV,eP];exact cc.apK a1 bp aD cO h hm
  ·have:=aP E (λc hc=>hm c (L c hc)) b;grind [gV,eP]
theorem apP:∀ (ts:List (Nat×cg)) {c:Nat->aL} {R:Type} {r:Option (R×List Nat)} {z:q7 ts R} {l:List Nat},Dg H f ts c r=some (z,l)->∀ {i et aI ab n ad},fv (eV dx ts z).1 i=.aS et aI ab n ad->c i=.aS et aI ab n ad:=by
 intro ts;induction ts with
 | nil=>intro c R r z l _ i et aI ab n ad e;cases e
 | cons p ts aP=>
  intro c R r z l h i et aI ab n ad e;obtain⟨fs,t⟩:=p;obtain⟨m,E,_⟩:=Ll t h;simp  [eV,fv]at e;split at e
  ·rename_i GK;subst GK;cases t with
   | aS mX=>
    obtain⟨_,an⟩:=Lk h;rw[an];exact e
   | _=>cases e
  grind
end
structure Lm(C:cH)(s:aB)(a:Act)(w:World)(kap:Nat->bL)(f:Nat->Nat)(F':Nat->Prop)(sh:eC)(A:sh.aj)(b_:List Nat):Prop where
 b1:∀ i,bM C.P (sh.ad A).aa (λb=>kap (f b)) F' w ((sh.ad A).aA i) (a.tmps.getD i Go.undef)
 bF:∀ b,c6 C.P (sh.ad A).aa (λb=>kap (f b)) F' w b
 ch:∀ b,((sh.ad A).aa b).body.ch (kap (f b))=true->f b ∉ b_/\(s.aa (f b)).body.ch (kap (f b))=true/\b∈sh.rQ
 Dn:ur f s.aa (sh.ad A).aa
 aS:∀ l aI ab n ad,(sh.ad A).aA cd=.aS l aI ab n ad->s.aA cd=.aS l aI ab n ad
 bR:∀ b e m,((sh.ad A).aa b).body=.bR e m->(s.aa (f b)).body=.bR e m\/m=[]
variable {f:Nat->Nat}{a:Act}{w:World}{kap:Nat->bL}{F:Nat->Prop}
theorem eC.ZZ{C:cH}{sh:eC}{A:sh.aj}{b_:List Nat}(h:sh.Dh f s=some (A,b_))(D:bu C s a w kap F) :
  ∃ F',(∀ r,F r->F' r)/\bu C (s.cD b_) a w kap F'/\Lm C s a w kap f F' sh A b_:=by
 unfold eC.Dh at h;split at h
 ·rename_i kB aLM ue;split at h
  ·cases h;obtain⟨m,E,hm⟩:=apF sh.b1 ue;have kP:=apH sh.b1 ue λy m hm=>apN sh.bF hm;obtain⟨F',f1,bk,f2⟩:=bu.mR kP D;have apQ:=apL sh.bF E;have xj:ur f s.aa (sh.ad A).aa:=by
    intro b;show (eP (gV dx sh.bF (eV dx sh.b1 A).2) b).gen=0/\oQ (s.aa (f b)).body (eP (gV dx sh.bF (eV dx sh.b1 A).2) b).body;grind [oQ.ev]
   obtain⟨m2,_,_,apR⟩:=apD     D.bF f1 xj sh.b1 ue;refine⟨F',f1,bk,{ b1:=λi=>apR f2 i _ (D.b1 i),bF:=λb=>?_,ch:=λb U=>?_,Dn:=xj,aS:=λl aI ab n ad e=>apP sh.b1 ue e,bR:=apM sh.bF E }⟩
   ·exact apO D.bF f1 xj sh.bF E (λc hc=>f2 c (hm c hc)) b
   ·have ak:=(xj b).2.2.2.2.2 _ U;rcases apQ b with e | ⟨km,e,_,t,aH,aLN⟩
    ·have e:(sh.ad A).aa b=_:=e;rw[e]at U;cases U
    ·have e:(sh.ad A).aa b=_:=e;have bb:b∈sh.rQ:=List.mem_filterMap.2 ⟨(b,t),aH,by grind⟩;grind
  grind
 grind
theorem Lm.xk{C:cH}{F':Nat->Prop}{sh:eC}{A:sh.aj}{b_:List Nat}(h:Lm C s a w kap f F' sh A b_){b:Nat}(U:((sh.ad A).aa b).body.ch (kap (f b))=true) :
  ((s.cD b_).aa (f b)).body.ch (kap (f b))=true:=by
 obtain⟨E,L,_⟩:=h.ch b U;grind [aB.cD]
theorem Ru{C:cH}(D:bu C s a w kap F){b:Nat}{e:V} :
  bu C (s.ct b ⟨(s.aa b).gen+1,.bn e []⟩) a w (λi=>if i=b then ⟨0,0,0,true⟩ else kap i) F:=
 D.Ga (k:=⟨0,0,0,true⟩) (aQq _) (.inl rfl) (amn _) (λ_ _=>rfl) (λh=>by grind) (dL.refl _) λ_ _=>⟨λ_=>rfl,λh=>by grind⟩
theorem apS{C:cH}(D:bu C s a w kap F){b bj g':Nat}(az:s.aA i=.own bj g'):∃ bT,bu C (Q4 s i b bj g') a w bT F:=by
 unfold Q4;split
 ·rename_i e xs ax cm;obtain⟨eM,rfl⟩:=aP4 ax;generalize pk:(λj=>if j=b then (⟨(s.aa b).gen+1,.bn e xs⟩) else if j=bj then ⟨(s.aa bj).gen+1,.ev⟩ else s.aa j)=H';generalize kC:(λj=>if j=b then kap bj else kap j)=bT;have E:H' b=⟨(s.aa b).gen+1,.bn e xs⟩:=by grind
  have L:H' bj=⟨(s.aa bj).gen+1,.ev⟩:=by grind
  have aM:bT b=kap bj:=by grind
  have b5:∀ j,j≠b->bT j=kap j:=λj k=>by grind
  have ah:fI s.aa kap H' bT:=by
   intro j;by_cases aE:j=b<;>grind
  have eJ:∀ j,(H' j).body.ch (bT j)=true->(j=b/\(s.aa bj).body.ch (kap bj)=true)\/(j≠b/\j≠bj/\(s.aa j).body.ch (kap j)=true):=λj aK=>by
   by_cases aE:j=b
   ·grind
   ·by_cases bz:j=bj
    ·subst bz;rw[L]at aK;cases aK
    grind
  have h:=D.move         ah (λ_ h=>h) (λ_ h=>.inl h) (amn _) (λ_ _ _=>rfl) (dL.refl w)
   (λ_ j=>by
    by_cases aE:j=b
    ·subst aE;have a1:=D.bF bj;unfold c6 at a1 ⊢;rw[cm]at a1;rw[E,aM];exact a1
    ·by_cases bz:j=bj
     ·subst bz;unfold c6;rw[L];trivial
     ·exact c6.k_ (D.bF j) ah (λ_ h=>h) (di.refl _ _) (by grind) (b5 j aE) λ_=>rfl)
   (λj aK=>by
    rcases eJ j aK with⟨rfl,h⟩ | ⟨aE,_,h⟩
    ·have:=D.own bj h;grind
    ·have:=D.own j h;grind)
   (λj mT aK gQ e=>by
    rcases eJ j aK with⟨rfl,h⟩ | ⟨aE,bz,h⟩<;>rcases eJ mT gQ with⟨rfl,e0⟩ | ⟨Z0,apT,e0⟩
    ·rfl
    ·rw[aM,b5 mT Z0]at e;exact absurd (D.inj bj mT h e0 e).symm apT
    ·rw[aM,b5 j aE]at e;exact absurd (D.inj j bj h e0 e) bz
    ·rw[b5 j aE,b5 mT Z0]at e;exact D.inj j mT h e0 e)
   D.ds
   (λj _ aK=>by
    by_cases aE:j=b
    ·subst aE;rw[E]at aK;rcases aK with aK | aK<;>cases aK
    ·by_cases bz:j=bj
     ·subst bz;rw[L]at aK;rcases aK with aK | aK<;>cases aK
     grind)
   (λaZ m hm=>by
    grind)
  refine⟨bT,{ h with b1:=λj=>?_,dX:=h.dX,dj:=h.dj,bF:=h.bF,e7:=λl aI ab n ad aZ=>?_,bR:=λaZ m hm=>⟨(h.bR aZ m hm).1,λid xs al=>⟨λl aI ab n ad aH=>?_,((h.bR aZ m hm).2 id xs al).2⟩⟩ }⟩
  ·show bM C.P _ _ F w (if j=i then .own b ((s.aa b).gen+1) else s.aA j) _;split
   ·rename_i e;subst e;have af:=D.b1 j;rw[az]at af;have jP:=af.2 rfl (by rw[cm];rfl);exact⟨⟨by grind,af.1.2⟩,λ_ _=>by grind⟩
   ·exact h.b1 j
  ·have aZ:(if cd=i then .own b ((s.aa b).gen+1) else s.aA cd)=.aS l aI ab n ad:=aZ;split at aZ
   ·grind
   ·exact h.e7 l aI ab n ad aZ
  ·have aZ:(if cd=i then .own b ((s.aa b).gen+1) else s.aA cd)=.aS l aI ab n ad:=aH;split at aZ
   ·grind
   ·exact ((h.bR _ m hm).2 id xs al).1 l aI ab n ad aZ
 grind
variable {dB:List (Nat×cc)}
theorem apU{C:cH}(D:bu C s a w kap F)(i b:Nat):∃ bT,bu C (Q5 dB s i b) a w bT F:=by
 unfold Q5;split
 ·rename_i e az _;have h:=Ru D (b:=b) (e:=e);refine⟨_,{ h with b1:=λj=>?_,dX:=h.dX,dj:=h.dj,bF:=h.bF,e7:=λl aI ab n ad aZ=>?_,bR:=λaZ m hm=>⟨(h.bR aZ m hm).1,λid xs al=>⟨λl aI ab n ad aH=>?_,((h.bR aZ m hm).2 id xs al).2⟩⟩ }⟩
  ·show bM C.P _ _ F w (if j=i then .own b ((s.aa b).gen+1) else s.aA j) _;split
   ·rename_i e;subst e;have af:=D.b1 j;rw[az]at af;rw[af];exact⟨⟨by simp[aB.ct],rfl⟩,λ_ _=>by simp[bL.slice]⟩
   ·exact h.b1 j
  ·have aZ:(if cd=i then .own b ((s.aa b).gen+1) else s.aA cd)=.aS l aI ab n ad:=aZ;split at aZ
   ·grind
   ·exact h.e7 l aI ab n ad aZ
  ·have aZ:(if cd=i then .own b ((s.aa b).gen+1) else s.aA cd)=.aS l aI ab n ad:=aH;split at aZ
   ·grind
   ·exact ((h.bR _ m hm).2 id xs al).1 l aI ab n ad aZ
 ·rename_i az _;exact apS D az
 grind
theorem apV{C:cH}(D:bu C s a w kap F)(c j b:Nat):∃ bT,bu C (Q6 dB s c j b) a w bT F:=by
 unfold Q6;split
 ·rename_i t f hc;split
  ·rename_i e ay ax _;have h:=Ru D (b:=b) (e:=e);have ho:(s.ct b ⟨(s.aa b).gen+1,.bn e []⟩).aa c=s.aa c:=by grind [aB.ct]
   have a1:=h.bF c;unfold c6 at a1;rw[ho,hc]at a1;obtain⟨cs,T,E,L,an⟩:=a1;refine⟨_,h.qU       (by rw[ho,hc];rfl) rfl
    (pd (by grind) (λ_=>by rw[ho,hc];rfl) (λh=>by cases h) (λh=>by cases h) (λh=>by cases h)) (λ_=>by rw[ho,hc];rfl) (λh=>by cases h) (λ_ _=>rfl) rfl (dL.refl _) λH pk ah _=>?_⟩
   refine⟨cs,T,E,L,λq bB=>⟨?_,(an q bB).2⟩⟩;grind [bM,aB.ct,bL.slice,bM.later]
  grind
 grind
theorem apW{C:cH}(sh:eC)(D:bu C s a w kap F):∃ bT,bu C (sh.KW s) a w bT F:=by
 have E:∀ (l:List (Nat×cg)) (s:aB) (kap:Nat->bL),bu C s a w kap F->∃ bT,bu C (KT sh.bF l s) a w bT F:=by
  intro l;induction l with
  | nil=>intro s kap h;exact⟨kap,h⟩
  | cons p l aP=>
   intro s kap h;simp  [KT];split
   ·obtain⟨bT,e0⟩:=apU   h p.1 _;exact aP _ _ e0
   grind
 have L:∀ (c:Nat) (l:List cg) (j:Nat) (s:aB) (kap:Nat->bL),bu C s a w kap F->∃ bT,bu C (KU sh.bF c l j s) a w bT F:=by
  intro c l;induction l with
  | nil=>intro j s kap h;exact⟨kap,h⟩
  | cons t l aP=>
   intro j s kap h;simp  [KU];split
   ·obtain⟨bT,e0⟩:=apV   h c j _;exact aP _ _ _ e0
   ·exact aP _ _ _ h
 have an:∀ (l:List (Nat×cc)) (s:aB) (kap:Nat->bL),bu C s a w kap F->∃ bT,bu C (KV sh.bF l s) a w bT F:=by
  intro l;induction l with
  | nil=>intro s kap h;exact⟨kap,h⟩
  | cons p l aP=>
   intro s kap h;simp  [KV];split
   ·obtain⟨bT,e0⟩:=L p.1 _ 0 s kap h;exact aP _ _ e0
   grind
 obtain⟨apX,gn⟩:=E sh.b1 s kap D;exact an sh.bF _ _ gn
theorem Z1:∀ (l:List (Nat×cc)) (x:pv l) (b:Nat),(eP (gV dx l x) b).body.gO=true->∃ q∈l,q.1=b/\q.2.ZA=true
 | [],_,_,h=>by cases h
 | p::l,x,b,h=>by
  simp  [gV,eP]at h;by_cases e:b=p.1
  ·rw[if_pos e]at h;refine⟨p,by simp,e.symm,?_⟩;obtain⟨fs,t⟩:=p;cases t<;>first | rfl | cases h
  ·rw[if_neg e]at h;obtain⟨q,E,L⟩:=Z1 l _ b h;grind
theorem eC.Dp{C:cH}{sh:eC}{A:sh.aj}(h:sh.kR s=some A)(D:bu C s a w kap F):∃ bT F',(∀ r,F r->F' r)/\bu C (sh.ad A) a w bT F':=by
  obtain⟨kap,D⟩:=apW sh D;unfold eC.kR at h;generalize sh.KW s=s at h D;split at h;case h_2=>grind
  rename_i AG;simp only[aP9]at h;obtain⟨⟨kB,b_⟩,h,rfl⟩:=h;obtain⟨F',f1,bk,ax⟩:=eC.ZZ h D;have eJ:=λb U=>ax.xk (b:=b) U;exact⟨kap, F', f1, { bk with
    dX:=bk.dX,dj:=bk.dj,b1:=ax.b1,bF:=ax.bF,own:=λb U=>bk.own b (eJ b U),inj:=λb bj U ef=>bk.inj b bj (eJ b U) (eJ bj ef)
    iS:=λb r D hc=>bk.iS b r D (hc.imp (λhc=>by
      have aW:=(ax.Dn b).2.1 hc;simp  [aB.cD];split
      · rcases Am s.aa (s.aa b) with e | ⟨_,_,al,_⟩ | ⟨_,_,_,al,_⟩ | ⟨_,_,_,_,_,_,e⟩
        · grind
        · rw[al]at aW;cases aW
        · rw[al]at aW;cases aW
        · rw[e];rfl
      omega) (λhc=>by
      have aW:=(ax.Dn b).2.2.2.1 hc;simp  [aB.cD];split
      · rcases Am s.aa (s.aa b) with e | ⟨_,_,al,_⟩ | ⟨_,_,_,_,e⟩ | ⟨_,_,_,_,al,_,_⟩
        · grind
        · rw[al]at aW;cases aW
        · rw[e];rfl
        · rw[al]at aW;cases aW
      omega))
    jB:=λb k ak _ aY=>by
      obtain⟨cr,b4,_⟩:=(ax.Dn b).2.2.1 aY;have aD:(s.aa b).gen=0:=by
        rcases Z1 sh.bF (eV dx sh.b1 kB).2 b aY with⟨q,bB,rfl,hP⟩
        have:=List.all_eq_true.1 AG q bB;have bw:=D.ld _ k ak;grind
      obtain⟨aM,aT⟩:=D.jB b k ak aD cr;grind
    e7:=λl aI ab n ad e=>by
      obtain⟨E,L,Y,an,a6,bS⟩:=bk.e7 l aI ab n ad (ax.aS l aI ab n ad e);grind
    bR:=λe m hm=>by
      rcases ax.bR cF e m hm with k | rfl
      · have k':((s.cD b_).aa cF).body=.bR e m:=by
          grind [aB.cD,fK]
        obtain⟨fs,fQ⟩:=bk.bR e m k'
        refine⟨fs,λid xs al=>?_⟩
        obtain⟨nt,cU,cO,hO,lE,cv⟩:=fQ id xs al
        exact⟨λl aI ab n ad aH=>nt l aI ab n ad (ax.aS l aI ab n ad aH),cU,cO,hO,λb U=>lE b (eJ b U),cv⟩
      simp }⟩
theorem eC.A0{C:cH}{sh:eC}{A:sh.aj}(h:sh.kR s=some A)(D:dd C s a w):dd C (sh.ad A) a w:=by
 obtain⟨kap,F,D⟩:=D;obtain⟨bT,F',_,bk⟩:=eC.Dp h D;exact⟨bT,F',bk⟩
end Go.Fer
namespace Go.Fer
open Go.RowKit
def apY(C:cH)(o:Oper)(s:aB)(cI:iD):Prop:=
 ∀ (a:Act) (w:World) (Q:Exit->Act->World->Prop) (K:Act->World->Prop),dd C s a w->cI.cy->c' cI.m (λy=>∀ a' w',dd C (cI.ad y) a' w'->K a' w')->o.wpIn (eY C.r) 0 C.P a w K Q
def apZ(C:cH)(o:Oper)(s:aB)(cI:iD):Prop:=
 ∀ gs,cI.Gz=some gs->(∀ y a w,dd C (cI.ad y) a w->dd C (gs true y) a w)/\∀ a w,dd C s a w->dd C (gs false cI.d) (a.put o.dst Go.undef) w
structure q9(C:cH)(o:Oper)(s:aB)(cI:iD):Prop where
 prog:apY C o s cI
 aLO:apZ C o s cI
 aLP:vp (bh C.aX s.aA) o->cI.cy
theorem dd.Rv{C:cH}{s:aB}{d:Option Nat}{av AZ:aL}{a:Act}{w:World}(h:dd C (s.set d av) a w)
  (ax:∀ i,d=some i->i<C.bZ) (af:∀ kap F v,bM C.P s.aa kap F w av v->bM C.P s.aa kap F w AZ v):dd C (s.set d AZ) a w:=by
 cases d with
 | none=>exact h
 | some d=>
  obtain⟨kap,F,h⟩:=h;have aC:=h.hB;have aH:cd≠d:=by grind [cd,fz]
  refine⟨kap,F,{ h with b1:=λi=>?_,dX:=h.dX,dj:=h.dj,bF:=h.bF,e7:=λl aI ab n ad e=>h.e7 l aI ab n ad ?_,bR:=h.bR.b1 rfl λl aI ab n ad e=>?_ }⟩
  ·have G:=h.b1 i;grind [aB.set]
  ·grind [aB.set]
  grind [aB.set]
section
variable {C:cH} {T:Nat->V} {br:Nat->Option aO} {o:Oper} {s:aB}
theorem A2{args:List Operand}(U:vp (bh C.aX s.aA) o)(aY:∀ x∈args,x∈o.op.operands.toList):kf (args.map (bh C.aX s.aA)):=
 Gl λv af=>by
  simp  at af;obtain⟨p,ai,rfl⟩:=af;exact U p (aY p ai)
theorem Z2(bo:∀ i,o.dst=some i->i<C.bZ){aS:V}{b_:List Nat}(kP:iJ s.aa b_){d:aS.aj} :
  (∀ (y:aS.aj) a w,dd C (uk s o aS b_ (qV aS y)) a w->dd C (uk s o aS b_ (.ks true (qV aS y))) a w)/\∀ a w,dd C s a w->dd C (uk s o aS b_ (.ks false (qV aS d))) (a.put o.dst Go.undef) w:=by
 refine⟨λy a w h=>dd.Rv h bo λkap F v af=>⟨λ_=>af,λh=>(by grind)⟩,λa w h=>?_⟩;obtain⟨kap,F,D⟩:=h;obtain⟨F',_,bk,_⟩:=bu.mR kP D;unfold uk;split
 ·exact⟨kap,F,D.set bo ⟨λh=>(by grind),λ_=>rfl⟩⟩
 ·exact⟨kap,F',bk.set bo ⟨λh=>(by grind),λ_=>rfl⟩⟩
variable {dr:Array TypeId}{cI:iD}
theorem ap0(bo:∀ i,o.dst=some i->i<C.bZ){k:Nat}{args:Array Operand}(au:o.op=.call { callee:=.value (.func k),args:=args,argTypes:=dr }){dJ:jG}(ay:hA C.P k dJ.ts dJ.aS dJ.sh)
  (h:GA C.aX s o args.toList dJ=some cI):q9 C o s cI:=by
 unfold GA at h;split at h
 ·rename_i x b_ al;cases h;refine⟨λa w Q K D bb hm=>?_,λgs px=>?_,λU=>A2 U λx al=>by grind [Op.operands,Call.operands]⟩
  ·obtain⟨kap,F,D⟩:=D;exact Qk D ay bo au bb al hm.1 λy w' ba v hrel=>hm.2 y ba _ _ hrel
  ·cases px;exact Z2 bo (rO _ al)
 grind
theorem ap1(bo:∀ i,o.dst=some i->i<C.bZ){k:Nat}{args:Array Operand}(au:o.op=.call { callee:=.value (.func k),args:=args,argTypes:=dr }){dJ:jG}(ay:hA C.P k dJ.ts dJ.aS dJ.sh)(GL:FF C.P k dJ.ts dJ.aS dJ.sh)
  (h:K3 C.aX s o args.toList dJ=some cI):q9 C o s cI:=by
 unfold K3 at h;split at h
 ·rename_i x b_ al;cases h;refine⟨λa w Q K D bb hm=>?_,λgs px=>(by grind),λU=>A2 U λx al=>by grind [Op.operands,Call.operands]⟩;obtain⟨kap,F,D⟩:=D;obtain⟨args⟩:=args;have du:(execOp a.eval o).run C.P w=.ok (.enter k (args.map a.eval).toArray) w:=by
   simp  [execOp,au,resolve,Act.eval,Deferred.ofValue,invoke];have:=ay.enter (args.map a.eval).toArray w;grind
  obtain⟨F',f1,bk,f2⟩:=bu.mR (rO _ al) D;have fu:gv C.P dJ.ts F' w (args.map a.eval) x:=by
   refine w7 D.bF f1 dJ.ts al f2 (by simp) λi G d_=>?_;have E:=tY bb i (by grind);grind [qW,lJ]
  refine yr (by grind) du (GL.ik F' w _ x bk.ds bk.hX fu hm.1) λe w' ⟨v,y,he,ba,gT,U⟩=>⟨v,he,hm.2 y ba _ _ ⟨kap,_,(D.grow U).set bo (Ax ?_)⟩⟩
  obtain⟨aG,cU,cO,hO⟩:=gT;exact⟨aG,cU,cO,fH _ (λr D=>.inr D) (di.refl _ _) hO⟩
 grind
theorem ap2(bo:∀ i,o.dst=some i->i<C.bZ){t:Nat}{args:Array Operand}(au:o.op=.call { callee:=.value (.tmp t),args:=args,argTypes:=dr })
  (h:GB C.aX s o t args.toList=some cI):q9 C o s cI:=by
 unfold GB at h;split at h
 ·rename_i cy aI b f hu;split at h
  ·rename_i x b_ al;cases h;obtain⟨args⟩:=args;refine⟨λa w Q K D bb hm=>?_,λgs px=>?_,λU=>⟨?_,A2 U λx al=>by grind [Op.operands,Call.operands]⟩⟩
   ·obtain⟨kap,F,D⟩:=D;obtain⟨F',f1,bk,f2⟩:=bu.mR (rO _ al) D;have fu:gv C.P aI F' w (args.map a.eval) x:=by
     refine w7 D.bF f1 aI al f2 (by simp) λi G d_=>?_;have E:=tY bb.2 i (by grind);grind [qW,lJ]
    have Ln:bM C.P s.aa kap F w (use (bh C.aX s.aA (.tmp t))).2 (a.eval (.tmp t)):=db D (.tmp t) hu bb.1 |> λh=>by
     grind [bh]
    have e:use (bh C.aX s.aA (.tmp t))=(cy,.val (.fn aI b) f):=hu;rw[e]at Ln;obtain⟨_,u,Lo,_,hg⟩:=(ee rfl).1 Ln;obtain⟨g,dP,aD,uu,Rw⟩:=hg F' w f1 (di.refl _ _) bk.ds bk.hX (args.map a.eval) x fu.1 fu.2 hm.1;have du:(execOp a.eval o).run C.P w=.ok (.enter g ((args.map a.eval).toArray++dP)) w:=by
     grind [execOp,resolve,Deferred.ofValue,invoke]
    refine yr (by grind) du Rw λe w' ⟨v,y,aG,he,ba,E,L,an,U⟩=>⟨v,he,hm.2 y ba _ _ ?_⟩
    have gT:tL C.P b (wT F' w w') w' v y:=⟨aG,E,L,an⟩
    unfold uk;by_cases ai:b.pure=true
    ·rw[if_pos ai];have aD:=D.grow U;refine⟨kap,_,aD.set bo (Ax ?_)⟩;exact⟨aG,E,Qj ai ⟨L,an⟩⟩
    ·rw[if_neg ai];have aD:=bk.grow U;exact⟨kap,_,aD.set bo (Ax gT)⟩
   ·cases px;exact Z2 bo (rO _ al)
   ·have:=U (.tmp t) (by grind [Op.operands,Call.operands]);grind [bh]
  grind
 grind
variable {x:Operand}
theorem ap3(aU:eg C.P T)(bo:∀ i,o.dst=some i->i<C.bZ){ty:TypeId}(au:o.op=.range ty x)(h:K9 C.aX T s o ty x=some cI):q9 C o s cI:=by
 unfold K9 at h;split at h
 ·rename_i k v d aH ax;split at h;rename_i cy av hu;split at h
  ·rename_i es b_ rL;split at h
   ·grind
   ·cases h;obtain⟨i,j,G,_,_⟩:=(aU.ca aH (by simp)).mp;refine⟨λa w Q K D bb hm=>?_,λgs px=>(by grind),λU=>vp.use U (by grind [Op.operands]) hu⟩;obtain⟨kap,F,D⟩:=D;obtain⟨F',f1,bk,f2⟩:=bu.mR (pj rL) D;have af:=db D x hu bb;have qZ:=((ee rfl).1 (oF D.bF f1 rL f2 af)).2;have kC:=hm.2 () rfl;have sO:(s.cD b_).aa d=s.aa d:=by grind [aB.cD]
    have fin:∀ (cG:Obj),(∀ w',w'=w.alloc cG->z_ C.P k v F' w' w.heap.size none es)->(execOp a.eval o).run C.P w=.ok (.value (.pointer (some ⟨w.heap.size,0,none⟩))) (w.alloc cG)->o.wpIn (eY C.r) 0 C.P a w K Q:=by
     intro cG hit du;have E:=bk.alloc   (x:=⟨(s.aa d).gen+1,.cG k v none es⟩) (D.iT (bo d ax)) (by grind)   (k:=⟨w.heap.size,0,0,false⟩) rfl λH bT _ _ _=>hit _ rfl;refine h7 (by grind) du (kC _ _ ⟨_,F',bu.set   E bo ⟨⟨by simp[aB.ct],rfl⟩,λ_ _=>by simp⟩⟩)
    rcases qZ with⟨aE,rfl⟩ | ⟨r,ms,clk,aE,m1,m2,m3,m4,m5,m6⟩
    ·refine fin (.mapIter none 0 #[] 0) (λw' hw=>.inl ⟨by grind [tR],rfl,rfl⟩) ?_;simp_all[execOp,Instr.range,en]
    ·have al:=(aPQ aE).1;refine fin (.mapIter (some r) clk #[] clk) (λw' hw=>.inr ⟨r,ms,clk,#[],m1,?_,by grind [tR],λi G=>(m5 i (by omega) G).2.2.2.2,m6,?_,λc hc=>by grind⟩) ?_
     ·grind [rH]
     ·refine⟨List.range ms.size,by grind,List.nodup_range,λi=>by simp,λj aK gQ=>?_⟩;have Z3:j<ms.size:=by omega
      obtain⟨aM,aT,b5,hC,_⟩:=m5 j gQ Z3;refine⟨by grind,?_⟩;simp;have he:di F' w w':=by rw[hw];exact di.alloc bk.ds _
      exact CE.mono ⟨aM,aT,b5,hC⟩ (λ_ h=>h) he
     ·have f':(getObj r).run C.P w=.ok (.map ms clk) w:=by grind [getObj,Sem.run]
      simp[execOp,au,Instr.range,en G,al,f']
  grind
 grind
theorem ap4(bo:∀ i,o.dst=some i->i<C.bZ)(au:o.op=.entry x)(h:La C.aX s o x=some cI):q9 C o s cI:=by
 unfold La at h;split at h
 ·rename_i b g al;split at h
  ·rename_i aD;split at h
   ·rename_i k v c b8 U;cases h;refine⟨λa w Q K D _ hm=>?_,λgs px=>(by grind),λ_=>trivial⟩;obtain⟨kap,F,D⟩:=D;have af:=lJ D x;rw[al]at af;have af:=af.2 aD.symm (by rw[U];rfl);have a1:=D.bF b;unfold c6 at a1;rw[U]at a1;have hE:=h5.1 hm;have kC:=dO.1 hE.2;obtain⟨gl,kx⟩:=Option.isSome_iff_exists.1 hE.1;subst kx;rcases a1 with⟨_,_,e⟩ | ⟨oC,es,clk,hl,E,L,an,a6,bS,_,iQ⟩
    ·grind
    ·obtain⟨i,G,az,he⟩:=iQ gl rfl;have Gk:es.find? (λe=>e.born == es[i].born)=some es[i]:=by
      cases ay:es.toList.find? (λe=>e.born == es[i].born) with
      | none=>grind
      | some e=>
       grind [List.mem_iff_getElem]
     have GM:(getObj (kap b).aa).run C.P w=.ok (.mapIter (some oC) clk hl clk) w:=by grind [getObj,Sem.run]
     have AE:(getObj oC).run C.P w=.ok (.map es clk) w:=by grind [getObj,Sem.run]
     have du:(execOp a.eval o).run C.P w=.ok (.value (.tuple #[es[i].key,es[i].val])) w:=by
      simp[execOp,au,Instr.entry,af,GM,AE,az,Gk]
     refine h7 (by grind) du (kC _ _ ⟨kap,F,D.set bo ⟨[es[i].key,es[i].val],rfl,rfl,λn aC=>?_⟩⟩);match n,aC with
     | 0,_=>exact⟨he.1,he.2.1⟩
     | 1,_=>exact⟨he.2.2.1,he.2.2.2⟩
   grind
  grind
 grind
theorem ap5{es:Array MapEntry}{hl:Array Nat}{clk:Nat}(a6:∀ i (h:i<es.size),es[i].born<clk) :
  (es.filter λe=>!hl.contains e.born).filter (λe=>decide (e.born<clk))=(es.filter λe=>!hl.contains e.born)/\(es.filter λe=>!hl.contains e.born).filter (λe=>decide (e.born>=clk))=#[]:=by
 have gu:∀ e∈es.filter λe=>!hl.contains e.born,e.born<clk:=by
  grind [Array.mem_iff_getElem]
 grind [Array.filter_eq_self,Array.filter_eq_empty_iff]
theorem ap6(P:Program)(w:World)(n:Nat):∃ j w',(choose (.mapNext n)).run P w=.ok j w'/\(0<n->j<n)/\(w'=w\/w'=w.drew):=by
 rw[run_choose];by_cases h:n<=1
 ·have:(Question.mapNext n).forced=true:=by grind [Question.forced]
  rw[this];grind
 ·have:(Question.mapNext n).forced=false:=by grind [Question.forced]
  rw[this];exact⟨_,_,rfl,λaC=>Nat.mod_lt _ aC,.inr rfl⟩
theorem ap7(bo:∀ i,o.dst=some i->i<C.bZ){str:Bool}(au:o.op=.next x str)(h:K' C.aX s o x str=some cI):q9 C o s cI:=by
  unfold K' at h;split at h
  · rename_i b g al
    split at h
    · rename_i aD
      split at h
      · rename_i k v c b8 U
        cases h
        refine⟨λa w Q K D _ hm=>?_,λgs px=>(by grind),λ_=>trivial⟩
        obtain⟨kap,F,D⟩:=D
        have af:=lJ D x
        rw[al]at af
        have af:=af.2 aD.symm (by rw[U];rfl)
        have a1:=D.bF b
        unfold c6 at a1
        rw[U]at a1
        have ax:∀ c,o.op≠.defer c:=by grind
        have hU:∀ w',(w'=w\/w'=w.drew)->b8=[]->(execOp a.eval o).run C.P w=.ok (.value (.tuple #[.bool false])) w'->o.wpIn (eY C.r) 0 C.P a w K Q:=by
          intro w' Dq rU du;have c1:bu C s a w' kap F:=by
            rcases Dq with rfl | rfl
            · omega
            · exact D.drew
          have YW:s.ct b ⟨g,.cG k v c b8⟩=s:=by
            unfold aB.ct;congr 1;funext i;by_cases G:i=b
            · rw[if_pos G,G,<-U,<-aD]
            grind
          refine h7 ax du (hm.2 none rU _ _ ⟨kap,F,bu.set (s:=s.ct b ⟨g,.cG k v c b8⟩) (by grind) bo ⟨[.bool false],rfl,rfl,λn aC=>?_⟩⟩);have:=by simp  [ZM]at aC;omega
          subst this;exact hV.2 rfl
        rcases a1 with⟨E,L,_⟩ | ⟨oC,es,clk,hl,E,L,an,a6,bS,⟨ids,i1,i2,i3,i4⟩,iQ⟩
        · refine hU w (.inl rfl) L ?_
          have GM:(getObj (kap b).aa).run C.P w=.ok (.mapIter none 0 #[] 0) w:=by simp[getObj,Sem.run,E]
          simp[execOp,au,Instr.next,af,GM]
        · have GM:(getObj (kap b).aa).run C.P w=.ok (.mapIter (some oC) clk hl clk) w:=by simp[getObj,Sem.run,an]
          have AE:(getObj oC).run C.P w=.ok (.map es clk) w:=by simp[getObj,Sem.run,L]
          obtain⟨f1,f2⟩:=ap5   a6
          have gu:(!hl.isEmpty&&!es.isEmpty&&es.all (λe=>decide (e.born>=clk)))=false:=by
            by_cases he:es.size=0
            · grind
            · have:es.all (λe=>decide (e.born>=clk))=false:=by
                rw[Array.all_eq_false];exact⟨0,by omega,by grind⟩
              grind
          generalize ap8:(es.filter λe=>!hl.contains e.born)=left at f1 f2
          have ap9:((if left.isEmpty=true then #[none] else #[])++Array.map some (left++(#[])))=(if left.isEmpty=true then #[none] else Array.map some left):=by
            grind
          obtain⟨j,w',bG,c2,c3⟩:=ap6 C.P w (if left.isEmpty=true then #[none] else Array.map some left).size
          have dh:w'.heap=w.heap:=by rcases c3 with rfl | rfl<;>rfl
          have Rx : ∀ r dN, (match (if left.isEmpty = true then #[none] else Array.map some left)[j]? with
                | some (some e)=>(do setObj (kap b).aa (.mapIter (some oC) clk (hl.push e.born) clk);pure (.tuple #[.bool true,e.key,e.val]):Sem Value)
                | some none=>pure (.tuple #[.bool false])
                | none => stuck "Next: no such candidate").run C.P w' = .ok r dN -> (execOp a.eval o).run C.P w = .ok (.value r) dN := by
            intro r dN c1;simp only[execOp,au,Instr.next,af,Sem.run_bind,GM,Result.andThen_ok,AE,gu,aml,aPH,ap8,f1,f2,ap9,bG];exact (congrArg (λz=>z.andThen λv w'=>Sem.run C.P (Pure.pure (Next.value v)) w') c1).trans rfl
          by_cases hle:left.isEmpty=true
          · have rU:b8=[]:=by
              have:ids=[]:=List.eq_nil_iff_forall_not_mem.2 λi G=>by
                simp_all
              grind
            rw[hle]at Rx c2
            have aK:j=0:=by grind
            subst aK
            exact hU w' c3 rU (Rx _ _ rfl)
          · have aK:j<left.size:=by grind
            have ps:left[j]∈(es.filter λe=>!hl.contains e.born):=by grind
            obtain⟨w9,aLQ⟩:=Array.mem_filter.1 ps
            obtain⟨i0,sP,aLR⟩:=Array.mem_iff_getElem.1 w9
            have ap_:=(i3 i0).2 ⟨sP,by grind⟩
            obtain⟨q,bB,Lp⟩:=List.mem_iff_getElem.1 ap_
            have Ry:q<b8.length:=by omega
            have ua:(setObj (kap b).aa (.mapIter (some oC) clk (hl.push left[j].born) clk)).run C.P w'=.ok () { w' with heap:=w'.heap.setIfInBounds (kap b).aa (.mapIter (some oC) clk (hl.push left[j].born) clk) }:=by
              simp[setObj,Sem.run,dh,an]
            have du:=Rx (.tuple #[.bool true,left[j].key,left[j].val]) { w' with heap:=w'.heap.setIfInBounds (kap b).aa (.mapIter (some oC) clk (hl.push left[j].born) clk) } (by
              simp_all)
            have ku:dL w w':=by rcases c3 with rfl | rfl<;>exact⟨rfl,rfl,rfl⟩
            have hp:fI s.aa kap (λi=>if i=b then (⟨g,.cG k v b8[q]? (b8.eraseIdx q)⟩) else s.aa i) kap:=
              pd aD.symm (λh=>by cases h) (λh=>by cases h) (λh=>by cases h) (λ_=>by rw[U];rfl)
            have gz:=D.qU     (w':={ w' with heap:=w'.heap.setIfInBounds (kap b).aa (.mapIter (some oC) clk (hl.push left[j].born) clk) }) (by rw[U];rfl) rfl hp (λh=>by cases h) (λh=>by cases h)
              (λr Qs=>by grind) (by grind) ⟨ku.os,ku.tape,ku.output⟩ λH _ _ he=>by
                refine .inr ⟨oC,es,clk,hl.push left[j].born,E,?_,by grind,a6,bS,⟨ids.eraseIdx q,?_,?_,λi=>?_,λn aC xb=>?_⟩,λgl kx=>?_⟩
                · grind
                · grind
                · grind
                · rw[List.mem_eraseIdx_iff_getElem]
                  constructor
                  · rintro⟨n,aC,Lq,rfl⟩
                    obtain⟨h_,lL⟩:=(i3 ids[n]).1 (by simp)
                    refine⟨h_,?_⟩
                    simp only[Array.contains_push,aQo]
                    refine⟨lL,?_⟩
                    simp
                    intro e
                    exact Lq ((List.getElem?_inj aC i2).1 (by grind))
                  · rintro⟨h_,lL⟩
                    grind [List.mem_iff_getElem]
                · have yE:(ids.eraseIdx q)[n]=if h:n<q then ids[n]'(by omega) else ids[n+1]'(by grind):=by
                    grind
                  have Z4:(b8.eraseIdx q)[n]=if h:n<q then b8[n]'(by omega) else b8[n+1]'(by grind):=by
                    grind
                  have hlen:n+1<ids.length:=by grind
                  by_cases Lq:n<q
                  · obtain⟨h_,lL⟩:=i4 n (by omega) (by omega)
                    simp  [yE,Z4,Lq]
                    exact⟨h_,lL.mono (λ_ h=>h) he⟩
                  · obtain⟨h_,lL⟩:=i4 (n+1) hlen (by omega)
                    simp  [yE,Z4,Lq]
                    exact⟨h_,lL.mono (λ_ h=>h) he⟩
                · rw[ams Ry]at kx
                  cases kx
                  obtain⟨h_,lL⟩:=i4 q bB Ry
                  refine⟨i0,sP,by grind,?_⟩
                  have aE:es[ids[q]]=es[i0]:=by grind
                  rw[aE]at lL
                  exact lL.mono (λ_ h=>h) he
            refine h7 ax du (hm.2 (some q) Ry _ _ ⟨kap,F,bu.set   gz bo ⟨[.bool true,left[j].key,left[j].val],rfl,rfl,λn aC=>?_⟩⟩)
            match n,aC with
            | 0,_=>exact hV.2 rfl
            | 1,_=>trivial
            | 2,_=>trivial
      grind
    grind
  grind
end
end Go.Fer
namespace Go.Fer
open Go.RowKit
def GN:z10'->List Value->List Value->Prop
 | [],[],aG=>aG=[]
 | none::g,u::us,aG=>∃ tM,aG=u::tM/\GN g us tM
 | some n::g,u::us,aG=>∃ cs tM,u=.agg cs/\cs.size=n/\(∀ c∈cs.toList,c.oneCell'=true)/\aG=cs.toList++tM/\GN g us tM
 | _,_,_=>False
def Lr(g:z10')(v:Value)(aG:List Value):Prop:=∃ us:List Value,us.length=g.length/\v=(if us.length=1 then us.getD 0 undef else .tuple us.toArray)/\GN g us aG
structure cW(P:Program)(aQ:dV)(k:FuncId)(c:cK):Prop where
 enter:∀ args w,(callFunc k args).run P w=.ok (.enter k args) w
 ik:∀ (C:cH) (a:Act) (w:World) (kap:Nat->bL) (F:Nat->Prop) (A:c.cA.aj),C.P=P->C.ep=w->C.r=none->C.dj=[]->C.bZ=c.kS->C.aX=aQ->bu C (c.cA.ad A) a w kap F->(c.sh A).e3->
  Calls P k a.tmps w λe w'=>∃ v bl aG bT F',e=.returned v/\(c.sh A).a_ bl/\Lr c.ln v aG/\bu { C with bZ:=aG.length } (c.a_.ad bl) { tmps:=aG.toArray,defers:=[] } w' bT F'
section
variable {P:Program} {H H':Nat->b9} {kap bT:Nat->bL} {F:Nat->Prop} {w:World} {g:Nat->z21'}
def rV(H H':Nat->b9)(kap bT:Nat->bL)(g:Nat->z21'):Prop:=∀ b,(H b).gen=0/\tQ ⟨(g b).2,(H b).body⟩ (H' (g b).1) (kap b) (bT (g b).1)
theorem rV.eX(h:rV H H' kap bT g){b off:Nat}{v:Value}(af:bM P H kap F w (.eX b 0 off) v):bM P H' bT F w (.eX (g b).1 (g b).2 off) v:=by
 obtain⟨aW,aM,aT⟩:=h b;refine⟨⟨aM,af.1.2⟩,λaD hc=>?_⟩;obtain⟨bG,c2⟩:=(aT aD).1 hc;rw[c2];exact af.2 aW.symm bG
theorem rV.av(h:rV H H' kap bT g)(t:cg){R:Type}(z:t.cons R){v:Value}(af:bM P H kap F w (t.av dx z).1 v):bM P H' bT F w (t.av g z).1 v:=by
 cases t with
 | undef=>trivial
 | val t=>exact af
 | eL t=>exact af
 | eX b off=>exact h.eX af
 | own b=>
  obtain⟨aW,aM,aT⟩:=h b;refine⟨⟨aM,af.1.2⟩,λaD hc=>?_⟩;obtain⟨bG,c2,c3,c4⟩:=(aT aD).2.1 hc;rw[c2,c3];exact af.2 aW.symm bG
 | sub b=>
  obtain⟨aW,aM,aT⟩:=h b;refine⟨⟨aM,af.1.2⟩,λaD hc=>?_⟩;obtain⟨bG,c2,c3,c4⟩:=(aT aD).2.1 hc;rw[c2,c3,c4];exact af.2 aW.symm bG
 | hj b=>
  obtain⟨aW,aM,aT⟩:=h b;refine⟨⟨aM,af.1.2⟩,λaD hc=>?_⟩;obtain⟨bG,c2⟩:=(aT aD).2.2.1 hc;rw[c2];exact af.2 aW.symm bG
 | l2 b=>
  obtain⟨aW,aM,aT⟩:=h b;refine⟨⟨aM,af.1.2⟩,λaD hc=>?_⟩;obtain⟨bG,c2⟩:=(aT aD).2.2.2 hc;rw[c2];exact af.2 aW.symm bG
 | dW=>exact af
 | jh k hD=>
  obtain⟨aG,E,L,an⟩:=af;refine⟨aG,E,L,λi G=>?_⟩;have:=an i G;have aE:yx dx hD i=.eX hD[i].1 0 hD[i].2:=by simp_all[yx,hY,dx]
  have bz:yx g hD i=.eX (g hD[i].1).1 (g hD[i].1).2 hD[i].2:=by simp_all[yx,hY]
  rw[aE]at this;rw[bz];exact h.eX this
 | fB dB=>
  obtain⟨aG,E,L,an⟩:=af;refine⟨aG,E,L,λi G=>?_⟩;obtain⟨this,kx⟩:=an i G;refine⟨?_,kx⟩;have aE:yy dx dB i=.own dB[i] 0:=by simp_all[yy,hY,dx]
  have bz:yy g dB i=.own (g dB[i]).1 (g dB[i]).2:=by simp_all[yy,hY]
  rw[aE]at this;rw[bz];obtain⟨aW,aM,aT⟩:=h dB[i];refine⟨⟨aM,this.1.2⟩,λaD hc=>?_⟩;obtain⟨bG,c2,c3,c4⟩:=(aT aD).2.1 hc;rw[c2,c3];exact this.2 aW.symm bG
 | hM b=>
  obtain⟨aW,aM,aT⟩:=h b;refine⟨⟨aM,af.1.2⟩,λaD hc=>?_⟩;obtain⟨bG,c2⟩:=(aT aD).1 hc;rw[c2];exact af.2 aW.symm bG
 | kM b=>
  obtain⟨aW,aM,aT⟩:=h b;refine⟨⟨aM,af.1.2⟩,λaD hc=>?_⟩;obtain⟨bG,c2,c3,c4⟩:=(aT aD).2.1 hc;rw[c2,c3,c4];exact af.2 aW.symm bG
 | aS aI=>trivial
 | il=>exact af
variable {R:Type}
theorem Dr(t:cg)(z:t.cons R):(t.av g z).2=(t.av dx z).2:=by cases t<;>rfl
theorem Z5:∀ (ts:List cg) {R:Type} (z:sR ts R),(rP g ts z).2=(rP dx ts z).2
 | [],_,_=>rfl
 | t::ts,_,z=>by simp  [rP];rw[Dr   t z];exact Z5 ts _
theorem Rz(t:cc)(z:t.cons R):(t.body g z).2=(t.body dx z).2:=by
 cases t with
 | cells t l=>exact Z5 l z
 | h6 e t=>exact Dr t z.2
 | _=>rfl
theorem Ls:∀ (ts:List (Nat×cg)) {R:Type} (z:q7 ts R),(eV g ts z).2=(eV dx ts z).2
 | [],_,_=>rfl
 | p::ts,_,z=>by simp  [eV];rw[Dr   p.2 z];exact Ls ts _
theorem rV.cV(h:rV H H' kap bT g):∀ (ts:List cg) {R:Type} (z:sR ts R) (i:Nat) {v:Value},bM P H kap F w ((rP dx ts z).1.getD i .undef) v->bM P H' bT F w ((rP g ts z).1.getD i .undef) v
 | [],_,_,i,v,_=>by simp[rP,bM]
 | t::ts,_,z,i,v,af=>by
  simp  [rP]at af ⊢;cases i with
  | zero=>exact h.av t z af
  | succ i=>
   rw[Dr   t z];exact h.cV ts _ i af
theorem rV.b1(h:rV H H' kap bT g):∀ (ts:List (Nat×cg)) {R:Type} (z:q7 ts R) (i:Nat) {v:Value},bM P H kap F w (fv (eV dx ts z).1 i) v->bM P H' bT F w (fv (eV g ts z).1 i) v
 | [],_,_,i,v,_=>by simp[eV,fv,bM]
 | p::ts,_,z,i,v,af=>by
  simp  [eV,fv]at af ⊢;by_cases e:i=p.1
  ·rw[if_pos e]at af ⊢;exact h.av p.2 z af
  ·rw[if_neg e]at af ⊢;rw[Dr   p.2 z];exact h.b1 ts _ i af
theorem RA:∀ (ts:List (Nat×cg)) {R:Type} (z:q7 ts R) (i:Nat) {l aI ab n ad},fv (eV g ts z).1 i=.aS l aI ab n ad->fv (eV dx ts z).1 i=.aS l aI ab n ad
 | [],_,_,i,_,_,_,_,_,h=>by grind [eV]
 | p::ts,_,z,i,l,aI,ab,n,ad,h=>by
  simp  [eV,fv]at h ⊢;by_cases e:i=p.1
  ·rw[if_pos e]at h ⊢;obtain⟨fs,t⟩:=p;cases t<;>first | exact h | cases h
  ·rw[if_neg e]at h ⊢;rw[Dr   p.2 z]at h;exact RA ts _ i h
def A3(x y:b'):Prop:=x.hk=y.hk/\x.gO=y.gO/\x.len=y.len/\x.gP=y.gP/\x.iR=y.iR/\x.qT=y.qT/\∀ k,x.ch k=y.ch k
theorem A3.refl(x:b'):A3 x x:=⟨rfl,rfl,rfl,rfl,rfl,rfl,λ_=>rfl⟩
theorem ap'(t:cc)(z:t.cons R):A3 (t.body g z).1 (t.body dx z).1:=by
 cases t with
 | cells t l=>exact⟨rfl,rfl,rfl,rfl,rfl,rfl,λ_=>rfl⟩
 | h6 e t=>exact⟨rfl,rfl,rfl,rfl,rfl,rfl,λ_=>rfl⟩
 | _=>exact A3.refl _
theorem aqa:∀ (t:V) (x:t.aj) (av:aL),av∈p7 t x->∀ {v:Value},bM P H kap F w av v->bM P H' bT F w av v:=by
  intro t;induction t with
  | dc=>intro x av h;cases h
  | ad t aP=>intro x av h;exact aP x av h
  | ar a b hi gj=>
   intro x av h;rcases List.mem_append.1 h with h | h<;>grind
  | array n e aP=>
   grind [p7]
  | _=>
   intro x av h v af;simp only[p7,aQN]at h;subst h;exact af
theorem rV.body(h:rV H H' kap bT g)(t:cc){R:Type}(z:t.cons R){k:bL}(U:mr P H kap F w k (t.body dx z).1):mr P H' bT F w k (t.body g z).1:=by
 cases t with
 | cells t l=>
  obtain⟨cs,T,E,L,an⟩:=U;exact⟨cs,T,E,L,λi G=>⟨h.cV l z i (an i G).1,(an i G).2⟩⟩
 | gy t=>
  obtain⟨cs,T,E,L,an⟩:=U;refine⟨cs,T,E,L,λi G=>⟨?_,(an i G).2⟩⟩;have:=(an i G).1;unfold hY at this ⊢;rw[amq]at this ⊢;cases ah:(p7 t z.1)[i]? with
  | none=>trivial
  | some av=>
   grind [aqa]
 | bn e=>exact U
 | jz e=>exact U
 | mp k v=>exact U
 | k9 k v=>exact U
 | im t=>exact U
 | cG k v=>exact U
 | bR e=>exact U
 | h6 e t=>
  obtain⟨aW,cs,T,E,L,an,a6,bS,ek,iQ,k6⟩:=U;exact⟨aW,cs,T,E,L,an,a6,bS,ek,h.av t z.2 iQ,k6⟩
theorem RB{l:List (Nat×cc)}{x y:pv l}(h:x=y)(g:Nat->z21')(b:Nat):eP (gV g l x) b=eP (gV g l y) b:=by rw[h]
theorem Z6:∀ (l:List (Nat×cc)) (x:pv l) (b:Nat),A3 (eP (gV g l x) b).body (eP (gV dx l x) b).body
 | [],_,_=>A3.refl _
 | p::l,x,b=>by
  simp  [gV,eP];split
  ·grind [ap']
  ·rw[Rz   p.2 x];exact Z6 l _ b
theorem Z7:∀ (l:List (Nat×cc)) (x:pv l) (b:Nat) {e:V} {m:List (Nat×List e.aj)},(eP (gV g l x) b).body=.bR e m->(eP (gV dx l x) b).body=.bR e m
 | [],_,_,_,_,h=>by cases h
 | p::l,x,b,e,m,h=>by
  simp  [gV,eP]at h ⊢;by_cases k:b=p.1
  ·rw[if_pos k]at h ⊢;obtain⟨fs,t⟩:=p;cases t<;>first | exact h | cases h
  ·rw[if_neg k]at h ⊢;rw[Rz   p.2 x]at h;exact Z7 l _ b h
theorem rV.bF(h:rV H H' kap bT g):∀ (l:List (Nat×cc)) (x:pv l) (b:Nat) {k:bL},mr P H kap F w k (eP (gV dx l x) b).body->mr P H' bT F w k (eP (gV g l x) b).body
 | [],_,_,k,_=>trivial
 | p::l,x,b,k,U=>by
  simp  [gV,eP]at U ⊢;split
  ·rename_i e;rw[if_pos e]at U;exact h.body p.2 x U
  ·rename_i e;rw[if_neg e]at U;rw[Rz   p.2 x];exact h.bF l _ b U
theorem RC:∀ (l:List (Nat×b')) (b:Nat),(eP l b).gen=0
 | [],_=>rfl
 | p::l,b=>by
  simp  [eP];split
  ·rfl
  ·exact RC l b
end
end Go.Fer
namespace Go.Fer
open Go.RowKit
theorem Lt{ag:Type}{k:ag->Nat}:∀ {l:List ag},(l.map k).Nodup->∀ {p:ag},p∈l->l.find? (λq=>k q == k p)=some p
 | [],_,_,h=>by grind
 | a::l,aC,p,h=>by
  simp  at aC;by_cases e:k a=k p
  ·grind
  ·rw[List.find?_cons_of_neg (by grind)];rcases List.mem_cons.1 h with rfl | h
   ·omega
   ·exact Lt aC.2 h
theorem GO{ag:Type}{k:ag->Nat}{l:List ag}(aC:(l.map k).Nodup){p q:ag}(ai:p∈l)(bB:q∈l)(e:k p=k q):p=q:=by
 have E:=Lt aC ai;simp_all[Lt]
theorem Z8:∀ {l:z8'},(l.map (·.1)).Nodup->∀ {p},p∈l->gJ l p.1=p.2
 | [],_,_,h=>by grind
 | a::l,aC,p,h=>by
  simp  at aC;simp  [gJ];by_cases e:p.1=a.1
  ·grind
  ·rw[if_neg e];rcases List.mem_cons.1 h with rfl | h
   ·omega
   ·exact Z8 aC.2 h
theorem Z9:∀ {l:z8'} {b:Nat},b ∉ l.map (·.1)->gJ l b=(sS,0)
 | [],_,_=>rfl
 | a::l,b,h=>by
  simp only[aQb,aQO,not_or]at h;simp  [gJ];rw[if_neg h.1];exact Z9 h.2
theorem Z_(s:aB)(d:Nat)(f:Nat->Nat)(ins:List Nat):∀ (l:List (Nat×cc)) (j:Nat),(sT s d f ins l j).map (·.1)=l.map (·.1)
 | [],_=>rfl
 | p::l,j=>by
  simp  [sT,Z_ s d f ins l (j+1)];grind
theorem Z'(s:aB)(d:Nat)(f:Nat->Nat)(ins:List Nat):∀ (l:List (Nat×cc)) (j:Nat) {p:Nat×(z21')},p∈sT s d f ins l j->
  (p.1∈ins/\p.2.1=f p.1/\∃ t,(p.1,t)∈l/\((p.2.2=(s.aa (f p.1)).gen/\((∀ (g:Nat->z21') (R:Type) (z:t.cons R),(t.body g z).1.gO=false)\/(z'<=p.1/\∃ e,t=.bn e)))\/p.2.2=(s.aa (f p.1)).gen+1))\/
  (p.1 ∉ ins/\p.2.2=(s.aa p.2.1).gen+1/\50000+10*d+j<=p.2.1/\p.2.1<50000+10*d+j+l.length)\/
  (p.2=(cF,(s.aa cF).gen)/\∃ e,(p.1,cc.bR e)∈l)
 | [],_,p,h=>by cases h
 | q::l,j,p,h=>by
  simp only[sT,aQO]at h;rcases h with h | h
  ·by_cases mS:q.2.l3=true
   ·subst h;obtain⟨cU,cO⟩:=q;cases cO<;>first | exact .inr (.inr ⟨rfl,_,aQM⟩) | cases mS
   rw[if_neg mS]at h;by_cases bB:ins.contains q.1=true
   ·rw[if_pos bB]at h;subst h;refine .inl ⟨by grind,rfl,q.2,by simp,?_⟩;obtain⟨cU,t⟩:=q;cases t with
    | bn e=>
     grind
    | bR e=>simp
    | _=>first | exact .inr rfl | exact .inl ⟨rfl,.inl λ_ _ _=>rfl⟩
   grind
  ·rcases Z' s d f ins l (j+1) h with⟨E,L,t,an,a6⟩ | ⟨E,L,an,a6⟩ | ⟨E,e,L⟩<;>grind
theorem A4(g:Nat->z21'):∀ (l:List (Nat×cc)) (x:pv l) (b:Nat),(eP (gV g l x) b=⟨0,.ev⟩/\b ∉ l.map (·.1))\/∃ q∈l,q.1=b/\∃ (R:Type) (z:q.2.cons R),eP (gV g l x) b=⟨0,(q.2.body g z).1⟩
 | [],_,_=>.inl ⟨rfl,by simp⟩
 | p::l,x,b=>by
  simp  [gV,eP];by_cases e:b=p.1
  ·grind
  ·rcases A4 g l (p.2.body g x).2 b with⟨E,L⟩ | ⟨q,E,L⟩<;>grind
theorem aaa(s:aB)(d:Nat)(f:Nat->Nat)(ins:List Nat):∀ (l:List (Nat×cc)) (j:Nat) {q:Nat×cc},q∈l->q.2.l3=true->cF∈(sT s d f ins l j).map (·.2.1)
 | [],_,_,h,_=>by grind
 | p::l,j,q,h,bB=>by
  simp only[sT,aQb,aQO];rcases List.mem_cons.1 h with rfl | h
  ·grind
  ·exact .inr (aaa s d f ins l (j+1) h bB)
theorem aab(g:Nat->z21'):∀ (l:List (Nat×cc)) (x:pv l) {b:Nat} {e:V},(l.map (·.1)).Nodup->(b,cc.bR e)∈l->∃ m,eP (gV g l x) b=⟨0,.bR e m⟩
 | [],_,_,_,_,h=>by grind
 | p::l,x,b,e,aC,h=>by
  simp only[aQb,List.nodup_cons]at aC;simp  [gV,eP];rcases List.mem_cons.1 h with rfl | h
  ·exact⟨_,if_pos rfl⟩
  ·rw[if_neg λk=>aC.1 (by grind)];exact aab g l _ aC.2 h
theorem aqb{t u:cc}(h:t.KQ u=true){g g':Nat->z21'}{R uv:Type}(z:t.cons R)(oL:u.cons uv) :
  ((t.body g z).1.hk=true->(u.body g' oL).1.hk=true/\∀ k,(u.body g' oL).1.ch k=true)/\((t.body g z).1.iR=true->(u.body g' oL).1.iR=true/\∀ k,(u.body g' oL).1.ch k=true)/\(t.body g z).1.qT=false:=by
 cases t<;>cases u<;>first
  | exact Bool.noConfusion h
  | exact⟨λ_=>⟨rfl,λ_=>rfl⟩,λh=>Bool.noConfusion h,rfl⟩
  | exact⟨λh=>Bool.noConfusion h,λ_=>⟨rfl,λ_=>rfl⟩,rfl⟩
  | exact⟨λh=>Bool.noConfusion h,λh=>Bool.noConfusion h,rfl⟩
theorem yF:∀ (ts:List (Nat×cg)) {R:Type} (g:Nat->z21') (z:q7 ts R) (i:Nat),ts.any (λp=>p.1 == i)=false->fv (eV g ts z).1 i=.undef
 | [],_,_,_,_,_=>rfl
 | p::ts,_,g,z,i,h=>by
  simp only[aQE,aQo,beq_eq_false_iff_ne]at h;simp  [eV,fv];rw[if_neg (Ne.symm h.1)];exact yF ts g _ i h.2
theorem RD{P:Program}{H:Nat->b9}{kap:Nat->bL}{F:Nat->Prop}{w:World}:∀ (g:z10') {us aG:List Value},GN g us aG->∀ (c:Nat->aL) (i:Nat),(∀ j,j<aG.length->bM P H kap F w (c (i+j)) (aG.getD j undef))->
  (sU g c i).length=g.length/\us.length=g.length/\∀ j,j<g.length->bM P H kap F w ((sU g c i).getD j .undef) (us.getD j undef)
 | [],[],aG,_,_,_,_=>⟨rfl,rfl,λj aK=>by grind⟩
 | [],_::_,_,h,_,_,_=>h.elim
 | none::g,[],_,h,_,_,_=>h.elim
 | some n::g,[],_,h,_,_,_=>h.elim
 | none::g,u::us,aG,h,c,i,af=>by
  obtain⟨tM,rfl,h⟩:=h;obtain⟨E,L,an⟩:=RD g h c (i+1) λj aK=>by
   have:=af (j+1) (by grind);rw[show i+(j+1)=i+1+j by omega]at this;simpa using this
  refine⟨by simp[sU,E],by grind,λj aK=>?_⟩;cases j with
  | zero=>simpa [sU]using af 0 (by simp)
  | succ j=>grind [sU]
 | some n::g,u::us,aG,h,c,i,af=>by
  obtain⟨cs,tM,rfl,aC,qd,rfl,h⟩:=h;obtain⟨E,L,an⟩:=RD g h c (i+n) λj aK=>by
   have:=af (n+j) (by grind);rw[show i+(n+j)=i+n+j by omega]at this;have e:(cs.toList++tM).getD (n+j) undef=tM.getD j undef:=by
    grind
   rw[e]at this;omega
  refine⟨by simp[sU,E],by grind,λj aK=>?_⟩;cases j with
  | zero=>
   refine⟨cs.toList,by simp,by omega,λj aK=>?_⟩;grind
  | succ j=>grind [sU]
theorem aqc{P:Program}{H:Nat->b9}{kap:Nat->bL}{F:Nat->Prop}{w:World}{g:z10'}{v:Value}{aG:List Value}(h:Lr g v aG){c:Nat->aL}(af:∀ j,bM P H kap F w (c j) (aG.getD j undef)) :
  bM P H kap F w (Q9 (sU g c 0)) v:=by
 obtain⟨us,E,L,an⟩:=h;obtain⟨aM,_,b5⟩:=RD g an c 0 (λj _=>by simpa using af j);subst L;generalize sU g c 0=l at aM b5;unfold Q9;split
 ·grind
 ·have eM:us.length≠1:=λe=>by
   have:l.length=1:=by omega
   match l,this with
   | [x],_=>grind
  rw[if_neg eM];refine⟨us,rfl,by omega,λi G=>?_⟩;grind [hY]
section
variable {C:cH} {s:aB} {a:Act} {w:World} {kap:Nat->bL} {F:Nat->Prop}
theorem bu.args(D:bu C s a w kap F){cV:List aL}{us:List Value}(aC:us.length<=fz)(ah:cV.length=us.length)(af:∀ i,i<us.length->bM C.P s.aa kap F w (cV.getD i .undef) (us.getD i undef)) :
    bu { C with bZ:=us.length,dj:=[],r:=none } (vu s cV) { tmps:=us.toArray,defers:=[] } w kap F:=
  { D with
    dX:=by simp,dj:=rfl,hB:=aC
    b1:=λi=>by
      show bM C.P s.aa kap F w (if i=cd then s.aA cd else if i<cV.length then cV.getD i .undef else .undef) (us.toArray.getD i undef);split
      · have E:=D.b1 cd
        have L:a.tmps.getD cd undef=undef:=by
          have:=D.dX;have:=D.hB;grind [cd,fz]
        grind [cd,fz]
      · split
        · simp_all
        · trivial
    bF:=D.bF
    e7:=λl aI ab n ad e=>D.e7 l aI ab n ad (by grind [vu])
    bR:=wX.b1 (C:={ C with bZ:=us.length,dj:=[],r:=none }) (s:=s) D.bR rfl λl aI ab n ad e=>by grind [vu] }
def vy(C:cH)(w:World)(F':Nat->Prop)(n:Nat)(own Y:Nat->Prop)(j':(Nat->Option Nat)×(Nat->Option (bL×Nat))):cH:=
 { C with ep:=w,jA:=F',K0:=λr=>r<w.heap.size/\¬own r/\¬Y r,bZ:=n,dj:=[],r:=none,j':=j'.1,PD:=j'.2 }
structure GP(C:cH)(s:aB)(w:World)(kap:Nat->bL)(F:Nat->Prop)(sl:aL)(Y:Nat->Prop):Prop where
 e7:∀ l aI ab n ad,sl=.aS l aI ab n ad->(∃ I,C.cI=⟨l,aI,ab,I⟩)/\C.cI.jZ C.P/\C.cI.at aI n ad F Y w
 low:∀ r,Y r->r<w.heap.size/\¬F r/\¬C.K0 r
 own:∀ b,(s.aa b).body.ch (kap b)=true->¬Y (kap b).aa
 Lu:sl=.undef->∀ r,¬Y r
 bR:∀ r,la s.aa r->¬Y r
theorem bu.aqd(D:bu C s a w kap F){sl:aL}(h:∀ l aI ab n ad,sl=.aS l aI ab n ad->s.aA cd=.aS l aI ab n ad):∃ Y,GP C s w kap F sl Y:=by
 by_cases az:∃ l aI ab n ad,sl=.aS l aI ab n ad
 ·obtain⟨l,aI,ab,n,ad,e⟩:=az;obtain⟨E,L,Y,an,a6,bS⟩:=D.e7 l aI ab n ad (h _ _ _ _ _ e);refine⟨Y,⟨λet mX gb kt lp aZ=>?_,an,a6,λaZ=>?_,λr ai=>((D.bR.nZ ai).1 _ _ _ _ _ (h _ _ _ _ _ e)).elim⟩⟩<;>grind
 ·exact⟨λ_=>False,⟨λl aI ab n ad e=>(az ⟨l,aI,ab,n,ad,e⟩).elim,λ_ h=>h.elim,λ_ _ h=>h,λ_ _ h=>h,λ_ _ h=>h⟩⟩
theorem aqe{C1:cH}{s1:aB}{cr:Act}{F':Nat->Prop}{b_:List Nat}{f:Nat->Nat}{sh:eC}{A:sh.aj}{Y:Nat->Prop}{ids:List Nat}(jS:C1.P=C.P)(vf:C1.aX=C.aX)(xl:C1.dj=[])
  (gn:bu C1 (s1.cD b_) cr w kap F') (ax:Lm C1 s1 cr w kap f F' sh A b_) (jk:GP C (s1.cD b_) w kap F' ((sh.ad A).aA cd) Y)
  (ay:∀ b bj,b∈sh.rQ->bj∈sh.rQ->f b=f bj->b=bj) (hid:∀ b∈ids,fz<=b) (apl:f cF=cF) :
  bu (vy C w F' C1.bZ (λr=>(∃ b,((sh.ad A).aa b).body.ch (kap (f b))=true/\(kap (f b)).aa=r)\/la (sh.ad A).aa r) Y (λb=>if b∈ids then some (kap (f b)).aa else none,λb=>if b∈ids/\z'<=b then some (kap (f b),((sh.ad A).aa b).body.len) else none)) (sh.ad A) cr w (λb=>kap (f b)) F' where
 dX:=gn.dX
 dj:=gn.dj.trans xl
 b1:=λi=>by have:=ax.b1 i;rw[jS]at this;exact this
 bF:=λb=>by have:=ax.bF b;rw[jS]at this;exact this
 own:=λb U=>by
  have E:=gn.own (f b) (ax.xk U);exact⟨E.1,E.2.1,λh=>h.2.1 (.inl ⟨b,U,rfl⟩)⟩
 inj:=λb bj U ef e=>ay b bj (ax.ch b U).2.2 (ax.ch bj ef).2.2 (gn.inj _ _ (ax.xk U) (ax.xk ef) e)
 ds:=gn.ds
 hN:=λr D=>.inl D
 iq:=λr D=>D
 ir:=λr D=>D.1
 e5:=λ_ _=>rfl
 size:=amn _
 eN:=dL.refl _
 hB:=gn.hB
 lb:=λb r h=>by
  grind [vy]
 iS:=λb r h _=>by
  grind [vy]
 ld:=λb k h=>by
  grind [vy]
 jB:=λb k h _ _=>by
  grind [vy]
 e7:=λl aI ab n ad e=>by
  obtain⟨E,L,an⟩:=jk.e7 l aI ab n ad e;exact⟨E,L,Y,λr D=>⟨(jk.low r D).1,(jk.low r D).2.1,λh=>h.2.2 D⟩,λb U=>jk.own _ (ax.xk U),an⟩
 bR:=λe m hm=>by
  rcases ax.bR cF e m hm with k | rfl
  ·have k':((s1.cD b_).aa cF).body=.bR e m:=by
    grind [aB.cD,fK]
   obtain⟨fs,fQ⟩:=gn.bR e m k';refine⟨fs,λid xs al=>?_⟩;obtain⟨nt,cU,cO,hO,lE,cv⟩:=fQ id xs al;refine⟨λl aI ab n ad aH=>nt l aI ab n ad (ax.aS l aI ab n ad aH),cU,cO,λh=>h.2.1 (.inr ⟨e,m,xs,hm,al⟩),λb U=>lE _ (ax.xk U),?_⟩;rw[jS]at cv;exact cv
  simp
 j1:=by have:=gn.j1;rw[jS,vf]at this;exact this
 hX:=by have:=gn.hX;rw[jS]at this;exact this
structure aac(s:aB)(kap:Nat->bL)(j':(Nat->Option Nat)×(Nat->Option (bL×Nat)))(dB:List (Nat×b'))(cu:z8'):Prop where
 eA:(cu.map (·.1)).Nodup
 eG:(cu.map (·.2.1)).Nodup
 ev:sS ∉ cu.map (·.2.1)
 aqf:(s.aa sS).body=.ev
 aad:∀ p∈cu,(p.2.1<fz/\(s.aa p.2.1).gen<p.2.2)\/
  (((eP dB p.1).body.hk=true->(s.aa p.2.1).body.hk=true/\j'.1 p.1=some (kap p.2.1).aa)/\((eP dB p.1).body.iR=true->(s.aa p.2.1).body.iR=true/\j'.1 p.1=some (kap p.2.1).aa)/\(eP dB p.1).body.qT=false/\
   ((p.2.2=(s.aa p.2.1).gen/\((eP dB p.1).body.gO=true->(s.aa p.2.1).body.gO=true/\(eP dB p.1).body.gP=(s.aa p.2.1).body.gP/\j'.2 p.1=some (kap p.2.1,(s.aa p.2.1).body.len)))\/p.2.2=(s.aa p.2.1).gen+1))
theorem aqg{F' own Y:Nat->Prop}{sl:aL}{n:Nat}{j':(Nat->Option Nat)×(Nat->Option (bL×Nat))}{ins:List Nat}{a_:eC}{bl:a_.aj}{aG:List Value}{w':World}{py:Nat->bL}{fR:Nat->Prop}
    (D:bu C s a w kap F') (jk:GP C s w kap F' sl Y) (eJ:∀ r,own r->(∃ b,b∈ins/\(s.aa b).body.ch (kap b)=true/\(kap b).aa=r)\/la s.aa r)
    (iU:bu { vy C w F' n own Y j' with bZ:=aG.length } (a_.ad bl) { tmps:=aG.toArray,defers:=[] } w' py fR)
    {cu:z8'} (fm:aac s kap j' (gV (gJ cu) a_.bF (eV (gJ cu) a_.b1 bl).2) cu)
    (GQ:∀ r,own r->la s.aa r->cF∈cu.map (·.2.1)) (GR:∀ p∈cu,p.2.1=cF->(p.1=cF/\∀ l aI ab n ad,s.aA cd≠.aS l aI ab n ad)\/(eP (gV (gJ cu) a_.bF (eV (gJ cu) a_.b1 bl).2) p.1).body.l3=false)
    (KJ:(s.aa cF).body.l3=true->∀ l aI ab n ad,fv (eV (gJ cu) a_.b1 bl).1 cd≠.aS l aI ab n ad)
    {H':Nat->b9} {kapn:Nat->bL} (A5:∀ p∈cu,H' p.2.1=⟨p.2.2,(eP (gV (gJ cu) a_.bF (eV (gJ cu) a_.b1 bl).2) p.1).body⟩/\kapn p.2.1=py p.1)
    (xe:∀ b,b ∉ cu.map (·.2.1)->kapn b=kap b/\(b∈ins->H' b=⟨(s.aa b).gen+1,.ev⟩)/\(b ∉ ins->H' b=s.aa b))
    {X:aL} (yG:X=fv (eV (gJ cu) a_.b1 bl).1 cd\/X=.undef\/(X=s.aA cd/\sl=.undef)) :
    bu C ⟨λi=>if i=cd then X else s.aA i,H'⟩ a w' kapn fR/\
    ∀ i,bM C.P H' kapn fR w' (fv (eV (gJ cu) a_.b1 bl).1 i) (aG.toArray.getD i undef):=by
  generalize sW:gV (gJ cu) a_.bF (eV (gJ cu) a_.b1 bl).2=dB at fm A5 GR;have vr:∀ b,A3 (eP dB b).body ((a_.ad bl).aa b).body:=λb=>by
    rw[<-sW,RB (Ls a_.b1 bl)];exact Z6 a_.bF (eV dx a_.b1 bl).2 b
  have vz:rV (a_.ad bl).aa H' py kapn (gJ cu):=by
    intro b;refine⟨RC _ b,?_⟩;by_cases U:b∈cu.map (·.1)
    · obtain⟨p,ai,rfl⟩:=List.mem_map.1 U
      rw[Z8 fm.eA ai]
      obtain⟨E,L⟩:=A5 p ai
      rw[E,L]
      obtain⟨aM,aT,b5,hC,q4,xm,_⟩:=vr p.1
      exact⟨amn _,λ_=>⟨λh=>⟨aM ▸ h,rfl⟩,λh=>⟨aT ▸ h,rfl,b5,hC⟩,λh=>⟨q4 ▸ h,rfl⟩,λh=>⟨xm ▸ h,rfl⟩⟩⟩
    · rw[Z9 U]
      obtain⟨_,L,an⟩:=xe sS fm.ev
      have ax:(H' sS).body=.ev:=by
        by_cases G:sS∈ins
        · grind
        · rw[an G];exact fm.aqf
      refine⟨aPR _,λ_=>?_⟩
      rw[ax]
      exact⟨λh=>(by cases h),λh=>(by cases h),λh=>(by cases h),λh=>(by cases h)⟩
  have GS:∀ b,(∃ p∈cu,p.2.1=b)\/b ∉ cu.map (·.2.1):=λb=>by
    grind
  have Lv:∀ p∈cu,∀ r,j'.1 p.1=some r->(eP dB p.1).body.hk=true\/(eP dB p.1).body.iR=true->(py p.1).aa=r:=λp ai r D h=>by
    obtain⟨aM,_,_,_,q4,_⟩:=vr p.1;exact iU.iS p.1 r D (h.imp (λh=>aM ▸ h) (λh=>q4 ▸ h))
  have aLS:∀ p∈cu,∀ k,j'.2 p.1=some k->(eP dB p.1).body.gO=true->py p.1=k.1/\(eP dB p.1).body.len=k.2:=λp ai k ak h=>by
    obtain⟨_,aT,b5,_⟩:=vr p.1;obtain⟨E,L⟩:=iU.jB p.1 k ak (RC _ _) (aT ▸ h);grind
  have ah:fI s.aa kap H' kapn:=by
    intro b;rcases GS b with⟨p,ai,rfl⟩ | U
    · obtain⟨E,L⟩:=A5 p ai
      rw[E,L]
      rcases fm.aad p ai with⟨_,h⟩ | ⟨hc,hm,hit,h⟩
      · exact⟨Nat.le_of_lt h,λe=>(by grind)⟩
      · rcases h with⟨h,ga⟩ | h
        · refine⟨aRc h.symm,λ_=>⟨λh=>⟨(hc h).1,Lv p ai _ (hc h).2 (.inl h)⟩,λh=>?_,λh=>⟨(hm h).1,Lv p ai _ (hm h).2 (.inr h)⟩,λh=>?_⟩⟩<;>grind
        · exact⟨by grind,λe=>(by grind)⟩
    · obtain⟨E,L,an⟩:=xe b U
      rw[E]
      by_cases G:b∈ins
      · rw[L G]
        exact⟨Nat.le_succ _,λe=>(by grind)⟩
      · rw[an G];exact tQ.refl _ _
  have Ds:=iU.size;have bp:=iU.iq;have kC:∀ r,r<w.heap.size->¬own r->¬Y r->w'.heap[r]?=w.heap[r]?:=λr E L an=>iU.e5 r ⟨E,L,an⟩;have yH:=λr h=>aPG (D.ir r h) D.size;have RE:∀ r,own r->¬C.K0 r/\¬F' r:=λr h=>by
    rcases eJ r h with⟨b,_,E,rfl⟩ | ai
    · exact⟨(D.own b E).2.2,(D.own b E).2.1⟩
    · exact⟨(D.bR.nZ ai).2.2.2.1,(D.bR.nZ ai).2.2.1⟩
  have RF:∀ r,¬(r<w.heap.size/\¬own r/\¬Y r)->¬C.K0 r:=λr h ak=>h ⟨yH r ak,λau=>(RE r au).1 ak,λba=>(jk.low r ba).2.2 ak⟩;have rW:di F' w w':=⟨Ds,λr h=>kC r (D.ds r h) (λau=>(RE r au).2 h) λba=>(jk.low r ba).2.1 h⟩
  have xc:∀ r,fR r->F' r\/¬(r<w.heap.size/\¬own r/\¬Y r):=iU.hN;have rU:∀ b,b ∉ ins->(s.aa b).body.ch (kap b)=true->(kap b).aa<w.heap.size/\¬own (kap b).aa/\¬Y (kap b).aa:=λb U au=>by
    refine⟨(D.own b au).1,λh=>?_,jk.own b au⟩;rcases eJ _ h with⟨bj,E,L,an⟩ | ai
    · exact U (D.inj bj b L au an ▸ E)
    · exact (D.bR.nZ ai).2.2.2.2 b au rfl
  have yh:∀ b,(H' b).body.ch (kapn b)=true->(∃ p∈cu,p.2.1=b/\((a_.ad bl).aa p.1).body.ch (py p.1)=true/\kapn b=py p.1)\/(b ∉ cu.map (·.2.1)/\b ∉ ins/\kapn b=kap b/\(s.aa b).body.ch (kap b)=true):=λb U=>by
    rcases GS b with⟨p,ai,rfl⟩ | aC
    · obtain⟨E,L⟩:=A5 p ai
      rw[E,L]at U
      exact .inl ⟨p,ai,rfl,by rw[<-(vr p.1).2.2.2.2.2.2];omega,L⟩
    · obtain⟨E,L,an⟩:=xe b aC
      by_cases G:b∈ins
      · rw[L G]at U;cases U
      grind
  have fD:∀ i,bM C.P H' kapn fR w' (fv (eV (gJ cu) a_.b1 bl).1 i) (aG.toArray.getD i undef):=λi=>vz.b1 a_.b1 bl i (iU.b1 i);refine⟨{ dX := D.dX, dj := D.dj, b1 := λi => ?_, bF := λb => ?_, own := λb U => ?_, inj := λb bj U ef e => ?_, ds := iU.ds, hN := λr h => ?_, iq := λr h => bp r (D.iq r h), ir := D.ir, e5 := λr h => ?_,size:=aPL D.size Ds,eN:=D.eN.trans iU.eN,hB:=D.hB,lb:=D.lb,iS:=λb r h hc=>?_,ld:=D.ld,jB:=λb k h aW aY=>?_,e7:=λl aI ab m ad e=>?_,bR:=λe m hm=>?_,j1:=D.j1,hX:=iU.hX },fD⟩
  · show bM C.P H' kapn fR w' (if i=cd then X else s.aA i) _
    split
    · rename_i e
      subst e
      have hu:a.tmps.getD cd undef=undef:=by
        have:=D.dX;have:=D.hB;rw[aPI,Array.getElem?_eq_none (by unfold cd fz at *;omega)];rfl
      rcases yG with rfl | rfl | ⟨rfl,_⟩
      · have GU:aG.toArray.getD cd undef=undef:=by
          have:aG.length<=fz:=iU.hB;rw[aPI,Array.getElem?_eq_none (by simp;unfold cd fz at *;omega)];rfl
        grind
      · trivial
      · exact bM.later ah bp rW (D.b1 cd)
    · exact bM.later ah bp rW (D.b1 i)
  · show mr C.P H' kapn fR w' (kapn b) (H' b).body
    rcases GS b with⟨p,ai,rfl⟩ | aC
    · obtain⟨E,L⟩:=A5 p ai
      rw[E,L,<-sW,RB (Ls a_.b1 bl)]
      exact vz.bF a_.bF (eV dx a_.b1 bl).2 p.1 (iU.bF p.1)
    · obtain⟨E,L,an⟩:=xe b aC
      by_cases G:b∈ins
      · rw[L G];trivial
      · have:=c6.k_     (D.bF b) ah bp rW (by grind) E λau=>kC _ (rU b G au).1 (rU b G au).2.1 (rU b G au).2.2
        exact this
  · rcases yh b U with⟨p,ai,_,E,L⟩ | ⟨_,E,L,an⟩
    · have:=iU.own p.1 E
      rw[L]
      exact⟨this.1,this.2.1,RF _ this.2.2⟩
    · have a6:=D.own b an
      grind
  · rcases yh b U with⟨p,ai,rfl,E,L⟩ | ⟨_,E,L,an⟩<;>rcases yh bj ef with⟨p',Ak,rfl,CZ,t'⟩ | ⟨_,CZ,t',aae⟩
    · rw[L,t']at e
      have:=iU.inj _ _ E CZ e
      rw[GO fm.eA ai Ak this]
    · rw[L,t']at e
      exact ((iU.own p.1 E).2.2 (e ▸ rU bj CZ aae)).elim
    · rw[L,t']at e
      exact ((iU.own p'.1 CZ).2.2 (e ▸ rU b E an)).elim
    · rw[L,t']at e
      exact D.inj b bj an aae e
  · rcases xc r h with h | h
    · exact D.hN r h
    grind
  · exact (kC r (yH r h) (λau=>(RE r au).1 h) λba=>(jk.low r ba).2.2 h).trans (D.e5 r h)
  · have aH:=D.lb b r h
    rcases GS b with⟨p,ai,rfl⟩ | aC
    · obtain⟨E,L⟩:=A5 p ai
      simp  [E]at hc
      rcases fm.aad p ai with⟨an,_⟩ | ⟨aM,aT,_⟩
      · omega
      · rw[L]
        rcases hc with hc | hc
        · rw[Lv p ai _ (aM hc).2 (.inl hc)]
          exact D.iS _ r h (.inl (aM hc).1)
        · rw[Lv p ai _ (aT hc).2 (.inr hc)]
          exact D.iS _ r h (.inr (aT hc).1)
    · obtain⟨E,L,an⟩:=xe b aC
      by_cases G:b∈ins
      · simp  [L G]at hc
        rcases hc with hc | hc<;>cases hc
      · simp  [an G]at hc
        rw[E]
        exact D.iS b r h hc
  · have aW:(H' b).gen=0:=aW
    obtain⟨dt,ei⟩:=ah b
    obtain⟨cr,b4,eh,_⟩:=(ei (by omega)).2.1 aY
    obtain⟨aM,aT⟩:=D.jB b k h (by omega) cr
    grind
  · rcases yG with rfl | rfl | ⟨rfl,aqh⟩
    · obtain⟨E,L,jg,an,a6,bS⟩:=iU.e7 l aI ab m ad (RA a_.b1 bl cd e)
      refine⟨E,L,jg,λr bk=>⟨(an r bk).1,(an r bk).2.1,RF r (an r bk).2.2⟩,λb U ba=>?_,bS⟩
      rcases yh b U with⟨p,ai,rfl,aM,aT⟩ | ⟨_,aM,aT,b5⟩
      · grind
      · rw[aT]at ba;exact (an _ ba).2.2 (rU b aM b5)
    · grind
    · obtain⟨E,L,jg,an,a6,bS⟩:=D.e7 l aI ab m ad e
      have aaf:∀ r,jg r->r<w.heap.size/\¬own r/\¬Y r:=λr ba=>⟨(an r ba).1,λau=>by
        rcases eJ r au with⟨b,_,aM,rfl⟩ | ai
        · exact a6 b aM ba
        · exact (D.bR.nZ ai).1 _ _ _ _ _ e,jk.Lu aqh r⟩
      have FG:=λr ay ba=>(xc r ay).elim (an r ba).2.1 λh=>h (aaf r ba)
      refine⟨E,L,jg,λr ba=>⟨aPG (an r ba).1 Ds,λay=>FG r ay ba,(an r ba).2.2⟩,λb U ba=>?_,L.JZ bS bp (λr ay=>?_) Ds iU.eN iU.ds FG⟩
      · rcases yh b U with⟨p,ai,rfl,aM,aT⟩ | ⟨_,aM,aT,b5⟩
        · rw[aT]at ba;exact (iU.own _ aM).2.2 (aaf _ ba)
        grind
      · rcases ay with ay | ay
        · exact rW.2 r ay
        grind
  · have rM:(H' cF).body=.bR e m:=hm
    rcases GS cF with⟨p,ai,RG⟩ | aC
    · obtain⟨E,L⟩:=A5 p ai
      rw[RG]at E
      rw[E]at rM
      have rM:(eP dB p.1).body=.bR e m:=rM
      rcases GR p ai RG with⟨C9,aag⟩ | h9
      · have cS:((a_.ad bl).aa p.1).body=.bR e m:=by
          rw[<-sW,RB (Ls a_.b1 bl)]at rM;exact Z7 a_.bF _ p.1 rM
        rw[C9]at cS
        obtain⟨fs,fQ⟩:=iU.bR e m cS
        refine⟨fs,λid xs al=>?_⟩
        obtain⟨nt,cU,cO,hO,lE,cv⟩:=fQ id xs al
        refine⟨λl aI ab n ad aH=>?_,cU,cO,RF _ hO,λb U aZ=>?_,cv⟩
        · have aH:X=.aS l aI ab n ad:=by simpa using aH
          rcases yG with rfl | rfl | ⟨rfl,_⟩
          · exact nt _ _ _ _ _ (RA a_.b1 bl cd aH)
          · cases aH
          · exact aag _ _ _ _ _ aH
        · rcases yh b U with⟨p',Ak,rfl,aM,aT⟩ | ⟨_,aM,aT,b5⟩
          · rw[aT]at aZ;exact lE _ aM aZ
          · rw[aT]at aZ;exact hO (aZ ▸ rU b aM b5)
      · rw[rM]at h9;cases h9
    · obtain⟨E,L,an⟩:=xe cF aC
      by_cases G:cF∈ins
      · grind
      · rw[an G]at rM
        obtain⟨fs,fQ⟩:=D.bR e m rM
        refine⟨fs,λid xs al=>?_⟩
        obtain⟨nt,cU,cO,hO,lE,cv⟩:=fQ id xs al
        have aah:la s.aa id:=⟨e,m,xs,rM,al⟩
        have h9:=λau=>aC (GQ id au aah)
        have RH:=jk.bR id aah
        refine⟨λl aI ab n ad aH=>?_,aPG cU Ds,λay=>(xc _ ay).elim cO λh=>h ⟨cU,h9,RH⟩,hO,λb U aZ=>?_,cv.mono bp rW (kC id cU h9 RH)⟩
        · rcases yG with rfl | rfl | ⟨rfl,_⟩
          · exact KJ (by rw[rM];rfl) _ _ _ _ _ aH
          · grind
          grind
        · rcases yh b U with⟨p',Ak,rfl,aM,aT⟩ | ⟨_,aM,aT,b5⟩
          · rw[aT]at aZ;exact (iU.own _ aM).2.2 (aZ ▸ ⟨cU,h9,RH⟩)
          grind
end
end Go.Fer
namespace Go.Fer
open Go.RowKit
section
variable {C:cH} {T:Nat->V} {o:Oper} {s:aB}
variable {k:FuncId}{c:cK}{a:Act}{w:World}{kap:Nat->bL}{F:Nat->Prop}
theorem cW.fC{P:Program}{aQ:dV}(ay:cW P aQ k c){C:cH}{A:c.cA.aj}(h:bu C (c.cA.ad A) a w kap F)(E:C.P=P)(L:C.ep=w)(an:C.r=none)(a6:C.dj=[])(bS:C.bZ=c.kS)(ek:C.aX=aQ)(az:(c.sh A).e3) :
  Calls P k a.tmps w λe w'=>∃ v bl aG bT F',e=.returned v/\(c.sh A).a_ bl/\Lr c.ln v aG/\bu { C with bZ:=aG.length } (c.a_.ad bl) { tmps:=aG.toArray,defers:=[] } w' bT F':=
 ay.ik C a w kap F A E L an a6 bS ek h az
theorem aai{C:cH}{s:aB}{RI:Nat->aL}{cr:Act}{eA:Nat}{f:Nat->Nat}{A:c.cA.aj}{b_:List Nat}{d m:Nat}{cu:z8'}
    (D:bu C s a w kap F) (gn:bu { C with bZ:=eA,dj:=[],r:=none } ⟨RI,s.aa⟩ cr w kap F) (q_:RI cd=s.aA cd)
    (qk:c.cA.Dh f ⟨RI,s.aa⟩=some (A,b_)) (RJ:sT (s.cD b_) d f c.cA.rQ c.a_.bF 0=cu) (fg:GC c f (s.cD b_) cu d m=true) :
    ∃ (F' own Y:Nat->Prop) (j':(Nat->Option Nat)×(Nat->Option (bL×Nat))),(∀ r,F r->F' r)/\bu C (s.cD b_) a w kap F'/\(∀ r,own r->(∃ b,((s.cD b_).aa b).body.ch (kap b)=true/\(kap b).aa=r)\/la (s.cD b_).aa r)/\GP C (s.cD b_) w kap F' ((c.cA.ad A).aA cd) Y/\(∀ l aI ab n ad,(c.cA.ad A).aA cd=.aS l aI ab n ad->s.aA cd=.aS l aI ab n ad)/\
      bu (vy C w F' eA own Y j') (c.cA.ad A) cr w (λb=>kap (f b)) F'/\
      ∀ RL jC,bu { C with ep:=RL } (s.cD b_) a jC kap F'->GP C (s.cD b_) jC kap F' ((c.cA.ad A).aA cd) Y->∀ (bl:c.a_.aj) (aG:List Value) (w':World) (py:Nat->bL) (fR:Nat->Prop),bu { vy C jC F' eA own Y j' with bZ:=aG.length } (c.a_.ad bl) { tmps:=aG.toArray,defers:=[] } w' py fR->
        ∃ kapn,bu { C with ep:=RL } (AQ (s.cD b_) c f cu bl) a w' kapn fR/\∀ i,bM C.P (AQ (s.cD b_) c f cu bl).aa kapn fR w' (fv (eV (gJ cu) c.a_.b1 bl).1 i) (aG.toArray.getD i undef):=by
  simp only[GC,amm,amp,aPO]at fg;obtain⟨⟨⟨⟨⟨⟨⟨⟨⟨⟨⟨bG,c2⟩,c3⟩,c4⟩,c5⟩,ph⟩,rK⟩,ym⟩,c9⟩,RM⟩,_⟩,GV,c12,aaj⟩:=fg;have c3:(c.cA.bF.map (·.1)).Nodup:=aP4 c3;have c4:(c.cA.bF.map λp=>f p.1).Nodup:=aP4 c4;have c5:(cu.map (·.1)).Nodup:=aP4 c5;have ph:(cu.map (·.2.1)).Nodup:=aP4 ph;have ym:sS ∉ cu.map (·.2.1):=λh=>by
    rw[List.contains_iff_mem.2 h]at ym;cases ym
  have c9:((s.cD b_).aa sS).body=.ev:=by
    split at c9
    · rename_i e;exact e
    · cases c9
  obtain⟨F',f1,gn,ax⟩:=eC.ZZ qk gn;have bk : bu C (s.cD b_) a w kap F' := { gn with
    dX:=D.dX,dj:=D.dj,hB:=D.hB,b1:=λi=>bM.later (YF s b_ kap) f1 (di.refl _ _) (D.b1 i)
    bF:=gn.bF
    e7:=λl aI ab n ad e=>gn.e7 l aI ab n ad (by simpa [aB.cD,q_]using e)
    bR:=wX.b1 (C:={ C with bZ:=eA,dj:=[],r:=none }) gn.bR rfl λl aI ab n ad e=>by simpa [aB.cD,q_]using e }
  obtain⟨Y,jk⟩:=bk.aqd (sl:=(c.cA.ad A).aA cd) λl aI ab n ad e=>by simpa [aB.cD,q_]using ax.aS l aI ab n ad e
  have hid:∀ b∈c.cA.bF.map (·.1),fz<=b:=λb U=>by simpa using List.all_eq_true.1 rK b U
  have GW:∀ b,b∈c.cA.rQ->∃ q∈c.cA.bF,q.1=b/\q.2.Gx=true:=λb U=>by
    obtain⟨q,bB,e⟩:=List.mem_filterMap.1 U;split at e
    · cases e;exact⟨q,bB,rfl,by assumption⟩
    · cases e
  have GX:=aqe (C:=C) (C1:={ C with bZ:=eA,dj:=[],r:=none }) (ids:=c.cA.bF.map (·.1)) rfl rfl rfl gn ax ⟨jk.e7,jk.low,jk.own,jk.Lu,jk.bR⟩ (λb bj U ef e=>by
    obtain⟨q,bB,rfl,_⟩:=GW b U;obtain⟨q',vh,rfl,_⟩:=GW bj ef;rw[GO (k:=λp=>f p.1) c4 bB vh e]) hid c12
  have aak:∀ r,la (c.cA.ad A).aa r->la (s.cD b_).aa r:=λr ⟨e,m,xs,E,L⟩=>by
    rcases ax.bR cF e m E with k | rfl
    · rw[c12]at k
      have k':((s.cD b_).aa cF).body=.bR e m:=by
        simp only[aB.cD];have k:(s.aa cF).body=.bR e m:=k;split
        · simp[fK,k]
        · exact k
      exact⟨e,m,xs,k',L⟩
    · cases L
  refine⟨F',_,Y,_,f1,bk,λr h=>h.imp (λ⟨b,U,e⟩=>⟨f b,ax.xk U,e⟩) (aak r),jk,λl aI ab n ad e=>by simpa [aB.cD,q_]using ax.aS l aI ab n ad e,GX,λRL jC Qs GY bl aG w' py fR iU=>?_⟩;have sW:∀ (b:Nat) (q':Nat×cc),q'∈c.a_.bF->q'.1=b->b∈c.cA.rQ->∀ (R:Type) (z:q'.2.cons R),((q'.2.body (gJ cu) z).1.hk=true->((s.cD b_).aa (f b)).body.hk=true)/\((q'.2.body (gJ cu) z).1.iR=true->((s.cD b_).aa (f b)).body.iR=true)/\(q'.2.body (gJ cu) z).1.qT=false:=by
    intro b q' vh e U R z;obtain⟨q,bB,rfl,RN⟩:=GW b U;have ak:=List.all_eq_true.1 (List.all_eq_true.1 RM q' vh) q bB;rw[e,RN]at ak;simp only[beq_self_eq_true,Bool.and_self,aQm,aQA]at ak;rcases A4 dx c.cA.bF (eV dx c.cA.b1 A).2 q.1 with⟨_,L⟩ | ⟨cO,L,an,uv,oL,a6⟩
    · exact (L (aQs bB)).elim
    · obtain rfl:=GO c3 L bB an
      have a6:(c.cA.ad A).aa cO.1=⟨0,(cO.2.body dx oL).1⟩:=a6
      obtain⟨aM,aT,b5⟩:=aqb ak z oL (g:=gJ cu) (g':=dx)
      have xj:=ax.Dn cO.1
      refine⟨λhc=>?_,λhc=>?_,b5⟩
      · have bS:=ax.ch cO.1 (by rw[a6];exact (aM hc).2 _)
        simp only[aB.cD,if_neg bS.1]
        exact xj.2.1 (by rw[a6];exact (aM hc).1)
      · have bS:=ax.ch cO.1 (by rw[a6];exact (aT hc).2 _)
        simp only[aB.cD,if_neg bS.1]
        exact xj.2.2.2.1 (by rw[a6];exact (aT hc).1)
  have aal:cu.map (·.1)=c.a_.bF.map (·.1):=by rw[<-RJ];exact Z_ ..
  have fm:aac (s.cD b_) kap (λb=>if b∈c.cA.bF.map (·.1) then some (kap (f b)).aa else none,λb=>if b∈c.cA.bF.map (·.1)/\z'<=b then some (kap (f b),((c.cA.ad A).aa b).body.len) else none) (gV (gJ cu) c.a_.bF (eV (gJ cu) c.a_.b1 bl).2) cu:=by
    refine⟨c5,ph,ym,c9,λp ai=>?_⟩;rw[<-RJ]at ai;rcases Z' _ _ _ _ _ _ ai with⟨E,L,t,an,a6⟩ | ⟨_,L,an,a6⟩ | ⟨E,e,L⟩
    · rw[L]
      have ps:p.1∈c.cA.bF.map (·.1):=by
        obtain⟨q,bB,e,_⟩:=GW _ E;exact e ▸ aQs bB
      rcases A4 (gJ cu) c.a_.bF (eV (gJ cu) c.a_.b1 bl).2 p.1 with⟨_,aT⟩ | ⟨q',aM,aT,R,z,b5⟩
      · exact (aT (aQs (f:=(·.1)) an)).elim
      · rw[b5]
        obtain⟨cT,fc,jf⟩:=sW p.1 q' aM aT E R z
        have:q'=(p.1,t):=GO (aal ▸ c5) aM an aT
        subst this
        refine .inr ⟨λh=>⟨cT h,if_pos ps⟩,λh=>⟨fc h,if_pos ps⟩,jf,a6.imp (λa6=>⟨a6.1,λga=>?_⟩) id⟩
        rcases a6.2 with bS | ⟨ak,e,rfl⟩
        · have:=bS (gJ cu) R z
          have ga:(t.body (gJ cu) z).1.gO=true:=ga
          rw[this]at ga;cases ga
        · obtain⟨q,bB,Lp,RN⟩:=GW p.1 E
          have A6:=List.all_eq_true.1 (List.all_eq_true.1 RM _ aM) q bB
          rw[Lp,RN]at A6
          simp only[beq_self_eq_true,Bool.and_self,aQm,aQA]at A6
          rcases A4 dx c.cA.bF (eV dx c.cA.b1 A).2 p.1 with⟨_,t'⟩ | ⟨cO,m2,m3,uv,oL,m4⟩
          · exact (t' (Lp ▸ aQs bB)).elim
          · obtain rfl:=GO c3 m2 bB (m3.trans Lp.symm)
            have m4:(c.cA.ad A).aa p.1=⟨0,(cO.2.body dx oL).1⟩:=m4
            obtain⟨cU,RO⟩:=cO
            have A6:cc.KQ (.bn e) RO=true:=A6
            obtain rfl:RO=.bn e:=by
              cases RO<;>first | (simp only[cc.KQ,amp]at A6;rw[A6]) | cases A6
            have xj:=ax.Dn p.1
            have aqi:((c.cA.ad A).aa p.1).body.gO=true:=by rw[m4];rfl
            obtain⟨cq,c7,fL⟩:=xj.2.2.1 aqi
            have bA:((s.cD b_).aa (f p.1)).body.gO=true/\((s.cD b_).aa (f p.1)).body.len=(s.aa (f p.1)).body.len/\((s.cD b_).aa (f p.1)).body.gP=(s.aa (f p.1)).body.gP:=by
              simp only[aB.cD];split
              · rcases Am s.aa (s.aa (f p.1)) with aZ | ⟨_,_,al,aZ⟩ | ⟨_,_,_,al,_⟩ | ⟨_,_,_,_,al,_,_⟩
                · rw[aZ];exact⟨cq,rfl,rfl⟩
                · rw[aZ,al];exact⟨rfl,rfl,rfl⟩
                · have cq:(s.aa (f p.1)).body.gO=true:=cq
                  rw[al]at cq;cases cq
                · have cq:(s.aa (f p.1)).body.gO=true:=cq
                  rw[al]at cq;cases cq
              · exact⟨cq,rfl,rfl⟩
            have c7:((c.cA.ad A).aa p.1).body.len=(s.aa (f p.1)).body.len:=c7
            have fL:((c.cA.ad A).aa p.1).body.gP=(s.aa (f p.1)).body.gP:=fL
            refine⟨bA.1,?_,?_⟩
            · rw[bA.2.2,<-fL,m4];rfl
            · rw[bA.2.1,<-c7]
              exact if_pos ⟨ps,ak⟩
    · refine .inl ⟨?_,by rw[L];exact aQq _⟩
      unfold fz
      omega
    · have RP:=aab (gJ cu) c.a_.bF (eV (gJ cu) c.a_.b1 bl).2 (aal ▸ c5) L
      refine .inr ?_
      rcases RP with⟨dw,RP⟩
      rw[RP,E]
      exact⟨λh=>(by cases h),λh=>(by cases h),rfl,.inl ⟨rfl,λh=>(by cases h)⟩⟩
  simp only[ZI,amm,aPU,aPO,aPZ,amp]at GV;obtain⟨⟨GV,GZ⟩,aqj⟩:=GV;have aqk:∀ q∈c.a_.bF,q.2.l3=true->cF∈cu.map (·.2.1):=λq bB Dt=>by
    rw[<-RJ];exact aaa _ _ _ _ _ _ bB Dt
  have GQ:∀ r,(∃ b,((c.cA.ad A).aa b).body.ch (kap (f b))=true/\(kap (f b)).aa=r)\/la (c.cA.ad A).aa r->la (s.cD b_).aa r->cF∈cu.map (·.2.1):=λr h ai=>by
    rcases h with⟨b,U,e⟩ | ⟨e,m,xs,E,L⟩
    · exact ((bk.bR.nZ ai).2.2.2.2 (f b) (ax.xk U) e).elim
    · rcases A4 dx c.cA.bF (eV dx c.cA.b1 A).2 cF with⟨k,_⟩ | ⟨q,aM,aT,R,z,b5⟩
      · have k:(c.cA.ad A).aa cF=_:=k
        rw[k]at E;cases E
      · have b5:(c.cA.ad A).aa cF=_:=b5
        rw[b5]at E
        have Dt:q.2.l3=true:=by
          obtain⟨cU,cO⟩:=q;cases cO<;>first | rfl | cases E
        rcases GZ with GZ | GZ
        · have:=List.any_eq_false.1 GZ q aM
          rw[Dt]at this;exact (this rfl).elim
        · obtain⟨q',vh,aql⟩:=List.any_eq_true.1 GZ
          exact aqk q' vh aql
  have GR:∀ p∈cu,p.2.1=cF->(p.1=cF/\∀ l aI ab n ad,(s.cD b_).aA cd≠.aS l aI ab n ad)\/(eP (gV (gJ cu) c.a_.bF (eV (gJ cu) c.a_.b1 bl).2) p.1).body.l3=false:=λp ai RG=>by
    by_cases bB:∃ e,(p.1,cc.bR e)∈c.a_.bF
    · obtain⟨e,bB⟩:=bB
      refine .inl ⟨?_,λl aI ab n ad aH=>?_⟩
      · rcases GV _ (aP' _ bB) with k | k
        · cases k
        · exact k
      · rcases aqj with k | k
        · have:=List.any_eq_false.1 k _ bB
          exact (this rfl).elim
        grind
    · refine .inr ?_
      rcases A4 (gJ cu) c.a_.bF (eV (gJ cu) c.a_.b1 bl).2 p.1 with⟨k,_⟩ | ⟨q',aM,aT,R,z,b5⟩
      · grind
      · rw[b5]
        obtain⟨cU,cO⟩:=q'
        cases cO with
        | bR e=>grind
        | _=>rfl
  have KJ:((s.cD b_).aa cF).body.l3=true->∀ l aI ab n ad,fv (eV (gJ cu) c.a_.b1 bl).1 cd≠.aS l aI ab n ad:=λh l aI ab n ad aH=>by
    rcases (by simpa only [aPU,aPO]using aaj:_\/_) with k | k
    · grind
    grind [yF]
  obtain⟨ql,fD⟩:=aqg   (X:=if c.a_.b1.any (λp=>p.1 == cd) then fv (eV (gJ cu) c.a_.b1 bl).1 cd else if c.cA.b1.any (λp=>p.1 == cd) then .undef else (s.cD b_).aA cd)
    (H':=(AQ (s.cD b_) c f cu bl).aa)
    (kapn:=λb=>match cu.find? (λp=>p.2.1 == b) with
      | some p=>py p.1
      | none=>kap b) Qs ⟨GY.e7,GY.low,GY.own,GY.Lu,GY.bR⟩ (λr h=>h.imp (λ⟨b,U,e⟩=>⟨f b,aQs (ax.ch b U).2.2,ax.xk U,e⟩) (aak r)) iU fm GQ GR KJ
    (λp ai=>by simp  [AQ,Lt   ph ai]) (λb U=>by
      grind [AQ])
    (by
      split
      · simp
      · split
        · simp
        · rename_i L
          exact .inr (.inr ⟨rfl,yF c.cA.b1 dx A cd (Bool.eq_false_iff.2 L)⟩))
  exact⟨_,ql,fD⟩
variable {cI:iD}
theorem RQ(bo:∀ i,o.dst=some i->i<C.bZ)(qc:∀ c,o.op≠.defer c){cV:List aL}{cy:Prop}{n:Nat}(h:AR s o c cV cy n=some cI)
  (af:∀ A a w kap F,bu C s a w kap F->cy->(c.sh A).e3->∃ k,cW C.P C.aX k c/\∃ us:List Value,us.length=n/\cV.length=n/\(∀ i,i<n->bM C.P s.aa kap F w (cV.getD i .undef) (us.getD i undef))/\(execOp a.eval o).run C.P w=.ok (.enter k us.toArray) w)
  (aqm:vp (bh C.aX s.aA) o->cy):q9 C o s cI:=by
 unfold AR at h;split at h
 ·rename_i A b_ qk;split at h
  ·rename_i fg;cases h;refine⟨λa w Q K D bb yI=>?_,λgs px=>(by grind),aqm⟩;obtain⟨kap,F,D⟩:=D;have hlen:n=c.kS/\n<=fz:=by
    grind [GC]
   obtain⟨k,ay,us,nz,GU,A7,du⟩:=af A a w kap F D bb yI.1;have fu:=D.args     (by omega) (by omega) λi G=>A7 i (by omega);obtain⟨F',own,Y,j',_,bk,_,jk,_,GX,RR⟩:=aai D fu rfl qk rfl fg;have uw:=ay.fC GX rfl rfl rfl rfl (by show us.length=_;omega) rfl yI.1;refine yr qc du uw λe w' ⟨v,bl,aG,py,fR,he,gK,ux,iU⟩=>⟨v,he,yI.2 bl gK _ _ ?_⟩
   obtain⟨kapn,ql,fD⟩:=RR C.ep w bk jk bl aG w' py fR iU;exact⟨_,fR,bu.set ql bo (aqc ux λj=>by simp_all)⟩
  grind
 grind
theorem RS(D:bu C s a w kap F){args:List Operand}(bb:kf (args.map (bh C.aX s.aA))){i:Nat}(dR:i<args.length) :
  bM C.P s.aa kap F w ((vv C.aX s args).getD i .undef) ((args.map a.eval).getD i undef):=by
 have E:=tY bb i (by grind);have bz:(vv C.aX s args).getD i .undef=(use (bh C.aX s.aA args[i])).2:=by grind [vv]
 grind [qW,lJ]
variable {dr:Array TypeId}
theorem aqn(bo:∀ i,o.dst=some i->i<C.bZ){k:Nat}{args:Array Operand}(au:o.op=.call { callee:=.value (.func k),args:=args,argTypes:=dr })(ay:cW C.P C.aX k c)
  (h:GD C.aX s o args.toList c=some cI):q9 C o s cI:=by
 obtain⟨args⟩:=args;refine RQ bo (by grind) h (λ_ a w kap F D bb _=>⟨k,ay,args.map a.eval,by simp,by simp[vv],λi G=>RS D bb (by omega),?_⟩) λU=>A2 U λx al=>by grind [Op.operands,Call.operands]
 simp  [execOp,au,resolve,Act.eval,Deferred.ofValue,invoke];have:=ay.enter (args.map a.eval).toArray w;grind
theorem aqo{Psi:Nat->Option gp}(dG:∀ k c,Psi k=some (.eD c)->cW C.P C.aX k c)(bo:∀ i,o.dst=some i->i<C.bZ){t:Nat}{args:Array Operand}(au:o.op=.call { callee:=.value (.tmp t),args:=args,argTypes:=dr })
  (h:K5 C.aX Psi s o t args.toList=some cI):q9 C o s cI:=by
 obtain⟨args⟩:=args;unfold K5 at h;split at h
 ·rename_i cy k n dP hu;have hu:use (bh C.aX s.aA (.tmp t))=(cy,.jh k n dP):=hu;split at h
  ·rename_i c hc;refine RQ bo (by grind) h (λ_ a w kap F D bb _=>?_) λU=>⟨?_,A2 U λx al=>by grind [Op.operands,Call.operands]⟩
   ·have ay:=db D (.tmp t) hu bb.1;obtain⟨aG,rI,jP,aqp⟩:=ay;refine⟨k,dG k c hc,args.map a.eval++aG,by grind,by simp[vv],λi G=>?_,?_⟩
    ·by_cases dR:i<args.length
     ·have:=RS D bb.2 dR;grind [vv]
     ·grind [vv]
    ·have af:=rI;simp  [execOp,au,resolve,af,Deferred.ofValue,invoke];have:=(dG k c hc).enter ((args.map a.eval++aG).toArray) w;grind
   ·have:=U (.tmp t) (by grind [Op.operands,Call.operands]);grind
  grind
 grind
theorem aqq(aU:eg C.P T)(bo:∀ i,o.dst=some i->i<C.bZ){src dst:TypeId}{x:Operand}(au:o.op=.convert src dst x)(h:K6 C.aX T s o src dst x=some cI):q9 C o s cI:=by
 unfold K6 at h;split at h
 ·cases h
 ·rename_i h9;split at h
  ·rename_i pf;obtain⟨aqr,aqs⟩:=pf;split at h
   ·rename_i cy b hu;split at h
    ·rename_i m hm;cases h;refine⟨λa w Q K D bb yI=>?_,λgs px=>(by cases px),λU=>U.use (x:=x) (by rw[au];simp[Op.operands]) hu⟩;obtain⟨kap,F,D⟩:=D;rw[h5]at yI;obtain⟨ah,yI⟩:=yI;obtain⟨al,An⟩:=k7.1 (db D x hu bb);obtain⟨j,aK,iB,_⟩:=(aU.ca aqr (by simp)).KF.sl;have qc:∀ c,o.op≠.defer c:=by grind
     have du:=Lib.run_convert_string_bytes   w src dst j ⟨b.toArray⟩ (aU.ca aqs (by simp)).str aK iB.int;have cN:(ByteArray.mk b.toArray).size=b.length:=by rfl
     have Gp:=Lib.bytesWorld_size w j ⟨b.toArray⟩;have oN:=Lib.bytesWorld_at_old w j ⟨b.toArray⟩;have l9:=Lib.bytesWorld_at_new w j ⟨b.toArray⟩;have q6:dL w (Lib.bytesWorld w j ⟨b.toArray⟩):=by
      unfold Lib.bytesWorld World.freeze;split<;>exact⟨rfl,rfl,rfl⟩
     have vo:(s.aa cF).body=.bR (.int .u8) m\/((s.aa cF).body=.ev/\m=[]):=by
      grind [ZJ,KG]
     have aLT:∀ id,id∈m.map (·.1)->id<w.heap.size:=λid hid=>by
      rcases vo with k | ⟨_,rfl⟩
      ·obtain⟨⟨fs,fQ⟩,ai,rfl⟩:=List.mem_map.1 hid;exact ((D.bR _ m k).2 fs fQ ai).2.1
      grind
     have kP:(Lib.bytesCells w j ⟨b.toArray⟩).size=b.length+(grownCap w b.length 0 j - b.length):=by
      grind [Lib.bytesCells]
     have aam:∀ i (h:i<b.length),(Lib.bytesCells w j ⟨b.toArray⟩)[i]?=some (.int .u8 (b[i].toNat)):=λi h=>by
      grind [Lib.bytesCells]
     generalize Lib.bytesCells w j ⟨b.toArray⟩=cs at l9 kP aam;have gn:=by
      refine D.move   (fI.refl _ _) (λ_ h=>h) (λ_ h=>.inl h) (by omega) (λr h _=>oN r h) q6 (λhe b=>c6.k_ (D.bF b) (fI.refl _ _) (λ_ h=>h) he rfl rfl λau=>oN _ (D.own b au).1)
       (λb U=>⟨by have:=(D.own b U).1;omega,(D.own b U).2.1,.inl ⟨b,U,rfl⟩⟩) D.inj (λr h=>by have:=D.ds r h;omega) (λ_ _ h=>⟨rfl,h⟩)
     have c1:=gn.aoR vo   (xs:=de b) (λl aI ab n ad e=>h9 l aI ab n ad e) (by omega) (λh=>by have:=D.ds _ h;omega) (λh=>by have:=D.ir _ h;have:=D.size;omega)
      (λb U e=>by have:=(D.own b U).1;omega) (λh=>by grind) ⟨cs,j,_,_,l9,by grind [de,V.size],.inr (by grind [de,V.size]),λi G=>by
       have d_:i<b.length:=by grind [de]
       refine⟨[.int .u8 (b[i].toNat)],λq bB=>?_,?_⟩
       ·grind [V.size]
       ·have e:(de b)[i]=(b[i].toNat):=by simp[de]
        rw[e];refine⟨rfl,?_⟩;have:=b[i].toNat_lt;have bN:IntKind.u8.min=0:=by decide
        have aE:IntKind.u8.max=255:=by decide
        exact⟨by omega,by omega⟩⟩
     refine h7 qc ?_ (yI.2 w.heap.size (λh=>by grind) _ _ ⟨kap,F,c1.set bo ((ee rfl).2 ⟨rfl,.inr ⟨0,grownCap w b.length 0 j,rfl,grownCap_ge w _ 0 j,?_,λ_=>by simp⟩⟩)⟩)
     ·simp_all[execOp]
     grind [grownCap_le_maxLen,maxLen]
    grind
   grind
  grind
theorem cW.va{P:Program}{aQ:dV}(h:cW P aQ k c){sh:c.cA.aj->M c.a_.aj}(az:∀ A,a8 (c.sh A) (sh A)):cW P aQ k { c with sh:=sh } where
 enter:=h.enter
 ik:=λC a w kap F A aE bz c_ bV ey mq D uf=>by
  obtain⟨aM,aT⟩:=az A uf;exact (h.ik C a w kap F A aE bz c_ bV ey mq D aM).mono λe w' ⟨v,bl,aG,bT,F',E,L,an⟩=>⟨v,bl,aG,bT,F',E,aT bl L,an⟩
theorem aqt{Psi:Nat->Option gp}(bo:∀ i,o.dst=some i->i<C.bZ){t:Nat}{args:Array Operand}(au:o.op=.call { callee:=.value (.tmp t),args:=args,argTypes:=dr })
  (dG:∀ c sh ids,Psi ZK=some (.KZ c sh ids)->∀ k∈ids,cW C.P C.aX k { c with sh:=sh k }) {cI:iD} (h:K7 C.aX Psi s o t args.toList=some cI):q9 C o s cI:=by
 unfold K7 at h;split at h
 ·rename_i n aC;split at h
  ·rename_i c sh ids hc;obtain⟨args⟩:=args;refine RQ bo (by grind) h (λA a w kap F D bb az=>?_) λU=>A2 U λx al=>by grind [Op.operands,Call.operands]
   obtain⟨⟨k,ak,rfl⟩,_⟩:=az;have ay:=(dG c sh ids hc k ak).va (sh:=(ZL c sh ids (some k)).sh) λA h=>⟨h.2,λy ba=>ba⟩
   refine⟨k,ay,args.map a.eval,by simp,by simp[vv],λi G=>RS D bb (by omega),?_⟩;have ak:a.eval (.tmp t)=.func (.func k) #[] #[]:=?_
   ·simp  [execOp,au,resolve,ak,Deferred.ofValue,invoke];have:=ay.enter (args.map a.eval).toArray w;grind
   have af:=D.b1 t;rw[aC]at af;obtain⟨_,af⟩:=(ee rfl).1 af;exact (aPQ af).1
  grind
 grind
end
end Go.Fer
namespace Go.Fer
open Go.RowKit
section
variable {C:cH} {o:Oper} {s:aB}
theorem bu.round{s:aB}{a:Act}{w w':World}{kap:Nat->bL}{F' fR Y Lw:Nat->Prop}{l:Nat}{aI:V}{ab:List aI.aj->Prop}{I}{eG:List aI.aj}{RT:Bool}(D:bu C s a w kap F')(ra:C.cI=⟨l,aI,ab,I⟩)(b6:C.cI.jZ C.P)
    (ba:∀ r,Y r->r<w.heap.size/\¬F' r/\¬C.K0 r) (RU:∀ b,(s.aa b).body.ch (kap b)=true->¬Y (kap b).aa)
    (dt:∀ r,F' r->fR r) (ei:∀ r,fR r->F' r\/Y r\/w.heap.size<=r) (j2:∀ r,fR r->r<w'.heap.size) (g4:∀ r,r<w.heap.size->¬Y r->w'.heap[r]?=w.heap[r]?)
    (q2:∀ r,Lw r->(Y r\/w.heap.size<=r)/\r<w'.heap.size/\¬fR r) (xn:w.heap.size<=w'.heap.size) (g7:dL w w') (g8:I eG RT fR Lw w') (qm:∀ r,¬la s.aa r) :
    bu C ⟨λi=>if i=cd then .aS l aI ab eG RT else s.aA i,s.aa⟩ a w' kap fR:=by
  have rW:di F' w w':=⟨xn,λr h=>g4 r (D.ds r h) λRV=>(ba r RV).2.1 h⟩
  have l9:∀ r,w.heap.size<=r->¬C.K0 r:=λr h ak=>by have:=D.ir r ak;have:=D.size;omega
  refine { dX := D.dX, dj := D.dj, b1 := λi => ?_, bF := λb => c6.k_ (D.bF b) (fI.refl _ _) dt rW rfl rfl λau => g4 _ (D.own b au).1 (RU b au), own := λb U => ?_, inj := D.inj, ds := j2, hN := λr h => ?_,iq:=λr h=>dt r (D.iq r h),ir:=D.ir,e5:=λr h=>?_,size:=aPL D.size xn,eN:=D.eN.trans g7,hB:=D.hB,lb:=D.lb,iS:=D.iS,ld:=D.ld,jB:=D.jB,e7:=λet mX gb kt lp e=>?_,bR:=λe m hm=>⟨(D.bR e m hm).1,λid xs al=>(qm id ⟨e,m,xs,hm,al⟩).elim⟩,j1:=D.j1,hX:=D.hX.mono dt rW }
  · show bM C.P s.aa kap fR w' (if i=cd then .aS l aI ab eG RT else s.aA i) _
    split
    · trivial
    · exact bM.later (fI.refl _ _) dt rW (D.b1 i)
  · have h:=D.own b U
    grind
  · rcases ei r h with h | h | h
    · exact D.hN r h
    · exact .inr (ba r h).2.2
    · exact .inr (l9 r h)
  · exact (g4 r (aPG (D.ir r h) D.size) λk=>(ba r k).2.2 h).trans (D.e5 r h)
  · simp only[if_true]at e
    cases e
    refine⟨⟨I,ra⟩,b6,Lw,λr h=>⟨(q2 r h).2.1,(q2 r h).2.2,?_⟩,λb U h=>?_,?_⟩
    · grind
    · rcases (q2 _ h).1 with h | h
      · grind
      · exact absurd (D.own b U).1 (Nat.not_lt.2 h)
    · rw[ra];exact nY.CF.2 g8
theorem aqu(bo:∀ i,o.dst=some i->i<C.bZ){t:Nat}{args:Array Operand}{dr:Array TypeId}(au:o.op=.call { callee:=.value (.tmp t),args:=args,argTypes:=dr }){cI:iD}
  (h:K8 C.aX s o t args.toList=some cI):q9 C o s cI:=by
 obtain⟨args⟩:=args;unfold K8 at h;split at h
 ·rename_i et l aI ab n ad G0 pr;split at h
  ·rename_i x b_ al;cases h;refine⟨λa w Q K D bb hm=>?_,λgs px=>(by grind),λU=>A2 U λx al=>by rw[au];simp[Op.operands,Call.operands];simp_all⟩;obtain⟨kap,F,D⟩:=D;rw[h5]at hm;obtain⟨⟨rfl,rfl,Lx⟩,hm⟩:=hm;obtain⟨F',f1,bk,f2⟩:=bu.mR (rO _ al) D;have fu:gv C.P aI F' w (args.map a.eval) x:=by
    refine w7 D.bF f1 aI al f2 (by simp) λi G d_=>?_;simp only[aQr];have dR:i<args.length:=by grind
    have E:=tY bb i (by grind);have aE:(args.map (bh C.aX s.aA)).getD i .undef=bh C.aX s.aA args[i]:=by grind
    rw[show (List.map (bh C.aX s.aA) (⟨args⟩:Array Operand).toList)=args.map (bh C.aX s.aA) from rfl,aE]at E;exact qW (lJ D args[i]) E
   have af:a.eval (.tmp t)=.func (.yield et) #[] #[]:=by
    have:=lJ D (.tmp t);have e:bh C.aX s.aA (.tmp t)=.il et:=G0;rw[e]at this;exact this
   obtain⟨⟨I,ra⟩,b6,Y,ba,RU,fk⟩:=bk.e7 et aI ab n false pr;have aqv:nY.jZ C.P ⟨et,aI,ab,I⟩:=ra ▸ b6;rw[ra]at fk;have fk:=nY.CF.1 fk;obtain⟨fn,tmps,assign,body,E,L⟩:=aqv.yield fk bk.ds (λr h=>⟨(ba r h).1,(ba r h).2.1⟩) Lx fu;have du:(execOp a.eval o).run C.P w=.ok (.round et fn tmps assign body) w:=by
    simp only[execOp,au,Sem.run_bind,resolve,af,Deferred.ofValue,Sem.run_pure,Result.andThen_ok,invoke];grind
   refine⟨λ_ _=>trivial,?_⟩;rw[CS (by grind),du,Oper.uponIn_round];refine⟨λaz=>(by cases az),?_⟩;have an:RoundIn (eY C.r) 0 C.P et fn tmps assign body w _:=L;refine an.mono λe w' ⟨b,fR,Lw,he,dt,ei,j2,g4,q2,xn,g7,g8⟩=>?_;subst he;refine hm.2 b trivial _ _ ⟨kap,fR,bu.set ?_ bo (hV.2 rfl)⟩;exact bk.round ra b6 ba RU dt ei j2 g4 q2 xn g7 g8 λr ai=>(bk.bR.nZ ai).1 _ _ _ _ _ pr
  grind
 grind
end
end Go.Fer
namespace Go.Fer
open Go.RowKit
section
variable {C:cH} {T:Nat->V} {br:Nat->Option aO} {s:aB} {res:ez}
theorem aan{ms:Array MapEntry}{j:Nat}(aK:j<ms.size)(hu:∀ i (h:i<ms.size),ms[i].born=ms[j].born->i=j):ms.findIdx? (λe=>(e.born:Int) == (ms[j].born:Int))=some j:=by
 grind [Array.findIdx?_eq_some_iff_getElem]
theorem aqw(ms:Array MapEntry)(e:MapEntry)(f:MapEntry->MapEntry):(ms.push e).modify ms.size f=ms.push (f e):=by
 grind
theorem aqx(ms:Array MapEntry)(j:Nat)(f g:MapEntry->MapEntry):(ms.modify j f).modify j g=ms.modify j λe=>g (f e):=by
 grind
theorem Du{a:Act}{d:Nat}{v:Value}{x:Operand}(h:x≠.tmp d):(a.put (some d) v).eval x=a.eval x:=Act.eval_put λAc e=>by grind
theorem G1{a:Act}{d:Nat}{v:Value}(h:d<a.tmps.size):(a.put (some d) v).eval (.tmp d)=v:=by
 simp[Act.put,Act.eval,h]
theorem aqy(aU:eg C.P T){jO gS nA lN:Oper}{d1 d2:Nat}{ty:TypeId}{m x y:Operand}(E:jO.op=.mapEntry ty m x)(t1:jO.dst=some d1)(L:gS.op=.extract (.tmp d1) 1)(bX:gS.dst=some d2)
  (an:nA.op=.entryStore ty m (.tmp d2) y) (cX:nA.dst=none) (iK:lN.op=.mapUpdate ty m x y) (aao:lN.dst=none) (mY:m≠.tmp d1) (cS:m≠.tmp d2) (A8:y≠.tmp d1) (xo:y≠.tmp d2) (w5:d1<C.bZ) (jj:d2<C.bZ)
  (h:(iv C.aX T br (bh C.aX s.aA) lN).run s.aa=some res) {a:Act} {w:World} {kap:Nat->bL} {F:Nat->Prop} {Q:Exit->Act->World->Prop} {K:Act->World->Prop} (D:bu C s a w kap F) (bb:res.cy) (hc:res.c)
  (kC:∀ a' w',dd C (((s.jE none res).set (some d1) .undef).set (some d2) .undef) a' w'->K a' w') :
  jO.wpIn (eY C.r) 0 C.P a w (λcr cj=>gS.wpIn (eY C.r) 0 C.P cr cj (λb4 dN=>nA.wpIn (eY C.r) 0 C.P b4 dN K Q) Q) Q:=by
 have h:(cP C.aX T br (bh C.aX s.aA) lN).run s.aa=some res:=by simpa only [iv,e1,iK]using h
 have sM:=Qp aU aao (.inl iK) h a w kap F Q D bb hc;have aE:∀ c,jO.op≠.defer c:=by grind
 have bz:∀ c,gS.op≠.defer c:=by grind
 have c_:∀ c,nA.op≠.defer c:=by grind
 have aqz:∀ c,lN.op≠.defer c:=by grind
 simp  [cP,iK,vd]at h;split at h
 ·rename_i k v aH;obtain⟨ny,C4,G,po,ki⟩:=(aU.ca aH (by simp)).mp;obtain⟨inf,oR,i1,i2,i3,i4,i5,i6⟩:=nv ki.nu;split at h
  ·rename_i A9;split at h
   ·rename_i b g w9;simp only[aF.fZ,amj,aF.run_bind,aF.gR,aF.dC]at h;obtain⟨⟨eS,sH⟩,al,⟨sN,lj⟩,ba,h⟩:=h;split at h
    ·rename_i aD;obtain⟨aD,C0⟩:=aD;split at h
     ·rename_i k' iu es U;simp  at h;obtain⟨Y6,rL,rfl⟩:=h;obtain⟨e,rfl⟩:=mO rL;cases e;obtain⟨F',f1,bk,f2⟩:=bu.mR ((pj al).append (pj ba)) D;have hm:bM C.P s.aa kap F w (use (bh C.aX s.aA m)).2 (a.eval m):=db D m rfl bb.1;rw[w9]at hm;have mU:=hm.2 aD.symm (by rw[U];rfl);have w_:=oF D.bF f1 al f2.left (db D x rfl bb.2.1);have sO:(s.cD (sH++lj)).aa b=s.aa b:=by simp  [aB.cD];grind
      have a1:=bk.bF b;unfold c6 at a1;rw[sO,U]at a1;obtain⟨ms,clk,hw,q3⟩:=a1;have gE:=by simpa [yl]using A9
      have fg:=(Gf (em:=false) k 10000 gE.1 (by omega)).1 po w_;have my:=q3.es;obtain⟨f,cU,cO⟩:=Ay       A9 po w_ my.1 (λj e p E L=>(my.2 j e p E L).1);have f':(getObj (kap b).aa).run C.P w=.ok (.map ms clk) w:=by simp[getObj,Sem.run,hw]
      obtain⟨ir,Qq,Qr,Y7⟩:=q3;have uy:d1<a.tmps.size:=by have:=D.dX;omega
      have dv:=(Array.getElem?_eq_some_iff.1 hw).1;have chain:∀ (cj dN:World) (u:Value) (n:Int),(execOp a.eval jO).run C.P w=.ok (.value (.tuple #[u,goInt n])) cj->(Instr.entryStore ty (.map (some (kap b).aa)) (goInt n) (a.eval y)).run C.P cj=.ok () dN->
        (execOp a.eval lN).run C.P w=.ok .skip dN->
        jO.wpIn (eY C.r) 0 C.P a w (λcr cj=>gS.wpIn (eY C.r) 0 C.P cr cj (λb4 dN=>nA.wpIn (eY C.r) 0 C.P b4 dN K Q) Q) Q:=by
       intro cj dN u n cq c7 aqA;have hrel:=sM.2;rw[CS aqz,aqA,Oper.uponIn_skip,aao]at hrel;refine h7 aE cq ?_;rw[t1];have aqB:(a.put (some d1) (.tuple #[u,goInt n])).eval (.tmp d1)=.tuple #[u,goInt n]:=G1 uy;refine h7 (v:=goInt n) (w':=cj) bz (by simp[execOp,L,aqB,Instr.extract]) ?_;rw[bX];have aqC:d2<(a.put (some d1) (.tuple #[u,goInt n])).tmps.size:=by have:=D.dX;simp[Act.put];omega
       have aqD:((a.put (some d1) (.tuple #[u,goInt n])).put (some d2) (goInt n)).eval (.tmp d2)=goInt n:=G1 aqC;have RW:((a.put (some d1) (.tuple #[u,goInt n])).put (some d2) (goInt n)).eval m=.map (some (kap b).aa):=by rw[Du cS,Du mY,mU]
       have aqE:((a.put (some d1) (.tuple #[u,goInt n])).put (some d2) (goInt n)).eval y=a.eval y:=by rw[Du xo,Du A8]
       refine FY c_ (w':=dN) (by simp  [execOp,an,aqD,RW,aqE,c7,Sem.run_pure]) ?_;rw[cX];refine kC _ _ ?_;obtain⟨bT,F',hrel⟩:=hrel;exact⟨bT,F',bu.set (bu.set   (av:=.undef) hrel (λi e=>by grind) trivial) (λi e=>by grind) trivial⟩
      rcases cO with⟨rfl,eM⟩ | ⟨j,e,p,dt,ei,j2,g4,rfl⟩
      ·refine chain { w with heap:=w.heap.setIfInBounds (kap b).aa (.map (ms.push { key:=a.eval x,val:=oR,born:=clk }) (clk+1)) } { w with heap:=w.heap.setIfInBounds (kap b).aa (.map (ms.push { key:=a.eval x,val:=a.eval y,born:=clk }) (clk+1)) } oR clk ?_ ?_ ?_
       ·simp  [execOp,E,mU,Instr.mapEntry,en G,f',fg,cU,sJ i1 i4,vm hw]
       ·have RX:(getObj (kap b).aa).run C.P { w with heap:=w.heap.setIfInBounds (kap b).aa (.map (ms.push { key:=a.eval x,val:=oR,born:=clk }) (clk+1)) }=.ok (.map (ms.push { key:=a.eval x,val:=oR,born:=clk }) (clk+1)) { w with heap:=w.heap.setIfInBounds (kap b).aa (.map (ms.push { key:=a.eval x,val:=oR,born:=clk }) (clk+1)) }:=by simp[getObj,Sem.run,dv]
        have RY:(ms.push { key:=a.eval x,val:=oR,born:=clk }).findIdx? (λe=>e.born == (clk:Int))=some ms.size:=by
         have:=aan (ms:=ms.push { key:=a.eval x,val:=oR,born:=clk }) (j:=ms.size) (by simp) λi G he=>by
          grind
         grind
        simp  [Instr.entryStore,RX,goInt,asInt,asIntOf,RY];rw[vm (es:=ms.push { key:=a.eval x,val:=oR,born:=clk }) (clk:=clk+1) (by grind),aqw];simp
       ·simp  [execOp,iK,mU,Instr.mapUpdate,en G,f',fg,cU,vm hw]
      ·have aK:=(List.getElem?_eq_some_iff.1 ei).1;obtain⟨qh,cj,cq,c7,fL⟩:=Qo C.P w e.key (a.eval x);have pq:cj.heap[(kap b).aa]?=some (.map ms clk):=by rcases fL with rfl | rfl<;>exact hw
       have oN:((ms[j]?).map (·.key)).getD (a.eval x)=e.key:=by
        grind
       have aqF:((ms[j]?).map (λx=>(x.born:Int))).getD 0=(ms[j].born):=by grind
       refine chain { cj with heap:=cj.heap.setIfInBounds (kap b).aa (.map (ms.modify j λe=>{ e with key:=qh }) clk) } { cj with heap:=cj.heap.setIfInBounds (kap b).aa (.map (ms.modify j λe=>{ e with key:=qh,val:=a.eval y }) clk) } e.val ms[j].born ?_ ?_ ?_
       ·simp  [execOp,E,mU,Instr.mapEntry,en G,f',fg,cU];rw[oN,cq];simp  [vm pq,aqF]
       ·have RX:(getObj (kap b).aa).run C.P { cj with heap:=cj.heap.setIfInBounds (kap b).aa (.map (ms.modify j λe=>{ e with key:=qh }) clk) }=.ok (.map (ms.modify j λe=>{ e with key:=qh }) clk) { cj with heap:=cj.heap.setIfInBounds (kap b).aa (.map (ms.modify j λe=>{ e with key:=qh }) clk) }:=by grind [getObj,Sem.run]
        have RY:(ms.modify j λe=>{ e with key:=qh }).findIdx? (λe=>e.born == (ms[j].born:Int))=some j:=by
         have:=aan (ms:=ms.modify j λe=>{ e with key:=qh }) (j:=j) (by grind) λi G he=>by
          grind
         grind
        simp  [Instr.entryStore,RX,goInt,asInt,asIntOf,RY];rw[vm (es:=ms.modify j λe=>{ e with key:=qh }) (clk:=clk) (by grind),aqx];simp
       ·simp  [execOp,iK,mU,Instr.mapUpdate,en G,f',fg,cU];rw[oN,cq];simp  [vm pq]
     grind
    grind
   ·cases h
  ·cases h
 ·cases h
end
end Go.Fer
namespace Go.Fer
open Go.RowKit
structure G2(P:Program)(k:FuncId)(c:Di):Prop where
 enter:∀ args w,(callFunc k args).run P w=.ok (.enter k args) w
 ik:∀ (l:Nat) (I:List c.aI.aj->Bool->(Nat->Prop)->(Nat->Prop)->World->Prop) (F Y:Nat->Prop) (w:World) (args:List Value) (x:c.ts.aj),gv P c.ts F w args x->c.pre x->nY.jZ P ⟨l,c.aI,λT=>T=c.seq x,I⟩->
  (∀ r,F r->r<w.heap.size)->pa P F w->(∀ r,Y r->r<w.heap.size/\¬F r)->I [] false F Y w->Calls P k (args++[Value.func (.yield l) #[] #[]]).toArray w λe w'=>
   ∃ v pre ad F' jg,e=.returned v/\(ad=false->pre=c.seq x)/\I pre ad F' jg w'/\(∀ r,F r->F' r)/\(∀ r,F' r->F r\/Y r\/w.heap.size<=r)/\(∀ r,F' r->r<w'.heap.size)/\
    (∀ r,r<w.heap.size->¬Y r->w'.heap[r]?=w.heap[r]?)/\(∀ r,jg r->(Y r\/w.heap.size<=r)/\r<w'.heap.size/\¬F' r)/\w.heap.size<=w'.heap.size/\dL w w'
def gp.jZ(P:Program)(aQ:dV)(k:FuncId):gp->Prop
 | .dJ c=>hA P k c.ts c.aS c.sh/\(c.KX=true->∀ x,(c.sh x).Gy)
 | .eD c=>cW P aQ k c
 | .cG c=>G2 P k c
 | .ZE c=>hA P k c.ts c.aS c.sh/\FF P k c.ts c.aS c.sh
 | .KZ c sh ids=>∀ k∈ids,cW P aQ k { c with sh:=sh k }
 | .mB c=>p_ c.aS=true/\Gd P k c
def pz(P:Program)(aQ:dV)(Psi:Nat->Option gp):Prop:=∀ k c,Psi k=some c->c.jZ P aQ k
section
variable {C:cH} {T:Nat->V} {br:Nat->Option aO} {Psi:Nat->Option gp} {s:aB} {o:Oper} {Q:Exit->Act->World->Prop} {ops:Array Oper}
theorem aqG(dn:lK C.P br)(dG:pz C.P C.aX Psi){k:Nat}{c:jG}(h:Q7 br Psi k=some c):hA C.P k c.ts c.aS c.sh:=by
 unfold Q7 at h;split at h
 ·rename_i gl kx;cases h;have:=dG k _ kx;exact this.1
 ·grind
 ·obtain⟨f,ay,h⟩:=Option.bind_eq_some_iff.1 h;split at h
  ·grind
  ·cases h;exact (dn k f ay).1 (by grind)
variable {P:Program}{w:World}{ty:TypeId}{j:TypeId}
theorem aqH(aK:P.underlying ty=some (.slice j))(q:Option Addr)(n cap d:Nat):(Op.equalIn (d+1) ty (.slice q n cap) (.slice none 0 0)).run P w=.ok q.isNone w:=by
 cases q<;>simp[Op.equalIn,en aK]
theorem aqI(op:BinOp)(t:TypeId)(x y:Operand)(q q':Option Addr)(n kt cap yq:Nat):(eqGuard op t x y (.slice q n cap) (.slice q' kt yq)).run P w=.ok () w:=by
 simp_all[eqGuard]
variable {x:Operand}
theorem aap{y:Operand}(aK:P.underlying ty=some (.slice j))(q:Option Addr)(n cap:Nat) :
  (do eqGuard .eql ty x y (.slice q n cap) (.slice none 0 0);binOp .eql ty (.slice q n cap) (.slice none 0 0):Sem Value).run P w=.ok (.bool q.isNone) w/\(do eqGuard .neq ty x y (.slice q n cap) (.slice none 0 0);binOp .neq ty (.slice q n cap) (.slice none 0 0):Sem Value).run P w=.ok (.bool (!q.isNone)) w:=by
 simp_all[aqH,aqI,binOp,Op.equal,Op.maxDepth]
variable {cI:iD}
theorem aqJ(aU:eg C.P T)(bo:∀ i,o.dst=some i->i<C.bZ){op:BinOp}{mQ:TypeId}{y:Operand}(au:o.op=.binOp op ty x y mQ)(h:GG C.aX T s o op ty x y=some cI):q9 C o s cI:=by
 have qc:∀ c,o.op≠.defer c:=by grind
 unfold GG at h;split at h
 ·rename_i e aH aqK;have dF:=aU.ca aH (by simp);obtain⟨j,aK,_⟩:=dF.sl;split at h
  ·rename_i xs l kg;have key:∀ (a:Act) (w:World) (kap:Nat->bL) (F:Nat->Prop),bu C s a w kap F->(use (bh C.aX s.aA x)).1->∃ b:Bool,(b=true->xs=[])/\(op=.eql->(execOp a.eval o).run C.P w=.ok (.value (.bool b)) w)/\(op=.neq->(execOp a.eval o).run C.P w=.ok (.value (.bool (!b))) w):=by
    intro a w kap F D bb;have al:=F2 D kg (db D x rfl bb);obtain⟨_,q,cap,aE,m1,m2,m3,_⟩:=(ee rfl).1 al;have ba:a.eval y=.slice none 0 0:=by
     have:=lJ D y;rw[aqK]at this;exact this
    refine⟨q.isNone,λbB=>?_,λsM=>?_,λsM=>?_⟩
    ·simp_all
    ·have D:=(aap (w:=w) (x:=x) (y:=y) aK q xs.length cap).1;simp only[execOp,au,Sem.run_bind]at D ⊢;simp_all
    ·have D:=(aap (w:=w) (x:=x) (y:=y) aK q xs.length cap).2;simp only[execOp,au,Sem.run_bind]at D ⊢;simp_all
   split at h
   ·cases h;refine⟨λa w Q K D bb hm=>?_,λgs px=>(by grind),λU=>U x (by grind [Op.operands])⟩;obtain⟨kap,F,D⟩:=D;obtain⟨b,cT,fc,_⟩:=key a w kap F D bb;exact h7 qc (fc rfl) (hm.2 b cT _ _ ⟨kap,F,bu.set D bo (hV.2 rfl)⟩)
   ·cases h;refine⟨λa w Q K D bb hm=>?_,λgs px=>(by grind),λU=>U x (by grind [Op.operands])⟩;obtain⟨kap,F,D⟩:=D;obtain⟨b,cT,_,fc⟩:=key a w kap F D bb;exact h7 qc (fc rfl) (hm.2 b cT _ _ ⟨kap,F,bu.set D bo (hV.2 rfl)⟩)
   grind
  grind
 grind
theorem RZ(aU:eg C.P T)(dn:lK C.P br)(dG:pz C.P C.aX Psi)(bo:∀ i,o.dst=some i->i<C.bZ)(h:um C.aX T br Psi s o=some cI):q9 C o s cI:=by
 unfold um at h;split at h
 ·rename_i c au;obtain⟨callee,args,dr⟩:=c;split at h
  ·rename_i f ay;subst ay;split at h
   ·split at h
    ·rename_i gl kx;exact aqn bo au (dG _ _ kx) h
    ·rename_i gl kx;have an:=dG _ _ kx;exact ap1 bo au an.1 an.2 h
    ·split at h
     ·rename_i dJ R0;exact ap0 bo au (aqG dn dG R0) h
     grind
   ·split at h
    ·grind [ap2]
    ·split at h
     ·rename_i r D;cases h;exact aqt bo au (λc sh ids hc=>dG _ _ hc) D
     ·split at h
      ·rename_i r D;cases h;exact aqo (λk c hc=>dG k _ hc) bo au D
      ·grind [aqu]
   grind
  grind
 ·grind [ap3]
 ·grind [ap7]
 ·grind [ap4]
 ·grind [aqJ]
 ·grind [aqq]
 grind
theorem aaq(want b:Bool):((some b == some want:Bool))=KL want b:=by cases want<;>cases b<;>rfl
variable {j:Nat}{a:Act}{d:Nat}
theorem aar{vA:Oper}(E:ops[j]?=some vA)(L:vA.dst=some d){b:Bool}(h:a.tmps.getD d Go.undef=.bool b):yielded ops a.tmps j=some b:=by
 have:a.tmps[d]?=some (.bool b):=by
  rw[aPI]at h;cases he:a.tmps[d]? with
  | none=>rw[he]at h;cases h
  | some v=>grind
 grind [yielded]
theorem aqL{vA:Oper}(E:ops[j]?=some vA)(L:vA.dst=some d)(h:a.tmps.getD d Go.undef=Go.undef):yielded ops a.tmps j=none:=by
 unfold yielded;rw[E];simp  [L];rw[aPI]at h;cases he:a.tmps[d]? with
 | none=>rfl
 | some v=>rw[he]at h;cases h;rfl
theorem Ly{kap:Nat->bL}{F:Nat->Prop}(D:bu C s a w kap F){g:Option Bool}(h:ma s.aA ops o.guard=some g) :
  Region.wanted o (yielded ops a.tmps)=g.getD true:=by
 unfold Region.wanted;cases aD:o.guard with
 | none=>rw[aD]at h;cases h;rfl
 | some p=>
  rw[aD]at h;simp  [ma]at h ⊢;split at h
  ·rename_i vA aK;split at h
   ·rename_i d ax;have az:=D.b1 d;split at h
    ·rename_i b U;cases h;rw[U]at az;rw[aar aK ax (hV.1 az),aaq];rfl
    ·rename_i g' b U;cases h;rw[U]at az;obtain⟨E,L⟩:=az;cases g' with
     | true=>
      rw[aar aK ax (hV.1 (E rfl)),aaq];simp
     | false=>
      grind [aqL]
    grind
   grind
  grind
theorem aqM{cy c:Prop}{hn vx:aL}{jC AU:List (Nat×b9)}(aD:Lb o hn jC=some (AU,vx))(h:(iv C.aX T br (bh C.aX s.aA) o).run s.aa=some ⟨cy,c,hn,jC⟩) :
    (∀ a w,dd C (s.jE o.dst ⟨cy,c,hn,jC⟩) a w->dd C ((s.iw AU).set o.dst vx) a w)/\(∀ a w kap F,bu C s a w kap F->∃ bT F',bu C (s.iw AU) a w bT F'):=by
  unfold Lb at aD;split at aD
  · cases aD
    exact⟨λa w h=>h,λa w kap F h=>⟨kap,F,h⟩⟩
  · rename_i p et
    split at aD
    · rename_i R1 first dP au
      cases aD
      refine⟨λa w h=>h,λa w kap F D=>?_⟩
      simp  [iv,e1,au,cP]at h
      split at h
      · split at h
        · split at h
          · simp only[aF.fZ,amj,aF.run_bind,aF.dC]at h
            obtain⟨⟨y,l⟩,ba,he⟩:=h
            obtain⟨F',_,bk,_⟩:=bu.mR (rO _ ba) D
            grind [tZ]
          · split at h
            · simp only[aF.fZ,amj,aF.run_bind,aF.dC]at h
              obtain⟨⟨y,l⟩,ba,he⟩:=h
              obtain⟨F',_,bk,_⟩:=bu.mR (rO _ ba) D
              grind [tZ]
            grind [da,aF.dC]
        · split at h
          · grind [da,aF.dC]
          · cases h
      · cases h
    · rename_i ty n bt au
      split at aD
      · rename_i bj g' e xs cm
        split at aD
        · rename_i aqN
          obtain⟨⟨rfl,rfl⟩,_⟩:=aqN
          cases aD
          obtain⟨b,⟨aqO,km⟩⟩:=p
          subst cm
          have l9:o.dst=some b/\aqO=(s.aa b).gen+1:=by
            simp  [iv,e1,au,cP]at h;split at h
            · grind [aF.fZ,Option.bind_eq_some_iff,aF.run_bind,tV]
            · cases h
          obtain⟨bo,rfl⟩:=l9
          refine⟨λa w hrel=>?_,λa w kap F D=>?_⟩
          · obtain⟨kap,F,D⟩:=hrel
            rw[bo]at D ⊢
            simp  [aB.jE]at D
            have al:(ej (.slice e) (.own b ((s.aa b).gen+1))).run ((s.ct b ⟨(s.aa b).gen+1,.bn e xs⟩).set (some b) (.own b ((s.aa b).gen+1))).aa=some (xs,[b]):=by
              simp_all[ej,l4,eK,aB.set,aB.ct,fA,V.fY]
            obtain⟨ui,f1,gn,f2⟩:=bu.mR (pj al) D
            have az:=D.b1 b
            have af:=oF (v:=a.tmps.getD b undef) D.bF f1 al f2 (by grind [aB.set])
            have fD:∀ i,i≠b->((s.ct b ⟨(s.aa b).gen+1,.bn e xs⟩).set (some b) (.own b ((s.aa b).gen+1))).aA i=s.aA i:=λi G=>by simp[aB.set,aB.ct,G]
            have c1:bu C ⟨λi=>if i=b then .val (.slice e) xs else s.aA i,(((s.ct b ⟨(s.aa b).gen+1,.bn e xs⟩).set (some b) (.own b ((s.aa b).gen+1))).cD [b]).aa⟩ a w kap ui:=
              { gn with
                dX:=gn.dX,dj:=gn.dj,bF:=gn.bF
                b1:=λi=>by
                  show bM _ _ _ _ _ (if i=b then .val (.slice e) xs else s.aA i) _;split
                  · rename_i G
                    subst G
                    exact af
                  · rename_i G
                    rw[<-fD i G]
                    exact gn.b1 i
                e7:=λl aI ab n ad aZ=>by
                  have aZ:(if cd=b then aL.val (.slice e) xs else s.aA cd)=.aS l aI ab n ad:=aZ;split at aZ
                  · grind
                  · rename_i G
                    exact gn.e7 l aI ab n ad ((fD cd G).trans aZ)
                bR:=gn.bR.b1 rfl λl aI ab n ad aZ=>by
                  have aZ:(if cd=b then aL.val (.slice e) xs else s.aA cd)=.aS l aI ab n ad:=aZ;split at aZ
                  · grind
                  · rename_i G
                    exact (fD cd G).trans aZ }
            refine⟨kap,ui,c1.va ⟨λi=>.inl ?_,λi=>?_⟩⟩
            · rfl
            grind [aB.set,aB.iw,aB.ct,aB.cD,fK]
          · have aC:=Ru D (b:=b) (e:=e)
            refine⟨_,F,aC.va ⟨λi=>.inl rfl,λi=>?_⟩⟩
            grind [aB.iw,aB.ct]
        grind
      grind
    grind
theorem A_{bet:Type}{b:Bool}{p:Prop}{m:M bet}{O:bet->Prop}(U:b=true->p):c' (yA b p m) O<->p/\c' m O:=by
 cases b with
 | true=>exact⟨λh=>⟨U rfl,h⟩,λh=>h.2⟩
 | false=>exact h5
def sX(ops:Array Oper)(s:aB)(e9:rR):Prop:=∀ p∈e9,∃ b a,s.aA p.1=.ks b a/\ma s.aA ops (some p.2)=some (some b)
theorem aqP:yB ops j d=true<->d∈KM ops (some (j,true)):=by
 have key:∀ (x:Option Oper),(match x with | some o=>(match o.dst with | some e=>e == d | none=>false) | none=>false)=true<->d∈(match x with | some o=>o.dst.toList | none=>[]):=by
  grind
 exact key _
theorem sX.iV{s':aB}{e9:rR}(h:sX ops s e9)(az:∀ i,o.dst≠some i->s'.aA i=s.aA i)
  (ax:∀ d k,o.dst=some d->o.guard=some k->∃ b a,s'.aA d=.ks b a/\ma s.aA ops (some k)=some (some b)):sX ops s' (AS ops e9 o):=by
 unfold AS;cases bo:o.dst with
 | none=>
  intro p ai;obtain⟨b,a,E,L⟩:=h p ai;grind [QJ]
 | some d=>
  have congr:∀ k,yB ops k.1 d=false->ma s'.aA ops (some k)=ma s.aA ops (some k):=λk ak=>QJ λt aH=>az t (by
   have:=aqP.2 aH;grind)
  grind [sX]
section
variable {aQ:dV} {e9:rR} {gk:Option (Nat×Bool)}
theorem G3(aU:sX ops s e9)(aD:∀ k,gk=some k->ma s.aA ops (some k)=some (some true))(h:AT (bh aQ s.aA) e9 gk x=true):(use (bh aQ s.aA x)).1:=by
 unfold AT at h;rw[aPU]at h;rcases h with h | h
 ·grind [KE]
 ·split at h
  ·rename_i t k;obtain⟨p,ai,u'⟩:=List.any_eq_true.1 h;simp  at u';obtain⟨rfl,E,L⟩:=u';have u':=Prod.ext E L;obtain⟨b,a,aM,aT⟩:=aU p ai;rw[u',aD k rfl]at aT;cases aT;have e:bh aQ s.aA (.tmp p.1)=s.aA p.1:=rfl;rw[e,aM];rfl
  grind
theorem aas(aU:sX ops s e9)(aD:∀ k,gk=some k->ma s.aA ops (some k)=some (some true))(h:Q_ (bh aQ s.aA) e9 gk o=true):vp (bh aQ s.aA) o:=
 λx al=>G3 aU aD (List.all_eq_true.1 h x al)
theorem aat(aU:sX ops s e9){c:Operand}{want:Bool}{ve:Prop}{lI:Bool}(hc:use (bh aQ s.aA c)=(ve,.val .bool lI))(G4:ve)(h:Lc ops e9 c x want=true)(hw:KL want lI=true):(use (bh aQ s.aA x)).1:=by
 unfold Lc at h;split at h
 ·obtain⟨p,ai,u'⟩:=List.any_eq_true.1 h;obtain⟨b,a,aM,aT⟩:=aU p ai;grind [bh,yB,ma,use]
 grind
theorem R2(aU:sX ops s e9)(aD:∀ k,gk=some k->ma s.aA ops (some k)=some (some true))(h:GH (bh aQ s.aA) ops e9 gk o=true):(iv aQ T br (bh aQ s.aA) o).er (l_ λr=>r.cy):=by
 cases au:o.op with
 | pick c a b=>
  simp  [GH,au]at h;obtain⟨E,L,an⟩:=h;have bN:iv aQ T br (bh aQ s.aA) o=cP aQ T br (bh aQ s.aA) o:=by grind [iv,e1]
  rw[bN];unfold cP;rw[au];simp only;split
  ·rename_i ve lI pA;have G4:ve:=by grind [G3]
   split
   ·split
    ·refine .da ⟨G4,λaf=>?_⟩;have:(use (bh aQ s.aA a)).1:=by
      rcases L with L | L
      ·grind [G3]
      ·exact aat aU pA G4 L af
     grind
    ·exact .l'
   ·split
    ·refine .da ⟨G4,λaf=>?_⟩;have:(use (bh aQ s.aA b)).1:=by
      rcases an with an | an
      ·grind [G3]
      ·exact aat aU pA G4 an (by subst af;rfl)
     grind
    ·exact .l'
   ·exact .l'
  ·exact .l'
 | _=>
  simp only[GH,au]at h;exact Zt (aas aU aD h)
theorem aqQ(aU:sX ops s e9)(aD:∀ k,gk=some k->ma s.aA ops (some k)=some (some true)){cy c:Prop}{hn vx:aL}{jC AU:List (Nat×b9)}(hw:Lb o hn jC=some (AU,vx))(D:(iv aQ T br (bh aQ s.aA) o).run s.aa=some ⟨cy,c,hn,jC⟩)
  (h:Q' (bh aQ s.aA) e9 gk o vx=true):(use vx).1:=by
 unfold Q' at h;rw[aPU]at h;rcases h with h | h
 ·grind [KE]
 ·split at h
  ·rename_i x au;simp  [iv,e1,au,cP]at D;obtain⟨_,_,rfl,rfl⟩:=D;obtain⟨_,rfl⟩:=hw;grind [G3]
  grind
end
theorem aB.G5{s:aB}{d:Option Nat}{v:aL}{i:Nat}(h:d≠some i):(s.set d v).aA i=s.aA i:=by
 cases d with
 | none=>rfl
 | some d=>grind [aB.set]
theorem aB.R3{s:aB}{v:aL}:(s.set (some d) v).aA d=v:=by simp[aB.set]
theorem aB.Dc:∀ (l:List (Nat×b9)) (s:aB),(s.iw l).aA=s.aA
 | [],_=>rfl
 | p::l,s=>by
  have:=aB.Dc l (s.ct p.1 p.2);exact this
theorem aqR{aQ:dV}{gs:Bool->cI.ag->aB}(h:um aQ T br Psi s o=some cI)(aD:cI.Gz=some gs):∀ g y,∃ v,(gs g y).aA=(s.set o.dst (.ks g v)).aA:=by
 have after:∀ (t:V) (b_:List Nat) (v:aL),(uk s o t b_ v).aA=(s.set o.dst v).aA:=λt b_ v=>by
  unfold uk;split
  ·rfl
  ·cases o.dst<;>rfl
 have dJ:∀ {args:List Operand} {c:jG} {cI:iD} {gs:Bool->cI.ag->aB},GA aQ s o args c=some cI->cI.Gz=some gs->∀ g y,∃ v,(gs g y).aA=(s.set o.dst (.ks g v)).aA:=by
  intro args c cI gs h aD;unfold GA at h;split at h
  ·cases h;cases aD;exact λg y=>⟨_,after _ _ _⟩
  grind
 have KY:∀ {t:Nat} {args:List Operand} {cI:iD} {gs:Bool->cI.ag->aB},GB aQ s o t args=some cI->cI.Gz=some gs->∀ g y,∃ v,(gs g y).aA=(s.set o.dst (.ks g v)).aA:=by
  intro t args cI gs h aD;unfold GB at h;split at h
  ·split at h
   ·cases h;cases aD;exact λg y=>⟨_,after _ _ _⟩
   grind
  grind
 unfold um at h;split at h
 ·split at h
  ·split at h
   ·split at h
    ·grind [GD,AR]
    ·grind [K3]
    ·split at h
     ·exact dJ h aD
     grind
   ·split at h
    ·rename_i D;cases h;exact KY D aD
    ·split at h
     ·rename_i D;unfold K7 GD AR at D;grind
     ·split at h
      ·rename_i D;unfold K5 AR at D;grind
      ·grind [K8]
   grind
  grind
 ·grind [K9]
 ·unfold K' at h;grind
 ·grind [La]
 ·grind [GG]
 ·grind [K6]
 grind
theorem Dv{t:Nat}(h:j3 x=some t):x=.tmp t:=by
 cases x<;>simp[j3]at h;rw[h]
theorem aau{o gS nA lN:Oper}{d1 d2:Nat}(h:Dj o gS nA=some (lN,d1,d2)):∃ ty m x y,o.op=.mapEntry ty m x/\o.dst=some d1/\gS.op=.extract (.tmp d1) 1/\gS.dst=some d2/\nA.op=.entryStore ty m (.tmp d2) y/\nA.dst=none/\
  lN.op=.mapUpdate ty m x y/\lN.dst=none/\m≠.tmp d1/\m≠.tmp d2/\y≠.tmp d1/\y≠.tmp d2/\o.guard=none/\gS.guard=none/\nA.guard=none:=by
 unfold Dj at h;split at h
 ·split at h
  ·split at h
   ·split at h
    ·split at h
     ·rename_i hc;obtain⟨bG,c2,rfl,c4,c5,ph,rK,ym,c9,RM,GV,c12,aaj⟩:=hc;obtain⟨rb,xp⟩:=Option.isSome_iff_exists.1 c4;have hE:=Dv xp;grind [Dv,Option.isNone_iff_eq_none]
     grind
    grind
   grind
  grind
 grind
theorem R4{bet:Type}(aU:eg C.P T)(dn:lK C.P br)(dG:pz C.P C.aX Psi)(ax:∀ o∈ops.toList,mV o C.bZ=true){k:aB->M bet}{O:bet->Prop}
  (ak:∀ s' a' w',dd C s' a' w'->c' (k s') O->Q .normal a' w'):∀ (os:List Oper) (n:Nat) (e9:rR) (s:aB) (a:Act) (w:World),ops.toList.drop n=os->sX ops s e9->dd C s a w->c' (oP C.aX T br Psi ops os e9 s k) O->
   wpOpsIn (eY C.r) 0 C.P ops Q (List.range' n os.length) a w:=by
 intro os;generalize hlen:os.length=len;induction len using Nat.strongRecOn generalizing os with
 | _ len aav=>
 subst hlen;cases os with
 | nil=>
  intro n e9 s a w _ _ D hm;exact ak s a w D hm
 | cons o os=>
  have aP:=aav os.length (by simp) os rfl;intro n e9 s a w aC A' D hm;have dv:n<ops.toList.length:=by
   grind
  rw[aPM dv]at aC;injection aC with w5 jj
  have f':ops[n]?=some o:=by
   grind
  have ps:=w5 ▸ amk dv;have Lz:=ax o ps;have bo:∀ i,o.dst=some i->i<C.bZ:=λi G=>by
   have:=Lz;simp  [mV]at this;grind
  simp  [aRn,wpOpsIn,f'];obtain⟨kap,F,gW⟩:=D;unfold oP at hm;split at hm
  ·rename_i lN d1 d2 sY;cases os with
   | nil=>exact hm.1.elim
   | cons gS os=>
    cases os with
    | nil=>exact hm.1.elim
    | cons nA os=>
     simp  at hm;split at hm
     ·rename_i res gT;obtain⟨ty,m,x,y,f1,f2,f3,f4,f5,f6,f7,f8,f9,f10,f11,f12,dt,ei,j2⟩:=aau sY;have aaw:=jj;have Kq:n+1<ops.toList.length:=by
       grind
      rw[aPM Kq]at aaw;injection aaw with aLU aax
      have aqS:n+2<ops.toList.length:=by
       grind
      rw[aPM aqS]at aax;injection aax with aLV aqT
      have aLW:ops[n+1]?=some gS:=by
       grind
      have R5:d2<C.bZ:=by
       grind [List.getElem_mem,mV]
      rw[h5,h5]at hm;have cj:Region.wanted o (yielded ops a.tmps)=true:=by grind [Region.wanted]
      have dN:∀ a':Act,Region.wanted gS (yielded ops a'.tmps)=true:=λa'=>by grind [Region.wanted]
      have hF:∀ a':Act,Region.wanted nA (yielded ops a'.tmps)=true:=λa'=>by grind [Region.wanted]
      have:=aqy (Q:=Q)   aU f1 f2 f3 f4 f5 f6 f7 f8 f9 f10 f11 f12 (bo d1 f2) R5 gT gW hm.1 hm.2.1
       λa' w' bk=>aav os.length (by grind) os rfl (n+3) [] _ a' w' aqT (λp ai=>by grind) bk hm.2.2
      simp  [aRn,wpOpsIn];grind
     ·exact hm.1.elim
  split at hm
  ·exact hm.1.elim
  ·rename_i aD;have aLX:o.guard=none:=by
    cases h:o.guard with
    | none=>rfl
    | some p=>
     grind [ma]
   rw[Ly gW aD];split at hm
   ·rename_i res gT;rw[A_ λU=>(R2 A'   (λk ak=>by grind) U).run s.aa res gT,A_ λU=>(Gs U).run s.aa res gT]at hm;refine Oper.wpIn_mono (λa' w' bk=>aP (n+1) _ _ a' w' jj (A'.iV (λi G=>?_) λd k _ ak=>by grind) bk hm.2.2) (C_ aU dn Lz gT a w kap F Q gW hm.1 hm.2.1);grind [aB.jE,aB.G5,aB.Dc]
   ·split at hm
    ·rename_i cI ra;obtain⟨fs,fQ,mu⟩:=RZ aU dn dG bo ra;rw[A_ λU=>mu (QA U),fN]at hm;exact fs a w Q _ ⟨kap,F,gW⟩ hm.1 (hm.2.mono λy ba a' w' bk=>aP (n+1) _ _ a' w' jj (λp ai=>by grind) bk ba)
    ·exact hm.1.elim
  ·rename_i g aD;have LA:∀ k,o.guard=some k->g=true->ma s.aA ops (some k)=some (some true):=λk ak aH=>by grind
   rw[Ly gW aD];split at hm
   ·rename_i cy c aqU aqV gT;split at hm
    ·rename_i jC hn yJ;obtain⟨aqW,aqX⟩:=aqM yJ gT;rw[A_ λU=>by
      simp  at U;exact λG6=>⟨(R2 A' (λk ak=>LA k ak G6) U.1).run s.aa _ gT,(Gs U.2.1).run s.aa _ gT,aqQ A' (λk ak=>LA k ak G6) yJ gT U.2.2⟩]at hm
     have G7:sX ops ((s.iw jC).set o.dst (.ks g (use hn).2)) (AS ops e9 o):=A'.iV (λi G=>by rw[aB.G5 G,aB.Dc]) λd k ax ak=>⟨g,(use hn).2,by rw[ax,aB.R3],by grind⟩
     cases g with
     | true=>
      obtain⟨E,L,an⟩:=hm.1 rfl;refine Oper.wpIn_mono (λa' w' bk=>aP (n+1) _ _ a' w' jj G7 (dd.Rv   (aqW a' w' bk) bo λkap F v af=>⟨λ_=>qW af an,λh=>(by grind)⟩) hm.2) (C_ aU dn Lz gT a w kap F Q gW E L)
     | false=>
      refine⟨λ_ _=>trivial,aP (n+1) _ _ _ w jj G7 ?_ hm.2⟩;obtain⟨bT,F',aqY⟩:=aqX a w kap F gW;exact⟨bT,F',aqY.set   bo ⟨λh=>(by grind),λ_=>rfl⟩⟩
    ·cases g with
     | true=>
      simp  at hm ⊢;rw[h5,h5]at hm;exact Oper.wpIn_mono (λa' w' bk=>aP (n+1) _ _ a' w' jj (λp ai=>by grind) bk hm.2.2) (C_ aU dn Lz gT a w kap F Q gW hm.1 hm.2.1)
     | false=>
      exact⟨λ_ _=>trivial,aP (n+1) _ _ _ w jj (λp ai=>by grind) ⟨kap,F,gW.set (av:=.ks false (ZN aqV (use aqU).2)) bo ⟨λh=>(by grind),λ_=>rfl⟩⟩ hm⟩
   ·split at hm
    ·rename_i cI ra;obtain⟨fs,fQ,mu⟩:=RZ aU dn dG bo ra;split at hm
     ·rename_i gs px;obtain⟨cU,cO⟩:=fQ gs px;rw[A_ λU G6=>mu (aas A' (λk ak=>LA k ak G6) U),fN]at hm;have G7:∀ y,sX ops (gs g y) (AS ops e9 o):=λy=>by
       obtain⟨v,af⟩:=aqR ra px g y;exact A'.iV (λi G=>by rw[af,aB.G5 G]) λd k ax ak=>⟨g,v,by grind [aB.R3],by grind⟩
      cases g with
      | true=>
       exact fs a w Q _ ⟨kap,F,gW⟩ (hm.1 rfl) (hm.2.mono λy ba a' w' bk=>aP (n+1) _ _ a' w' jj (G7 y) (cU y a' w' bk) ba)
      | false=>
       exact⟨λ_ _=>trivial,aP (n+1) _ _ _ w jj (G7 cI.d) (cO a w ⟨kap,F,gW⟩) (by
        have h:=hm.2;exact h.2 cI.d rfl)⟩
     ·cases g with
      | true=>
       simp  at hm ⊢;rw[h5,fN]at hm;exact fs a w Q _ ⟨kap,F,gW⟩ hm.1 (hm.2.mono λy ba a' w' bk=>aP (n+1) _ _ a' w' jj (λp ai=>by grind) bk ba)
      | false=>
       exact⟨λ_ _=>trivial,aP (n+1) _ _ _ w jj (λp ai=>by grind) ⟨kap,F,gW.set (av:=.ks false (use ((cI.ad cI.d).aA (o.dst.getD 0))).2) bo ⟨λh=>(by grind),λ_=>rfl⟩⟩ hm⟩
    ·exact hm.1.elim
end
end Go.Fer
namespace Go.Fer
open Go.RowKit
section
variable {C:cH} {T:Nat->V} {br:Nat->Option aO} {s:aB} {res:ez}
variable {P:Program}
theorem aqZ:∀ (t:V),t.oE=true->∀ {F F':Nat->Prop} {w w':World} {cs:List Value} {x:t.aj},cw P t F w cs x->cw P t F' w' cs x:=by
 intro t;induction t with
 | bool=>intro _ F F' w w' cs x h;exact h
 | int k=>intro _ F F' w w' cs x h;exact h
 | str=>intro _ F F' w w' cs x h;exact h
 | dc=>intro hc;cases hc
 | ad t aP=>intro hc F F' w w' cs x h;exact aP hc h
 | ar a b hi gj=>
  grind [V.oE,cw]
 | slice e aP=>intro hc;cases hc
 | array n e aP=>intro hc;cases hc
 | bO e aP=>intro hc;cases hc
 | map k v zW zX=>intro hc;cases hc
 | fn a b hi gj=>intro hc;cases hc
 | cG a aP=>intro hc;cases hc
 | eW=>intro hc;cases hc
 | cM e aP=>intro hc;cases hc
theorem aay{t:V}(h:t.oE=true){F F':Nat->Prop}{w w':World}{v:Value}{x:t.aj}(af:fr P t F w v x):fr P t F' w' v x:=⟨af.1,aqZ t h af.2⟩
theorem LB(a:Act){i j:Nat}(h:i≠j)(v u:Value):(a.put (some i) v).put (some j) u=(a.put (some j) u).put (some i) v:=by
 simp  [Act.put];grind
theorem LC{ty ny C4:TypeId}(G:P.underlying ty=some (.map ny C4)){r:Nat}{ms:Array MapEntry}{clk:Nat}{w:World}(hw:w.heap[r]?=some (.map ms clk)){key u:Value}{f:Option (Nat×Value)}
  (fg:(Instr.checkKey ms.isEmpty 10000 ny key).run P w=.ok () w) (ay:(Instr.findKey ny key ms.toList).run P w=.ok f w) (hu:(∃ i,f=some (i,u))\/(f=none/\(zeroValue C4).run P w=.ok u w)) :
  (Instr.lookup ty (.map (some r)) key false).run P w=.ok u w:=by
 have f':(getObj r).run P w=.ok (.map ms clk) w:=by grind [getObj,Sem.run]
 rcases hu with⟨i,rfl⟩ | ⟨rfl,bA⟩
 ·simp_all[Instr.lookup,en]
 simp_all[Instr.lookup,en]
theorem aq0(aU:eg C.P T){ia jH lN:Oper}{ty:TypeId}{m x y:Operand}(kn:ia.op=.lookup ty m x false)(my:jH.op=.mapEntry ty m x)(iK:lN.op=.mapUpdate ty m x y){s2:aB}(w6:s2.aa=s.aa)
  (cS:bh C.aX s2.aA m=bh C.aX s.aA m) (An:bh C.aX s2.aA x=bh C.aX s.aA x) (h:(iv C.aX T br (bh C.aX s2.aA) lN).run s2.aa=some res)
  {a:Act} {w:World} {kap:Nat->bL} {F:Nat->Prop} (D:bu C s a w kap F) (R6:(use (bh C.aX s.aA m)).1) (R7:(use (bh C.aX s.aA x)).1) :
  ∃ u n wE,∀ a':Act,a'.eval m=a.eval m->a'.eval x=a.eval x->
   (execOp a'.eval ia).run C.P w=.ok (.value u) w/\(execOp a'.eval ia).run C.P wE=.ok (.value u) wE/\(execOp a'.eval jH).run C.P w=.ok (.value (.tuple #[u,goInt n])) wE:=by
 simp only[iv,e1,iK,cP,vd,cS,An,w6]at h;split at h
 ·rename_i k v aH;obtain⟨ny,C4,G,po,ki⟩:=(aU.ca aH (by simp)).mp;obtain⟨inf,oR,i1,i2,i3,i4,i5,i6⟩:=nv ki.nu;split at h
  ·rename_i A9;split at h
   ·rename_i b g w9;simp only[aF.fZ,amj,aF.run_bind,aF.gR,aF.dC]at h;obtain⟨⟨eS,sH⟩,al,⟨sN,lj⟩,ba,h⟩:=h;split at h
    ·rename_i aD;obtain⟨aD,_⟩:=aD;split at h
     ·rename_i k' iu es U;simp only[aP9]at h;obtain⟨Y6,rL,rfl⟩:=h;obtain⟨e,rfl⟩:=mO rL;cases e;have hm:bM C.P s.aa kap F w (use (bh C.aX s.aA m)).2 (a.eval m):=db D m rfl R6;rw[w9]at hm;have mU:=hm.2 aD.symm (by rw[U];rfl);have gE:k.oE=true/\k.nw<=100:=by simpa [yl]using A9
      have w_:=F2 D al (db D x rfl R7);have LD:∀ (F':Nat->Prop) w',fr C.P k F' w' (a.eval x) eS:=λF' w'=>aay gE.1 w_;have a1:=D.bF b;unfold c6 at a1;rw[U]at a1;obtain⟨ms,clk,hw,q3⟩:=a1;have fg:∀ em w',(Instr.checkKey em 10000 ny (a.eval x)).run C.P w'=.ok () w':=λem w'=>(Gf (em:=em) (F:=λ_=>True) k 10000 gE.1 (by omega)).1 po (LD _ w');have aaz:=q3.es;have aq1:∀ (j:Nat) (e:MapEntry) (p:k.aj×v.aj),ms.toList[j]?=some e->es[j]?=some p->∀ (F':Nat->Prop) w',fr C.P k F' w' e.key p.1:=λj e p E L F' w'=>aay gE.1 (aaz.2 j e p E L).1;obtain⟨f,cU,cO⟩:=Ay (F:=λ_=>True) (w:=w) (bet:=v.aj) (xs:=es) (es:=ms.toList) A9 po (LD _ w) aaz.1 (λj e p E L=>aq1 j e p E L _ w);have f':(getObj (kap b).aa).run C.P w=.ok (.map ms clk) w:=by simp[getObj,Sem.run,hw]
      obtain⟨ir,Qq,Qr,Y7⟩:=q3;have dv:(kap b).aa<w.heap.size:=(Array.getElem?_eq_some_iff.1 hw).1;have bA:∀ w',(zeroValue C4).run C.P w'=.ok oR w':=λw'=>sJ i1 i4;have LF:∀ (a':Act) (w':World) (u:Value),a'.eval m=a.eval m->a'.eval x=a.eval x->(Instr.lookup ty (.map (some (kap b).aa)) (a.eval x) false).run C.P w'=.ok u w'->(execOp a'.eval ia).run C.P w'=.ok (.value u) w':=by
       intro a' w' u aE bz bk;simp only[execOp,kn,aE,bz,mU,Sem.run_bind,bk,Result.andThen_ok,Sem.run_pure]
      have aLY:∀ q:k.aj,ji k eS q=true<->eS=q:=λq=>Qm k gE.1 eS q;rcases cO with⟨rfl,eM⟩ | ⟨j,e,p,dt,ei,j2,g4,rfl⟩
      ·let cj:World:={ w with heap:=w.heap.setIfInBounds (kap b).aa (.map (ms.push { key:=a.eval x,val:=oR,born:=clk }) (clk+1)) }
       have pq:cj.heap[(kap b).aa]?=some (.map (ms.push { key:=a.eval x,val:=oR,born:=clk }) (clk+1)):=by grind
       obtain⟨kv,cq,c7⟩:=Ay (F:=λ_=>True) (w:=cj) (bet:=v.aj) (xs:=es++[(eS,v.dU)]) (es:=(ms.push { key:=a.eval x,val:=oR,born:=clk }).toList) A9 po (LD _ cj) (by grind) (λj e p E L=>by
        grind)
       have vC:∃ i,kv=some (i,oR):=by
        rcases c7 with⟨_,fL⟩ | ⟨j,e,p,s1,s2,fh,mZ,rfl⟩
        ·have:=fL (eS,v.dU) (by simp);grind
        ·by_cases aK:j<es.length
         ·grind
         grind
       refine⟨oR,clk,cj,λa' aE bz=>⟨LF a' w oR aE bz (LC G hw (fg _ w) cU (.inr ⟨rfl,bA w⟩)),LF a' cj oR aE bz (LC G pq (fg _ cj) cq (.inl vC)),?_⟩⟩;simp only[execOp,my,aE,bz,mU,Instr.mapEntry,Sem.run_bind,en G,Result.andThen_ok,f',fg,cU,bA,vm hw,Sem.run_pure];rfl
      ·have aK:j<es.length:=(List.getElem?_eq_some_iff.1 ei).1;have Z3:j<ms.size:=by omega
       have aob:ms[j]=e:=by
        grind
       obtain⟨qh,cj,t1,bX,cX⟩:=Qo C.P w e.key (a.eval x);have pq:cj.heap[(kap b).aa]?=some (.map ms clk):=by rcases cX with rfl | rfl<;>exact hw
       have aLZ:(kap b).aa<cj.heap.size:=(Array.getElem?_eq_some_iff.1 pq).1;have oN:((ms[j]?).map (·.key)).getD (a.eval x)=e.key:=by
        grind
       let dN:={ cj with heap:=cj.heap.setIfInBounds (kap b).aa (.map (ms.modify j λe=>{ e with key:=qh }) clk) }
       have gz:dN.heap[(kap b).aa]?=some (.map (ms.modify j λe=>{ e with key:=qh }) clk):=by grind
       obtain⟨kv,cq,c7⟩:=Ay (F:=λ_=>True)     (xs:=es) (es:=(ms.modify j λe=>{ e with key:=qh }).toList) A9 po (LD _ dN) (by grind) (λi aZ p' E L=>by
        grind)
       have vC:∃ i,kv=some (i,e.val):=by
        rcases c7 with⟨_,fL⟩ | ⟨i,aZ,p',s1,s2,fh,mZ,rfl⟩<;>grind
       refine⟨e.val,ms[j].born,dN,λa' aE bz=>⟨LF a' w e.val aE bz (LC G hw (fg _ w) cU (.inl ⟨_,rfl⟩)),LF a' dN e.val aE bz (LC G gz (fg _ dN) cq (.inl vC)),?_⟩⟩;simp  [execOp,my,aE,bz,mU,Instr.mapEntry,en G,f',fg,cU];grind [Result.andThen_ok,vm,Sem.run_pure]
     grind
    grind
   ·cases h
  ·cases h
 ·cases h
end
end Go.Fer
